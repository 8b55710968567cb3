/-
  PROVED: in every tick of ModeNormal the process runs that is ready, or whose period has come, and has the greatest priority, the earliest time since which it has been ready, and the smallest index, in this order; every deadline that has passed is reported in this tick, each once, and besides them only a fault of the process that ran.
  Conditions: those of the tied card alone: the package variables that the row lists are laid as the given tie says.
-/
import Derived.Test.YtiepijihpgijbaaGreatDoorTie
import Derived.Test.YtiepijihpgijbaaGreatDoorCards
import Derived.SevenTiedAt
import Derived.Test.YtiepijihpgijbaaGreatDoorP10
import Derived.Test.YtiepijihpgijbaaGreatDoorQ7
set_option maxHeartbeats 0
set_option maxRecDepth 100000
set_option linter.all false
open Option renaming none→O,some→Z
open Go.Value renaming int→I,slice→Y
open Go.IntKind renaming i64→J
open Go.Proofs.Tryz renaming f3→ad
open Option.some renaming inj→ae
open Go.OpenSpec renaming ofChange→ag
open Go.DataW renaming trod_lt→ah
open Go.RowKit.Below renaming trod→ak
namespace Go.Proofs.YtiepijihpgijbaaGreatDoor
open Go.Proofs.Tryz Go.ChangeShapes Go.WideShapes Go.ChangeAt Go.RowKit
namespace partPicks
def own:ownKnob prog.godebug=O:=by kernel_rfl
def laidOut:laidOutB prog=true:=by kernel_rfl
def ZA(os:Os):Input.okWideB prog (Fo os #[.agg #[.string ⟨#[]⟩,I J 0,I J 0,I J 0,Y O 0 0,I J 0,I J 0,Y O 0 0,Y O 0 0,Y O 0 0],Y O 0 0]) 3 ⟨#[],#[.agg #[.string ⟨#[]⟩,I J 0,I J 0,I J 0,Y O 0 0,I J 0,I J 0,Y O 0 0,Y O 0 0,Y O 0 0],Y O 0 0],[]⟩=true:=by kernel_rfl
def ZB{H:Type}(enc:TypeId×Value→H)(os:Os):Rows.partPicksSpec.preB enc prog ad [] false (Fo os #[.agg #[.string ⟨#[]⟩,I J 0,I J 0,I J 0,Y O 0 0,I J 0,I J 0,Y O 0 0,Y O 0 0,Y O 0 0],Y O 0 0]).memory #[.agg #[.string ⟨#[]⟩,I J 0,I J 0,I J 0,Y O 0 0,I J 0,I J 0,Y O 0 0,Y O 0 0,Y O 0 0],Y O 0 0] 8=true:=by kernel_rfl
def ZC{H:Type}(enc:TypeId×Value→H)(os:Os):Rows.partPicksSpec.sizedB enc prog ad false (Fo os #[.agg #[.string ⟨#[]⟩,I J 0,I J 0,I J 0,Y O 0 0,I J 0,I J 0,Y O 0 0,Y O 0 0,Y O 0 0],Y O 0 0]).memory #[.agg #[.string ⟨#[]⟩,I J 0,I J 0,I J 0,Y O 0 0,I J 0,I J 0,Y O 0 0,Y O 0 0,Y O 0 0],Y O 0 0] 8=true:=by kernel_rfl
def lifted(os:Os)(aj:os.Started)(H:Type)(enc:TypeId×Value→H):
  ReturnsInHanded {} checked os 3 .any (fun w args=>(Rows.partPicksSpec.pre enc prog ad [] false w args∧laidMetH prog EC w)∧sizedMet enc prog ad (ag Rows.partPicksSpec) false w args)
   (Rows.partPicksSpec.post enc prog ad false true false false):=by
 refine UO (C:=checked) (X:=fun w _=>laidMetH prog EC w) (fun _ _ _ R h=>h.of_heap R) own aj (by kernel_rfl) func3
  (ChangeSpec.witness_shaped (enc:=enc) (C:=checked) (os:=os) (X:=fun w _=>laidMetH prog EC w) false (World.doorLaid prog 88 os) #[.agg #[.string ⟨#[]⟩,.int J 0,.int J 0,.int J 0,Y O 0 0,.int J 0,.int J 0,Y O 0 0,Y O 0 0,Y O 0 0],Y O 0 0] 8 rfl (SP os _) (ZA os) (ZB enc os) (ZC enc os) (SI os _)) ?_
 intro W base args M gs am n l au b c _;have f:∀ (j:Nat) t v,Tryz.f3.params[j]? =Z t→args[j]? =Z v→Value.okWide prog W .any base t v:=n;have P:=l;obtain⟨p,q,hA0,N,rfl,av,aw⟩:=l;have k:DataW.TrodAll enc prog W 0 (fun _=>true) true Tryz.f3.params.toList args.toList M p:=hA0;rw[params3] at k f;obtain⟨r,aG,d0,ao,p0,q0,ar,rfl,rfl,g,r0⟩:=trodAll_cons k;obtain⟨s,aH,d1,ap,p1,q1,rfl,rfl,rfl,i,r1⟩:=trodAll_cons r0;obtain⟨rfl,rfl,rfl⟩:=trodAll_nil r1;obtain rfl:args=#[r,s]:=by cases args;simp_all
 obtain⟨rfl,rfl⟩:=trodVars_none N;have k0:=g;have aa:∀ x∈p0,x.block<W.heap.size:=by obtain⟨m,d⟩:=k0;exact ah m _ _ _ d
 obtain⟨d0,ac,af,V,ai,A,D,B,L,E,K,F,rfl,u⟩:=PD (f 0 26 r rfl rfl) g;have o:=i;have ab:∀ x∈p1,x.block<W.heap.size:=by obtain⟨m,d⟩:=o;exact ah m _ _ _ d
 obtain⟨b1,ax,an,rfl⟩:=okWide_slice underlying27 (f 1 27 s rfl rfl);obtain⟨S,O1⟩:=XJ i;have y:=UI b c;have z:=UJ b c;clear hA0 n b c;refine(dB W.heap.size W y z d0 ac af V ai A D B L E K F u _ S O1).mono fun e W' ⟨Q,a⟩=>?_;subst Q;exact⟨_,rfl,_,_,_,[],_,[],P,trodAll_mk1 (shut_bool underlying4 _),(trodAll_cons_mk (ak laidOut (by kernel_rfl) (of_decide_eq_true (by kernel_rfl)) k0 a aa) (trodAll_cons_mk (ak laidOut (by kernel_rfl) (of_decide_eq_true (by kernel_rfl)) o a ab) trodAll_mk0)),rfl,a.frame _,fun h=>by cases h⟩
def closed:joinedFacts prog 3 ad Rows.partPicksSpec Rows.partPicksRow=true:=by
 unfold joinedFacts;simp only[Bool.and_eq_true]
 repeat' (refine And.intro ?_ ?_)
 all_goals as_aux_lemma=>kernel_rfl
def over:Rows.partPicksRow.holds Tryz.pinned (ag Rows.partPicksSpec):=
 OpenClaim.holds_of_wide 3 ad rfl rfl rfl rfl rfl rfl rfl ⟨rfl,rfl,rfl,rfl,rfl⟩ rfl rfl rfl rfl rfl (by as_aux_lemma=>kernel_rfl) func3 closed
  (of_decide_eq_true (by as_aux_lemma=>kernel_rfl)) (by unfold Func.isWrapper;first|(rw[if_pos (by decide+kernel)];kernel_rfl)|(rw[if_neg (by decide+kernel)];exact⟨rfl,rfl⟩))
  (fun os a H enc _=>lifted os a H enc)
theorem proved:Rows.PartPicksCardSaid:=
 Claim7.holds_tied_plain_at .later [] [.data,.data,.data,.data,.funcs,.listed,.data,.data] true (true, "5f13b43921ca91f12f11577836aec8b013d362875839c56832d8e4587fa36256") false
  over (fun _ h=>by cases h) (by as_aux_lemma=>kernel_rfl) (fun _ h=>by cases h) partPicks_row_tie rfl ⟨rfl,rfl⟩ (by as_aux_lemma=>kernel_rfl) rfl
  (fun f b d e=>by
   obtain rfl:f=3:=ae ((show prog.funcNamed "nacelle/nacellelaw27.PartPicks" =Z 3 by kernel_rfl).symm.trans d)|>.symm;obtain rfl:b=ad:=(ae (func3.symm.trans e)).symm;exact⟨by kernel_rfl,fun j t a=>by
    rw[params3] at a;have g:t∈ [26,27]:=by simpa using Array.mem_of_getElem? a
    have c:([26,27].all fun u=>!prog.wantsStandIn u)=true:=by kernel_rfl
    exact(show prog.wantsStandIn t=false by simpa using List.all_eq_true.1 c t g)⟩)
  (by as_aux_lemma=>kernel_rfl)
end partPicks
end Go.Proofs.YtiepijihpgijbaaGreatDoor
