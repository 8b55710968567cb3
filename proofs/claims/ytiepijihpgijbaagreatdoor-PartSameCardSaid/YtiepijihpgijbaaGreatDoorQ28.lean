/-
  PROVED: two partitions with the same description behave alike under the same operations, whatever a third one does, and whether or not their state is looked at.
  Conditions: those of the tied card alone: the package variables that the row lists are laid as the given tie says.
-/
import Derived.Test.YtiepijihpgijbaaGreatDoorTie
import Derived.Test.YtiepijihpgijbaaGreatDoorCards
import Derived.SevenTiedAt
import Derived.Test.YtiepijihpgijbaaGreatDoorQ25
import Derived.Test.YtiepijihpgijbaaGreatDoorQ27
set_option maxHeartbeats 0
set_option maxRecDepth 100000
set_option linter.all false
open Option renaming none→O,some→Z
open Go.Value renaming int→I,slice→Y
open Go.IntKind renaming i64→J
open Go.Proofs.Tryz renaming f5→af
open Go.DataW renaming trod_lt→ag
open Go renaming trodAll_cons_mk→ai
open Option.some renaming inj→aj
open Go.OpenSpec renaming ofChange→ak
open Go.RowKit.Below renaming trod→au
namespace Go.Proofs.YtiepijihpgijbaaGreatDoor
open Go.Proofs.Tryz Go.ChangeShapes Go.WideShapes Go.ChangeAt Go.RowKit
namespace partSame
def own:ownKnob prog.godebug=O:=by kernel_rfl
def laidOut:laidOutB prog=true:=by kernel_rfl
def ZA(os:Os):Input.okWideB prog (Fo os #[.agg #[.string ⟨#[]⟩,I J 0,I J 0,I J 0,Y O 0 0,I J 0,I J 0,Y O 0 0,Y O 0 0,Y O 0 0],.agg #[.string ⟨#[]⟩,I J 0,I J 0,I J 0,Y O 0 0,I J 0,I J 0,Y O 0 0,Y O 0 0,Y O 0 0],Y O 0 0]) 5 ⟨#[],#[.agg #[.string ⟨#[]⟩,I J 0,I J 0,I J 0,Y O 0 0,I J 0,I J 0,Y O 0 0,Y O 0 0,Y O 0 0],.agg #[.string ⟨#[]⟩,I J 0,I J 0,I J 0,Y O 0 0,I J 0,I J 0,Y O 0 0,Y O 0 0,Y O 0 0],Y O 0 0],[]⟩=true:=by kernel_rfl
def ZB{H:Type}(enc:TypeId×Value→H)(os:Os):Rows.partSameSpec.preB enc prog af [] false (Fo os #[.agg #[.string ⟨#[]⟩,I J 0,I J 0,I J 0,Y O 0 0,I J 0,I J 0,Y O 0 0,Y O 0 0,Y O 0 0],.agg #[.string ⟨#[]⟩,I J 0,I J 0,I J 0,Y O 0 0,I J 0,I J 0,Y O 0 0,Y O 0 0,Y O 0 0],Y O 0 0]).memory #[.agg #[.string ⟨#[]⟩,I J 0,I J 0,I J 0,Y O 0 0,I J 0,I J 0,Y O 0 0,Y O 0 0,Y O 0 0],.agg #[.string ⟨#[]⟩,I J 0,I J 0,I J 0,Y O 0 0,I J 0,I J 0,Y O 0 0,Y O 0 0,Y O 0 0],Y O 0 0] 8=true:=by kernel_rfl
def ZC{H:Type}(enc:TypeId×Value→H)(os:Os):Rows.partSameSpec.sizedB enc prog af false (Fo os #[.agg #[.string ⟨#[]⟩,I J 0,I J 0,I J 0,Y O 0 0,I J 0,I J 0,Y O 0 0,Y O 0 0,Y O 0 0],.agg #[.string ⟨#[]⟩,I J 0,I J 0,I J 0,Y O 0 0,I J 0,I J 0,Y O 0 0,Y O 0 0,Y O 0 0],Y O 0 0]).memory #[.agg #[.string ⟨#[]⟩,I J 0,I J 0,I J 0,Y O 0 0,I J 0,I J 0,Y O 0 0,Y O 0 0,Y O 0 0],.agg #[.string ⟨#[]⟩,I J 0,I J 0,I J 0,Y O 0 0,I J 0,I J 0,Y O 0 0,Y O 0 0,Y O 0 0],Y O 0 0] 8=true:=by kernel_rfl
def lifted(os:Os)(aD:os.Started)(H:Type)(enc:TypeId×Value→H):
  ReturnsInHanded {} checked os 5 .any (fun w args=>(Rows.partSameSpec.pre enc prog af [] false w args∧laidMetH prog EC w)∧sizedMet enc prog af (ak Rows.partSameSpec) false w args)
   (Rows.partSameSpec.post enc prog af false true false false):=by
 refine UO (C:=checked) (X:=fun w _=>laidMetH prog EC w) (fun _ _ _ hh h=>h.of_heap hh) own aD (by kernel_rfl) func5
  (ChangeSpec.witness_shaped (enc:=enc) (C:=checked) (os:=os) (X:=fun w _=>laidMetH prog EC w) false (World.doorLaid prog 88 os) #[.agg #[.string ⟨#[]⟩,.int J 0,.int J 0,.int J 0,Y O 0 0,.int J 0,.int J 0,Y O 0 0,Y O 0 0,Y O 0 0],.agg #[.string ⟨#[]⟩,.int J 0,.int J 0,.int J 0,Y O 0 0,.int J 0,.int J 0,Y O 0 0,Y O 0 0,Y O 0 0],Y O 0 0] 8 rfl (SP os _) (ZA os) (ZB enc os) (ZC enc os) (SI os _)) ?_
 intro W base args ds gs aG o n aN d f _;have c:∀ (j:Nat) t v,Tryz.f5.params[j]? =Z t→args[j]? =Z v→Value.okWide prog W .any base t v:=o;have ah:=n;obtain⟨p,q,hA0,hV,rfl,aO,aP⟩:=n;have l:DataW.TrodAll enc prog W 0 (fun _=>true) true Tryz.f5.params.toList args.toList ds p:=hA0;rw[params5] at l c;obtain⟨u,aT,d0,aI,p0,q0,aM,rfl,rfl,g,r0⟩:=trodAll_cons l;obtain⟨y,aU,d1,aJ,p1,q1,rfl,rfl,rfl,i,r1⟩:=trodAll_cons r0;obtain⟨z,aV,d2,aK,p2,q2,rfl,rfl,rfl,k,r2⟩:=trodAll_cons r1;obtain⟨rfl,rfl,rfl⟩:=trodAll_nil r2;obtain rfl:args=#[u,y,z]:=by cases args;simp_all
 obtain⟨rfl,rfl⟩:=trodVars_none hV;have k0:=g;have an:∀ x∈p0,x.block<W.heap.size:=by obtain⟨m,a⟩:=k0;exact ag m _ _ _ a
 obtain⟨d0,aq,ax,al,aB,K,P,M,ad,R,ab,V,rfl,A⟩:=PD (c 0 26 u rfl rfl) g;have r:=i;have ao:∀ x∈p1,x.block<W.heap.size:=by obtain⟨m,a⟩:=r;exact ag m _ _ _ a
 obtain⟨d1,ar,ay,am,aC,L,Q,N,ae,S,ac,aa,rfl,B⟩:=PD (c 1 26 y rfl rfl) i;have s:=k;have ap:∀ x∈p2,x.block<W.heap.size:=by obtain⟨m,a⟩:=s;exact ag m _ _ _ a
 obtain⟨b2,aQ,aH,rfl⟩:=okWide_slice underlying27 (c 2 27 z rfl rfl);obtain⟨l2,F⟩:=XJ k;have D:=UI d f;have E:=UJ d f;clear hA0 o d f;refine(XZ W.heap.size W D E d0 aq ax al aB K P M ad R ab V d1 ar ay am aC L Q N ae S ac aa A B _ l2 F).mono fun e W' ⟨he,b⟩=>?_;subst he;exact⟨_,rfl,_,_,_,[],_,[],ah,trodAll_mk1 (shut_bool underlying4 _),(ai (au laidOut (by kernel_rfl) (of_decide_eq_true (by kernel_rfl)) k0 b an) (ai (au laidOut (by kernel_rfl) (of_decide_eq_true (by kernel_rfl)) r b ao) (ai (au laidOut (by kernel_rfl) (of_decide_eq_true (by kernel_rfl)) s b ap) trodAll_mk0))),rfl,b.frame _,fun h=>by cases h⟩
def closed:joinedFacts prog 5 af Rows.partSameSpec Rows.partSameRow=true:=by
 unfold joinedFacts;simp only[Bool.and_eq_true]
 repeat' (refine And.intro ?_ ?_)
 all_goals as_aux_lemma=>kernel_rfl
def over:Rows.partSameRow.holds Tryz.pinned (ak Rows.partSameSpec):=
 OpenClaim.holds_of_wide 5 af rfl rfl rfl rfl rfl rfl rfl ⟨rfl,rfl,rfl,rfl,rfl⟩ rfl rfl rfl rfl rfl (by as_aux_lemma=>kernel_rfl) func5 closed
  (of_decide_eq_true (by as_aux_lemma=>kernel_rfl)) (by unfold Func.isWrapper;first|(rw[if_pos (by decide+kernel)];kernel_rfl)|(rw[if_neg (by decide+kernel)];exact⟨rfl,rfl⟩))
  (fun os a H enc _=>lifted os a H enc)
theorem proved:Rows.PartSameCardSaid:=
 Claim7.holds_tied_plain_at .later [] [.data,.data,.data,.data,.funcs,.listed,.data,.data] true (true, "5f13b43921ca91f12f11577836aec8b013d362875839c56832d8e4587fa36256") false
  over (fun _ h=>by cases h) (by as_aux_lemma=>kernel_rfl) (fun _ h=>by cases h) partSame_row_tie rfl ⟨rfl,rfl⟩ (by as_aux_lemma=>kernel_rfl) rfl
  (fun f b d e=>by
   obtain rfl:f=5:=aj ((show prog.funcNamed "nacelle/nacellelaw27.PartSame" =Z 5 by kernel_rfl).symm.trans d)|>.symm;obtain rfl:b=af:=(aj (func5.symm.trans e)).symm;exact⟨by kernel_rfl,fun j t a=>by
    rw[params5] at a;have g:t∈ [26,26,27]:=by simpa using Array.mem_of_getElem? a
    have c:([26,26,27].all fun u=>!prog.wantsStandIn u)=true:=by kernel_rfl
    exact(show prog.wantsStandIn t=false by simpa using List.all_eq_true.1 c t g)⟩)
  (by as_aux_lemma=>kernel_rfl)
end partSame
end Go.Proofs.YtiepijihpgijbaaGreatDoor
