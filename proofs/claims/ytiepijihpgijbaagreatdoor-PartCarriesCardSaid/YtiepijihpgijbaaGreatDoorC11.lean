/-
  PROVED: a process that copies messages from a queuing port to another one sends each message that is delivered, in order; while it is stopped nothing is sent, and messages are lost only if the queue is full.
  Conditions: those of the tied card alone: the package variables that the row lists are laid as the given tie says.
-/
import Derived.Test.YtiepijihpgijbaaGreatDoorTie
import Derived.Test.YtiepijihpgijbaaGreatDoorCards
import Derived.SevenTiedAt
import Derived.Test.YtiepijihpgijbaaGreatDoorC10
import Derived.Test.YtiepijihpgijbaaGreatDoorQ7
set_option maxHeartbeats 0
set_option maxRecDepth 100000
set_option linter.all false
open Option renaming none→O,some→Z
open Go.Value renaming int→I,slice→Y
open Go.IntKind renaming u8→U
open Go.Proofs.Tryz renaming f7→ac
open Go.DataW renaming trod_lt→ad
open Go renaming trodAll_cons_mk→ae
open Option.some renaming inj→af
open Go.OpenSpec renaming ofChange→ag
open Go.RowKit.Below renaming trod→ak
namespace Go.Proofs.YtiepijihpgijbaaGreatDoor
open Go.Proofs.Tryz Go.ChangeShapes Go.WideShapes Go.ChangeAt Go.RowKit
namespace partCarries
def own:ownKnob prog.godebug=O:=by kernel_rfl
def laidOut:laidOutB prog=true:=by kernel_rfl
def ZA(os:Os):Input.okWideB prog (Fo os #[I U 0,Y O 0 0,Y O 0 0]) 7 ⟨#[],#[I U 0,Y O 0 0,Y O 0 0],[]⟩=true:=by kernel_rfl
def ZB{H:Type}(enc:TypeId×Value→H)(os:Os):Rows.partCarriesSpec.preB enc prog ac [] false (Fo os #[I U 0,Y O 0 0,Y O 0 0]).memory #[I U 0,Y O 0 0,Y O 0 0] 8=true:=by kernel_rfl
def ZC{H:Type}(enc:TypeId×Value→H)(os:Os):Rows.partCarriesSpec.sizedB enc prog ac false (Fo os #[I U 0,Y O 0 0,Y O 0 0]).memory #[I U 0,Y O 0 0,Y O 0 0] 8=true:=by kernel_rfl
def lifted(os:Os)(ah:os.Started)(H:Type)(enc:TypeId×Value→H):
  ReturnsInHanded {} checked os 7 .any (fun w args=>(Rows.partCarriesSpec.pre enc prog ac [] false w args∧laidMetH prog EC w)∧sizedMet enc prog ac (ag Rows.partCarriesSpec) false w args)
   (Rows.partCarriesSpec.post enc prog ac false true false false):=by
 refine UO (C:=checked) (X:=fun w _=>laidMetH prog EC w) (fun _ _ _ Q h=>h.of_heap Q) own ah (by kernel_rfl) func7
  (ChangeSpec.witness_shaped (enc:=enc) (C:=checked) (os:=os) (X:=fun w _=>laidMetH prog EC w) false (World.doorLaid prog 88 os) #[.int U 0,Y O 0 0,Y O 0 0] 8 rfl (SP os _) (ZA os) (ZB enc os) (ZC enc os) (SI os _)) ?_
 intro W base args L gs an o n ax d f _;have c:∀ (j:Nat) t v,Tryz.f7.params[j]? =Z t→args[j]? =Z v→Value.okWide prog W .any base t v:=o;have N:=n;obtain⟨p,q,hA0,M,rfl,ay,az⟩:=n;have l:DataW.TrodAll enc prog W 0 (fun _=>true) true Tryz.f7.params.toList args.toList L p:=hA0;rw[params7] at l c;obtain⟨u,aF,d0,aq,p0,q0,aw,rfl,rfl,g,r0⟩:=trodAll_cons l;obtain⟨y,aG,d1,ar,p1,q1,rfl,rfl,rfl,i,r1⟩:=trodAll_cons r0;obtain⟨z,aH,d2,au,p2,q2,rfl,rfl,rfl,k,r2⟩:=trodAll_cons r1;obtain⟨rfl,rfl,rfl⟩:=trodAll_nil r2;obtain rfl:args=#[u,y,z]:=by cases args;simp_all
 obtain⟨rfl,rfl⟩:=trodVars_none M;have k0:=g;have V:∀ x∈p0,x.block<W.heap.size:=by obtain⟨m,a⟩:=k0;exact ad m _ _ _ a
 obtain⟨K,rfl,rfl,rfl,A⟩:=open_int underlying5 (c 0 5 u rfl rfl) g;have r:=i;have aa:∀ x∈p1,x.block<W.heap.size:=by obtain⟨m,a⟩:=r;exact ad m _ _ _ a
 obtain⟨b1,aA,ao,rfl⟩:=okWide_slice underlying22 (c 1 22 y rfl rfl);obtain⟨R,rfl,aj,O1,ai⟩:=fG i;have s:=k;have ab:∀ x∈p2,x.block<W.heap.size:=by obtain⟨m,a⟩:=s;exact ad m _ _ _ a
 obtain⟨b2,aB,ap,rfl⟩:=okWide_slice underlying34 (c 2 34 z rfl rfl);obtain⟨S,rfl,F,B⟩:=fF k;have D:=UI d f;have E:=UJ d f;clear hA0 o d f;refine(eK W.heap.size W D E K (bounds_u8 A).1 (bounds_u8 A).2 _ _ R S O1 F B).mono fun e W' ⟨P,b⟩=>?_;subst P;exact⟨_,rfl,_,_,_,[],_,[],N,trodAll_mk1 (shut_bool underlying4 _),(ae (ak laidOut (by kernel_rfl) (of_decide_eq_true (by kernel_rfl)) k0 b V) (ae (ak laidOut (by kernel_rfl) (of_decide_eq_true (by kernel_rfl)) r b aa) (ae (ak laidOut (by kernel_rfl) (of_decide_eq_true (by kernel_rfl)) s b ab) trodAll_mk0))),rfl,b.frame _,fun h=>by cases h⟩
def closed:joinedFacts prog 7 ac Rows.partCarriesSpec Rows.partCarriesRow=true:=by
 unfold joinedFacts;simp only[Bool.and_eq_true]
 repeat' (refine And.intro ?_ ?_)
 all_goals as_aux_lemma=>kernel_rfl
def over:Rows.partCarriesRow.holds Tryz.pinned (ag Rows.partCarriesSpec):=
 OpenClaim.holds_of_wide 7 ac rfl rfl rfl rfl rfl rfl rfl ⟨rfl,rfl,rfl,rfl,rfl⟩ rfl rfl rfl rfl rfl (by as_aux_lemma=>kernel_rfl) func7 closed
  (of_decide_eq_true (by as_aux_lemma=>kernel_rfl)) (by unfold Func.isWrapper;first|(rw[if_pos (by decide+kernel)];kernel_rfl)|(rw[if_neg (by decide+kernel)];exact⟨rfl,rfl⟩))
  (fun os a H enc _=>lifted os a H enc)
theorem proved:Rows.PartCarriesCardSaid:=
 Claim7.holds_tied_plain_at .later [] [.data,.data,.data,.data,.funcs,.listed,.data,.data] true (true, "5f13b43921ca91f12f11577836aec8b013d362875839c56832d8e4587fa36256") false
  over (fun _ h=>by cases h) (by as_aux_lemma=>kernel_rfl) (fun _ h=>by cases h) partCarries_row_tie rfl ⟨rfl,rfl⟩ (by as_aux_lemma=>kernel_rfl) rfl
  (fun f b d e=>by
   obtain rfl:f=7:=af ((show prog.funcNamed "nacelle/nacellelaw27.PartCarries" =Z 7 by kernel_rfl).symm.trans d)|>.symm;obtain rfl:b=ac:=(af (func7.symm.trans e)).symm;exact⟨by kernel_rfl,fun j t a=>by
    rw[params7] at a;have g:t∈ [5,22,34]:=by simpa using Array.mem_of_getElem? a
    have c:([5,22,34].all fun u=>!prog.wantsStandIn u)=true:=by kernel_rfl
    exact(show prog.wantsStandIn t=false by simpa using List.all_eq_true.1 c t g)⟩)
  (by as_aux_lemma=>kernel_rfl)
end partCarries
end Go.Proofs.YtiepijihpgijbaaGreatDoor
