/-
  PROVED: after DoCold a partition behaves as a new one at the same time; after DoWarm, and after DoIdle, its memory remains; in ModeIdle nothing runs.
  Conditions: those of the tied card alone: the package variables that the row lists are laid as the given tie says.
-/
import Derived.Test.YtiepijihpgijbaaGreatDoorTie
import Derived.Test.YtiepijihpgijbaaGreatDoorCards
import Derived.SevenTiedAt
import Derived.Test.YtiepijihpgijbaaGreatDoorA30
import Derived.Test.YtiepijihpgijbaaGreatDoorQ27
set_option maxHeartbeats 0
set_option maxRecDepth 100000
set_option linter.all false
open Option renaming none→O,some→Z
open Go.Value renaming int→I,slice→Y
open Go.IntKind renaming i64→J
open Go.Proofs.Tryz renaming f6→aa
open Go.DataW renaming trod_lt→ab
open Go renaming trodAll_cons_mk→ac
open Option.some renaming inj→ad
open Go.OpenSpec renaming ofChange→aj
open Go.RowKit.Below renaming trod→ak
namespace Go.Proofs.YtiepijihpgijbaaGreatDoor
open Go.Proofs.Tryz Go.ChangeShapes Go.WideShapes Go.ChangeAt Go.RowKit
namespace partAnew
def own:ownKnob prog.godebug=O:=by kernel_rfl
def laidOut:laidOutB prog=true:=by kernel_rfl
def ZA(os:Os):Input.okWideB prog (Fo os #[.agg #[.string ⟨#[]⟩,I J 0,I J 0,I J 0,Y O 0 0,I J 0,I J 0,Y O 0 0,Y O 0 0,Y O 0 0],Y O 0 0,Y O 0 0]) 6 ⟨#[],#[.agg #[.string ⟨#[]⟩,I J 0,I J 0,I J 0,Y O 0 0,I J 0,I J 0,Y O 0 0,Y O 0 0,Y O 0 0],Y O 0 0,Y O 0 0],[]⟩=true:=by kernel_rfl
def ZB{H:Type}(enc:TypeId×Value→H)(os:Os):Rows.partAnewSpec.preB enc prog aa [] false (Fo os #[.agg #[.string ⟨#[]⟩,I J 0,I J 0,I J 0,Y O 0 0,I J 0,I J 0,Y O 0 0,Y O 0 0,Y O 0 0],Y O 0 0,Y O 0 0]).memory #[.agg #[.string ⟨#[]⟩,I J 0,I J 0,I J 0,Y O 0 0,I J 0,I J 0,Y O 0 0,Y O 0 0,Y O 0 0],Y O 0 0,Y O 0 0] 8=true:=by kernel_rfl
def ZC{H:Type}(enc:TypeId×Value→H)(os:Os):Rows.partAnewSpec.sizedB enc prog aa false (Fo os #[.agg #[.string ⟨#[]⟩,I J 0,I J 0,I J 0,Y O 0 0,I J 0,I J 0,Y O 0 0,Y O 0 0,Y O 0 0],Y O 0 0,Y O 0 0]).memory #[.agg #[.string ⟨#[]⟩,I J 0,I J 0,I J 0,Y O 0 0,I J 0,I J 0,Y O 0 0,Y O 0 0,Y O 0 0],Y O 0 0,Y O 0 0] 8=true:=by kernel_rfl
def lifted(os:Os)(aq:os.Started)(H:Type)(enc:TypeId×Value→H):
  ReturnsInHanded {} checked os 6 .any (fun w args=>(Rows.partAnewSpec.pre enc prog aa [] false w args∧laidMetH prog EC w)∧sizedMet enc prog aa (aj Rows.partAnewSpec) false w args)
   (Rows.partAnewSpec.post enc prog aa false true false false):=by
 refine UO (C:=checked) (X:=fun w _=>laidMetH prog EC w) (fun _ _ _ hh h=>h.of_heap hh) own aq (by kernel_rfl) func6
  (ChangeSpec.witness_shaped (enc:=enc) (C:=checked) (os:=os) (X:=fun w _=>laidMetH prog EC w) false (World.doorLaid prog 88 os) #[.agg #[.string ⟨#[]⟩,.int J 0,.int J 0,.int J 0,Y O 0 0,.int J 0,.int J 0,Y O 0 0,Y O 0 0,Y O 0 0],Y O 0 0,Y O 0 0] 8 rfl (SP os _) (ZA os) (ZB enc os) (ZC enc os) (SI os _)) ?_
 intro W base args R gs aw o n aE d f _;have c:∀ (j:Nat) t v,Tryz.f6.params[j]? =Z t→args[j]? =Z v→Value.okWide prog W .any base t v:=o;have V:=n;obtain⟨p,q,hA0,S,rfl,aF,aG⟩:=n;have l:DataW.TrodAll enc prog W 0 (fun _=>true) true Tryz.f6.params.toList args.toList R p:=hA0;rw[params6] at l c;obtain⟨u,aL,d0,az,p0,q0,aD,rfl,rfl,g,r0⟩:=trodAll_cons l;obtain⟨y,aM,d1,aA,p1,q1,rfl,rfl,rfl,i,r1⟩:=trodAll_cons r0;obtain⟨z,aN,d2,aB,p2,q2,rfl,rfl,rfl,k,r2⟩:=trodAll_cons r1;obtain⟨rfl,rfl,rfl⟩:=trodAll_nil r2;obtain rfl:args=#[u,y,z]:=by cases args;simp_all
 obtain⟨rfl,rfl⟩:=trodVars_none S;have k0:=g;have af:∀ x∈p0,x.block<W.heap.size:=by obtain⟨m,a⟩:=k0;exact ab m _ _ _ a
 obtain⟨d0,ai,am,ae,ap,F,L,K,Q,M,P,N,rfl,A⟩:=PD (c 0 26 u rfl rfl) g;have r:=i;have ag:∀ x∈p1,x.block<W.heap.size:=by obtain⟨m,a⟩:=r;exact ab m _ _ _ a
 obtain⟨b1,aH,ax,rfl⟩:=okWide_slice underlying27 (c 1 27 y rfl rfl);obtain⟨l1,O1⟩:=XJ i;have s:=k;have ah:∀ x∈p2,x.block<W.heap.size:=by obtain⟨m,a⟩:=s;exact ab m _ _ _ a
 obtain⟨b2,aI,ay,rfl⟩:=okWide_slice underlying27 (c 2 27 z rfl rfl);obtain⟨l2,E⟩:=XJ k;have B:=UI d f;have D:=UJ d f;clear hA0 o d f;refine(cC W.heap.size W B D d0 ai am ae ap F L K Q M P N A _ _ l1 l2 O1 E).mono fun e W' ⟨he,b⟩=>?_;subst he;exact⟨_,rfl,_,_,_,[],_,[],V,trodAll_mk1 (shut_bool underlying4 _),(ac (ak laidOut (by kernel_rfl) (of_decide_eq_true (by kernel_rfl)) k0 b af) (ac (ak laidOut (by kernel_rfl) (of_decide_eq_true (by kernel_rfl)) r b ag) (ac (ak laidOut (by kernel_rfl) (of_decide_eq_true (by kernel_rfl)) s b ah) trodAll_mk0))),rfl,b.frame _,fun h=>by cases h⟩
def closed:joinedFacts prog 6 aa Rows.partAnewSpec Rows.partAnewRow=true:=by
 unfold joinedFacts;simp only[Bool.and_eq_true]
 repeat' (refine And.intro ?_ ?_)
 all_goals as_aux_lemma=>kernel_rfl
def over:Rows.partAnewRow.holds Tryz.pinned (aj Rows.partAnewSpec):=
 OpenClaim.holds_of_wide 6 aa rfl rfl rfl rfl rfl rfl rfl ⟨rfl,rfl,rfl,rfl,rfl⟩ rfl rfl rfl rfl rfl (by as_aux_lemma=>kernel_rfl) func6 closed
  (of_decide_eq_true (by as_aux_lemma=>kernel_rfl)) (by unfold Func.isWrapper;first|(rw[if_pos (by decide+kernel)];kernel_rfl)|(rw[if_neg (by decide+kernel)];exact⟨rfl,rfl⟩))
  (fun os a H enc _=>lifted os a H enc)
theorem proved:Rows.PartAnewCardSaid:=
 Claim7.holds_tied_plain_at .later [] [.data,.data,.data,.data,.funcs,.listed,.data,.data] true (true, "5f13b43921ca91f12f11577836aec8b013d362875839c56832d8e4587fa36256") false
  over (fun _ h=>by cases h) (by as_aux_lemma=>kernel_rfl) (fun _ h=>by cases h) partAnew_row_tie rfl ⟨rfl,rfl⟩ (by as_aux_lemma=>kernel_rfl) rfl
  (fun f b d e=>by
   obtain rfl:f=6:=ad ((show prog.funcNamed "nacelle/nacellelaw27.PartAnew" =Z 6 by kernel_rfl).symm.trans d)|>.symm;obtain rfl:b=aa:=(ad (func6.symm.trans e)).symm;exact⟨by kernel_rfl,fun j t a=>by
    rw[params6] at a;have g:t∈ [26,27,27]:=by simpa using Array.mem_of_getElem? a
    have c:([26,27,27].all fun u=>!prog.wantsStandIn u)=true:=by kernel_rfl
    exact(show prog.wantsStandIn t=false by simpa using List.all_eq_true.1 c t g)⟩)
  (by as_aux_lemma=>kernel_rfl)
end partAnew
end Go.Proofs.YtiepijihpgijbaaGreatDoor
