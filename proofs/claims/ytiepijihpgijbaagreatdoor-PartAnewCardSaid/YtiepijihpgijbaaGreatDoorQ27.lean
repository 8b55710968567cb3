import Derived.Handed
import Derived.Stop.Joined
import Derived.Test.YtiepijihpgijbaaGreatDoorQ26
set_option maxHeartbeats 0
set_option linter.all false
open Option renaming none→O,some→Z
open Go renaming Value→aa
open Go.OpenSpec renaming ofChange→ab
open Go.DataW renaming laidRun→ac
open Go.Frame renaming enter→ad
namespace Go.Proofs.YtiepijihpgijbaaGreatDoor
open Go.Proofs.Tryz Go.ChangeShapes Go.WideShapes Go.ChangeAt Go.RowKit
def UO{H:Type}{enc:TypeId×aa→H}{a:Assume}{C:Checked}{os:Os}{f:FuncId}{b:Func}{s:ChangeSpec}{l:List PathCond}{d o p n:Bool}{X:World→Array aa→Prop}
  (u:∀ (w w':World) (args:Array aa),w.heap=w'.heap→X w args→X w' args)
  (own:ownKnob C.prog.godebug=O) (R:os.Started) (Q:C.prog.inits.idxOf? f=O) (z:C.prog.funcs[f]? =Z b)
  (S:∃ (w:World) (c:Tape) (i:Input),w.os=os∧(w.forCall c i).Shaped C.prog∧i.vars=[]∧Input.okWide C.prog (w.forCall c i) .any w.heap.size f i∧
   ((s.pre enc C.prog b l d (w.forCall c i).memory i.args∧X (w.forCall c i).memory i.args)∧sizedMet enc C.prog b (ab s) d (w.forCall c i).memory i.args)∧a.holds C.prog (lone (ad C.prog f i.args .normal) [] (w.forCall c i)))
  (q:∀ (W:World) (base:Nat) (args:Array aa) (g h:List (DataW H)) (k:List MemPlace),
   (∀ (j:Nat) t v,b.params[j]? =Z t→args[j]? =Z v→Value.okWide C.prog W .any base t v)→
   DataW.Whole enc C.prog b.params.toList s.vars d W args.toList g h k→
   l.all (PathCond.test C.prog ⟨b.params.toList,g,s.plain.varTypes C.prog,h⟩)=true→
   X W args→W.ShapedOpen C.prog→
   a.holds C.prog (lone (ad C.prog f args .normal) [] W)→
   Calls C.prog f args W fun e m=>∃ v,e=.returned v∧s.post enc C.prog b d o p n W args v m):
  ReturnsInHanded a C os f .any (fun w args=>(s.pre enc C.prog b l d w args∧X w args)∧sizedMet enc C.prog b (ab s) d w args) (s.post enc C.prog b d o p n):=by
 refine returnsInHanded_of_calls own R Q S ?_;intro w c i _ K _ D F B;obtain⟨_,_,_,r,A,_,_,_,_,L⟩:=D;have e:r=b:=Option.some.inj (A.symm.trans z);subst e;obtain⟨⟨⟨g,h,k,M,x⟩,P⟩,V⟩:=F;have N:=DataW.Whole.of_heap (w':=w.forCall c i) (by rfl) M;refine(q (w.forCall c i) w.heap.size i.args g h k L N x (u _ _ _ (by rfl) P) K B).mono fun e m ⟨v,y,E⟩=>?_;subst y;exact ChangeSpec.post_blind E
noncomputable def Fo(os:Os)(args:Array aa):World:=(World.doorLaid prog 88 os).forCall (fun _ _=>0) ⟨#[],args,[]⟩
def SJ(os:Os)(args:Array aa):(ac prog (Fo os args).memory 8 ((EC.filter fun x=>x.2.handleName?.isNone).map (·.1))).map (·.1)=Z (EC.filter fun x=>x.2.handleName?.isNone):=by kernel_rfl
def SK(os:Os)(args:Array aa):(ac prog (Fo os args).memory 8 ((EC.filter fun x=>x.2.handleName?.isNone).map (·.1))).map (fun x=>decide x.2.Nodup && laidRowsB prog (Fo os args).memory x.2)=Z true:=by kernel_rfl
def SL(os:Os)(args:Array aa):funcsRun prog (Fo os args).memory 8 ((funcsListed EC).map (·.1))=Z ((funcsListed EC).map (·.2.funcsOut)):=by kernel_rfl
def SM(os:Os)(args:Array aa):(EC.filter fun x=>x.2.handleName?.isSome && x.2.funcsIn?.isNone).all (handleAtB prog (Fo os args).memory)=true:=by kernel_rfl
def SN(os:Os)(args:Array aa):(Fo os args).variablesRefB prog=true:=by kernel_rfl
def SO(os:Os)(args:Array aa):((Fo os args).heap.toList.drop prog.globals.size).take ((begin prog (fun _ _=>0) default).world.heap.size-prog.globals.size)=(begin prog (fun _ _=>0) default).world.heap.toList.drop prog.globals.size:=by kernel_rfl
def SI(os:Os)(args:Array aa):laidMetH prog EC (Fo os args).memory:=
 laidMetH_of_parts3 (fuel:=8) (laidMet_of_run' 8 (SJ os args) (SK os args)) (SM os args) (SL os args)
def SP(os:Os)(args:Array aa):(Fo os args).Shaped prog:=World.shaped_of_RefB (SN os args) (SO os args)
end Go.Proofs.YtiepijihpgijbaaGreatDoor
