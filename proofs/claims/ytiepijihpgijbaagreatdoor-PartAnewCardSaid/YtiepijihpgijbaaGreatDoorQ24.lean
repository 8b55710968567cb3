import Derived.ProofKit
import Derived.OpenShut
import Derived.ShutString
import Derived.ChangeOld
import Derived.Deep.Slices
import Derived.Deep.Fields
import Derived.Lib.SmallJoins
import Derived.Test.YtiepijihpgijbaaGreatDoorQ23
set_option maxHeartbeats 8000000
set_option maxRecDepth 1000000
set_option linter.all false
open Go.Value renaming slice→Y,int→I,pointer→G
open Option renaming some→Z,none→O
open Go.IntKind renaming i64→J,u8→U
open Go.Obj renaming cells→T
open Go.DataW renaming trod→aY,trod_int→bb,trod_struct→bA,trod_string→bS,Trod→cu
open List renaming getElem?_eq_getElem→bi,setIfInBounds_toArray→bk,getElem_mem→bp,getElem?_eq_some_iff→bq,length_map→bt,set_cons_zero→bu,set_cons_succ→bw,getElem?_map→bB,not_mem_nil→bD,mem_cons→bQ,mem_map→bU,getD_eq_getElem?_getD→bX,getElem_append_right→bZ,getElem_append_left→b2,getElem?_eq_none→b6,getElem_map→ca
open Nat renaming le_refl→bj,le_trans→bx,zero_le→bI,zero_add→b4,add_zero→b5,mul_one→b8,lt_of_lt_of_le→b9,succ_pos→ct
open Go renaming heap_alloc_new→bl,Value→bm,World→bn,TypeId→bY,MemPlace→cn,Calls→cq,Addr→cv
open Go.RowKit.Below renaming refl→bo,heap_alloc→bW
open Go.Value.slice renaming injEq→bz
open Option renaming map_eq_some_iff→bC
open Option.some renaming injEq→bE
open Go.Builtin renaming append_→bV
open Go.Value renaming int→b1,slice→cr
open And renaming intro→b3
open Go.Lib renaming wpList_append_run→b7
open Go.Addr.mk renaming injEq→cm
open Go.Deep renaming open_slice→cp
namespace Go.Proofs.YtiepijihpgijbaaGreatDoor
open Go.RowKit Tryz Go.ChangeShapes Go.WideShapes Go.ChangeAt
def Ow:EG 18:=fun _ _=>by kernel_rfl
def R6(W:bn)(q:Nat)(a:bY):(bV #[22,22] a #[Y (Z ⟨q,0,O⟩) 0 0,Y O 0 0]).run prog W=.ok (Y (Z ⟨q,0,O⟩) 0 0) W:=by
 simp[go_sem]
def PF{W:bn}{B q n m cap:Nat}{v:bm}{b ys:List bm}(h:W.ownsRow B 3 1 v n b)(f:B≤W.heap.size)(w:n+m≤1000)(l:ys.length=m)(g:∀ j u,ys[j]? =Z u→W.cell? ⟨q,j,O⟩=Z u)(e:∀ u∈ys,u.oneCell'=true)(d:bY):
  ∃ a c w',(bV #[22,22] d #[v,Y (Z ⟨q,0,O⟩) m cap]).run prog W=.ok (Y a (n+m) c) w'∧w'.ownsRow B 3 1 (Y a (n+m) c) (n+m) (b++ys)∧W.grownBy w' v.ownBlock:=by
 obtain⟨s,i,o,p,r⟩:=info_parts Hs;obtain⟨x,w',t,r2,r3,_,_⟩:=run_append_own_at (P:=prog) W B 22 d 3 s _ 1 8 underlying22 i o p r rfl (by decide) v n b h ⟨q,0,O⟩ m cap ys (by rw[l,b8]) (fun j u k=>by rw[Cu];simpa using g j u k) e (by unfold maxLen;omega) (by omega) f;obtain⟨a,c,rfl⟩:=Bq r2;exact⟨a,c,w',t,r2,r3⟩
def He(w:bn)(v:bm)(l:List Int):Prop:=(v=Y O 0 0∧l=[])∨∃ q c,v=Y (Z ⟨q,0,O⟩) l.length c∧q<w.heap.size∧0<l.length∧∀ j (a:j<l.length),w.cell? ⟨q,j,O⟩=Z (I J l[j])
def He.one{w:bn}{q:Nat}{x:Int}(h:w.heap[q]? =Z (T #[I J x] 3 (0,0))):He w (Y (Z ⟨q,0,O⟩) 1 1) [x]:=.inr ⟨q,1,rfl,Aa h,ct _,fun j a=>by
 have a:j<1:=a;obtain rfl:j=0:=by omega
 exact Cr h⟩
def He.three{w:bn}{q:Nat}{x y z:Int}(h:w.heap[q]? =Z (T #[I J x,I J y,I J z] 3 (0,0))):He w (Y (Z ⟨q,0,O⟩) 3 3) [x,y,z]:=.inr ⟨q,3,rfl,Aa h,ct _,fun j a=>by
 have a:j<3:=a;rcases(show j=0∨j=1∨j=2 by omega) with rfl|rfl|rfl<;>exact Cr h⟩
def App(w w':bn)(g:Nat)(v:bm)(l:List Int):Prop:=Bl w w'∧w'.ownsRow (w.heap.size+1) 3 1 v l.length (l.map (b1 J))∧w'.heap[g]? =Z (T #[I U 0,I J 0,I J 0,I J 0] 64 (0,0))
def OP{w W c:bn}{v f:bm}{p:List bm}{n:Nat}{l:List Int}(a:Bl w W)(o:w.heap.size<W.heap.size)(g:W.heap[w.heap.size]? =Z (T #[I U 0,I J 0,I J 0,I J 0] 64 (0,0)))(k:W.ownsRow (w.heap.size+1) 3 1 v n p)(h:W.grownBy c v.ownBlock)(m:c.ownsRow (w.heap.size+1) 3 1 f l.length (l.map (b1 J))):App w c w.heap.size f l:=by
 have d:=fun b=>F8 (b:=b) k;refine⟨⟨h.os.trans a.os,h.tape.trans a.tape,h.output.trans a.output,bx a.size h.size,fun j i=>(h.block j (by omega) (fun e=>by have:=(d j e.symm).1;omega)).trans (a.block j i)⟩,m,?_⟩;exact(h.block _ o (fun e=>by have:=(d _ e.symm).1;omega)).trans g
def Jb(f:Int)(v:bm)(l:List Int)(w:bn)(hl:l.length≤3)(h:He w v l):
  cq prog 18 #[I U f,v] w fun e w'=>e=.returned (.agg #[I U f,I J (l.getD 0 0),I J (l.getD 1 0),I J (l.getD 2 0)])∧Bl w w':=by
 obtain⟨i,E⟩:=ex ((w.alloc (T #[I U 0,I J 0,I J 0,I J 0] 64)).alloc (T #[] 3));have N:Bl w i:=by rw[E];exact DX w _ _
 have ak:i.heap[w.heap.size]? =Z (T #[I U 0,I J 0,I J 0,I J 0] 64 (0,0)):=by rw[E];exact(Da w _ _).1
 have al:i.heap[w.heap.size+1]? =Z (T #[] 3 (0,0)):=by rw[E];exact(Da w _ _).2
 have a0:w.heap.size+1<i.heap.size:=Aa al;have S:i.ownsRow (w.heap.size+1) 3 1 (Y (Z ⟨w.heap.size+1,0,O⟩) 0 0) 0 []:=⟨by simp,.inr ⟨w.heap.size+1,0,#[],rfl,bj _,al,by simp⟩⟩;have ao:Hq (∃ a1 c1 k,(∀ C,(bV #[22,22] C #[Y (Z ⟨w.heap.size+1,0,O⟩) 0 0,v]).run prog i=.ok (Y a1 l.length c1) k)∧App w k w.heap.size (Y a1 l.length c1) l):=by
  rcases h with ⟨rfl,rfl⟩|⟨q,c,rfl,hq,h0,hc⟩
  ·exact⟨_,_,i,fun C=>R6 i _ C,N,S,ak⟩
  ·have B:=fun C=>PF (q:=q) (m:=l.length) (cap:=c) (ys:=l.map (b1 J)) S (by omega) (by omega) (by simp) (fun j u d=>by
    rw[bB] at d;have Q:j<l.length:=by
     rcases Nat.lt_or_ge j l.length with h|h
     ·exact h
     ·rw[b6 h] at d;cases d
    rw[bi Q] at d;simp only[Option.map_some,bE] at d;rw[←d];exact(N.cell (p:=⟨q,j,O⟩) hq).trans (hc j Q)) (fun u d=>by obtain⟨x,_,rfl⟩:=bU.1 d;rfl) C
   obtain⟨a,c',w',r1,r2,r3⟩:=B 22;rw[b4] at r1 r2;exact⟨a,c',w',fun C=>r1,OP N (by omega) ak S r3 r2⟩
 obtain⟨a1,c1,k,aG,ai,aB,aj⟩:=ao.o;have aJ:=ai.size;have ax:=Aa aj;obtain⟨W2,M⟩:=ex (k.alloc (T #[I J 0,I J 0,I J 0] 3));have A:Bl k W2:=by rw[M];exact(bo _ k).alloc (bj _) _
 have az:W2.heap[k.heap.size]? =Z (T #[I J 0,I J 0,I J 0] 3 (0,0)):=by rw[M];exact bl _ _
 have am:=Bp aB (w':=W2) fun b _ H=>A.block b H
 obtain⟨a4,c4,V,aH,aC,ay⟩:=PF (q:=k.heap.size) (m:=3) (cap:=3) (ys:=[I J 0,I J 0,I J 0]) am (by have:=A.size;omega) (by omega) rfl (fun j u d=>by
  have Q:=(bq.1 d).1;rw[Cr az];simpa using d) (fun u d=>by simp only[bQ,bD,or_false,or_self] at d;rw[d];rfl) 22
 have aD:V.ownsRow (w.heap.size+1) 3 1 (Y a4 (l.length+3) c4) (l++ [0,0,0]).length ((l++ [0,0,0]).map (b1 J)):=by
  simp only[List.length_append,List.map_append,List.map_cons,List.map_nil,List.length_cons,List.length_nil];exact aC
 obtain⟨av,aE,P⟩:=OP (ai.trans (A.mono aJ)) (by have:=A.size;omega) ((A.block _ ax).trans aj) am ay aD;have aI:Af J V 0 (Y a4 (l.length+3) c4) (l++ [0,0,0]):=(Sl.Bw aE).mono (bI _);obtain⟨a5,c5,e5,aV,_,aF⟩:=aI.open_;have aA:(l++ [0,0,0]).length=l.length+3:=by simp
 obtain⟨q5,a3,aT,_,aZ,aw⟩:=aF (by omega);simp only[bz] at e5;obtain⟨rfl,_,rfl⟩:=e5;subst aT;have L:∀ j,j<3→V.cell? ⟨q5,a3+j,O⟩=Z (I J (l.getD j 0)):=fun j Q=>by
  have:=aw j (by omega);have e:(l++ [0,0,0])[j]'(by omega)=l.getD j 0:=by
   rw[bX];by_cases h:j<l.length
   ·rw[b2 h,bi h];rfl
   ·rw[bZ (by omega),b6 (by omega)];rcases(show j-l.length=0∨j-l.length=1∨j-l.length=2 by omega) with h|h|h<;>simp[h]
  rw[e] at this;exact this
 have e0:=L 0 (by decide);have e1:=L 1 (by decide);have e2:=L 2 (by decide);rw[b5] at e0;generalize l.getD 0 0=r at*;generalize l.getD 1 0=s at*;generalize l.getD 2 0=t at*;rw[aA] at aV;have bc:l.length+3≤6:=by omega
 obtain⟨aM,aN,HW,aP,D,ac⟩:=H6 aG aH E M av P;obtain⟨W,X,z2,z3⟩:=r4 P;obtain⟨f0,f1,f2,f3⟩:=f4 P;clear ao aG aH E M av P N ak al a0 S ai aB aj aJ ax A az am aC ay aD aE aI aF aw L aA h hl;generalize l.length=n at*;obtain⟨g,hg⟩:=ex w.heap.size;go_enter func18,ntmps18;go_upto_region 2 with (first|(at_builtin;rw[←HW.o];refine b7 _ rfl _ _ _ _ rfl _ _ rfl rfl _ _ (aM.o _) ?_)|(at_builtin;rw[←aP.o];refine b7 _ rfl _ _ _ _ rfl _ _ rfl rfl _ _ aN.o ?_)|fail);have an:q5<V.heap.size:=aZ;have s0:=qC e0 an;have s1:=qC e1 an;have s2:=qC e2 an;have aW:=Aa ac.o;have a8:=HH ac.o;clear e0 e1 e2 W f0 X f1 z2 f2 z3 f3;refine AS 12 [11] [] [] trivial ?_
 iterate 11 (refine An rfl rfl rfl ?_;intro K hK;go_big_quiet_op;go_big_quiet_on)
 refine AH rfl ?_;refine AR ?_;intro z y a2;have R:=(y.block _ aW).trans ac.o;obtain⟨W,X,z2,z3⟩:=r4 R;obtain⟨f0,f1,f2,f3⟩:=f4 R;refine AI (w':=setsAt z w.heap.size 0 [(0,I U f),(1,I J r),(2,I J s),(3,I J t)]) (by simp[execOp,go_sem,setsAt,W,f0,X,f1,z2,f2,z3,f3]) ?_;unfold A7;have B:=Di [(0,I U f),(1,I J r),(2,I J s),(3,I J t)] R;simp only[Er,bk,bw,bu] at B;have ag:∀ b,b≠w.heap.size→(setsAt z w.heap.size 0 [(0,I U f),(1,I J r),(2,I J s),(3,I J t)]).heap[b]? =z.heap[b]?:=fun b H=>AU H _ _
 have ah:(setsAt z w.heap.size 0 [(0,I U f),(1,I J r),(2,I J s),(3,I J t)]).heap.size=z.heap.size:=BO _ _;have F:=Be (b:=w.heap.size) (o:=0) [(0,I U f),(1,I J r),(2,I J s),(3,I J t)] z;generalize setsAt z w.heap.size 0 [(0,I U f),(1,I J r),(2,I J s),(3,I J t)]=aR at B ag ah F ⊢;obtain⟨aL,aQ⟩:=H2 B (show Bl w aR from⟨F.1.trans (y.os.trans D.o.os),F.2.1.trans (y.tape.trans D.o.tape),F.2.2.trans (y.output.trans D.o.output),by rw[ah];have:=y.size;have:=D.o.size;omega,fun b H=>(ag b (by omega)).trans ((y.block b (by omega)).trans (D.o.block b H))⟩);clear R B ag ah F y a2 W f0 X f1 z2 f2 z3 f3 s0 s1 s2;go_wp2_with fail;refine bodyPost_ret_by (v:=.agg #[I U f,I J r,I J s,I J t]) (results_cell_row rfl _ _ w.heap.size 64 #[I U f,I J r,I J s,I J t] (0,0) _ rfl aL.o underlying64 rfl (by kernel_rfl)) rfl ⟨rfl,aQ.o⟩
def Lo(d:Ad)(now i:Int)(a:List CG)(s:Ae):Bool:=decide ((A3 d now s).2.e=0) && (decide ((A3 d now s).2.ran=i) && decide ((A3 d now s).2.faults=a))
def Qe(B:Nat)(w:bn)(F:Nat→Prop)(g:Nat)(d:Ad)(s:Ae)(h:Lv B w F g d s)(now i:Int)(y:bm)(t:List CG)(x:∀ w',Fr F w w'→BJ w' 0 y t)(Q:t.length≤1000)(q:Lo d now i t s=true):
  cq prog 22 #[G (Z ⟨g,0,O⟩),I J now,I J i,y] w fun e w'=>e=.returned (.bool true)∧Dr B w F g d (A3 d now s).1 w':=by
 have C:=HH (QF h now);unfold Lo at q;simp only[Bool.and_eq_true,decide_eq_true_eq] at q;obtain⟨ad,ae,ab,_⟩:=(x w (Fr.below (bo _ w))).open_;obtain⟨p,R⟩:=ex (A3 d now s);rw[←R] at C q ⊢;clear R;obtain⟨us,V,c,f,er⟩:=p;obtain⟨n,j,N⟩:=q;simp only[] at n j N;subst n j N;obtain⟨H,aa,W⟩:=H3 h x Q;subst ab;clear h x Q;go_enter func22,ntmps22;go_upto_region 2 with (first|(go_at_call 17;refine C.o.mono ?_;rintro e m ⟨va,y,rfl,S,v,u⟩;obtain⟨E,L,rfl,_⟩:=S.open_;obtain⟨K,M,rfl,_⟩:=v.open_)|fail);obtain⟨z,r⟩:=ex (m.alloc (T #[I J V,I U c.kind,I J c.a,I J c.b,Y E c.data.length L,Y K f.length M] 43));rw[←r];have k:Bl m z:=by rw[r];exact(bo _ m).alloc (bj _) _
 have P:z.heap[m.heap.size]? =Z (T #[I J V,I U c.kind,I J c.a,I J c.b,Y E c.data.length L,Y K f.length M] 43 (0,0)):=by rw[r];exact bl _ _
 obtain⟨v0,v1,v2,v3,v4,v5⟩:=r6 P;have D:=HH (Nd _ _ f f z ((v.mono (bI _)).Ag k.size fun b _ j=>k.block b j) ((aa.o m u.2).Ag k.size fun b _ j=>k.block b j) (by have:=W.o;omega));rw[show decide (f=f)=true from decide_eq_true rfl] at D;obtain⟨A,X⟩:=H2 k u;clear r k P v S u;go_wp2_with (go_at_call 13;refine D.o.mono ?_;rintro e w5 ⟨rfl,ac⟩);go_ret;have l:=A.o.trans (ac.mono A.o.size);exact⟨rfl,Dr.Pw (bo _ w) X.o H.o.px.1 H.o.gl.hw l.size (fun b n _=>l.block b n) l.os l.tape l.output⟩
def Wd(B N:Nat)(a w:bn)(g:Nat)(d:Ad)(s:Ae):Prop:=∃ F,Lv B w F g d s∧(∀ b,F b→N≤b)∧Below N a w∧N≤w.heap.size
section
variable {B N:Nat} {w0 w w':bn} {g:Nat} {d:Ad} {s s':Ae}
def Wd.below(h:Wd B N w0 w g d s)(a:Bl w w'):Wd B N w0 w' g d s:=by
 obtain⟨F,c,e,f,b⟩:=h;exact⟨F,c.below a,e,f.trans (a.mono b),bx b a.size⟩
def Wd.op{F:Nat→Prop}(h:Dr B w F g d s' w')(c:∀ b,F b→N≤b)(f:Below N w0 w)(e:N≤w.heap.size):Wd B N w0 w' g d s':=
 ⟨_,h.1,fun b a=>by
  rcases a with a|a
  ·exact c b a
  ·omega,f.trans (h.2.low c e),bx e h.2.size⟩
def Wd.bel(h:Wd B N w0 w g d s):Below N w0 w:=by
 obtain⟨F,b,c,a,e⟩:=h;exact a
def Wd.good(h:Wd B N w0 w g d s):Good d s:=by
 obtain⟨F,a,b,c,e⟩:=h;exact a.good
def Wd.le(h:Wd B N w0 w g d s):N≤w.heap.size:=by
 obtain⟨F,b,c,e,a⟩:=h;exact a
def Zt(h:Wd B N w0 w g d s):cq prog 10 #[G (Z ⟨g,0,O⟩)] w (NR w s):=by
 obtain⟨F,a,_⟩:=h;exact J3 a
def FW(h:Wd B N w0 w g d s)(now i:Int)(k:Lo d now i [] s=true):
  cq prog 22 #[G (Z ⟨g,0,O⟩),I J now,I J i,Y O 0 0] w fun e w'=>e=.returned (.bool true)∧Wd B N w0 w' g d (A3 d now s).1:=by
 obtain⟨F,a,b,c,f⟩:=h;refine(Qe B w F g d s a now i _ [] (fun w' _=>BJ.nil _ _) (by simp) k).mono ?_;rintro e w' ⟨j,l⟩;exact⟨j,Wd.op l b c f⟩
def BJ.lit{w:bn}{q:Nat}{p f c:Int}(h:w.heap[q]? =Z (T #[.int J p,.int U f,.int J c] 76 (0,0))):BJ w 0 (Y (Z ⟨q,0,O⟩) 1 1) [⟨p,f,c⟩]:=by
 refine⟨_,_,rfl,bj _,fun e=>(by cases e),rfl,fun _=>⟨q,0,rfl,bI _,Aa h,fun j u a=>?_⟩⟩;rw[Cr h,b4];rw[List.getElem?_toArray];exact a
def Qf(h:Wd B N w0 w g d s)(now i p f c:Int)(q:Lo d now i [⟨p,f,c⟩] s=true):
  cq prog 22 #[G (Z ⟨g,0,O⟩),.int J now,.int J i,Y (Z ⟨w.heap.size,0,O⟩) 1 1] (w.alloc (T #[.int J p,.int U f,.int J c] 76)) fun e w'=>e=.returned (.bool true)∧Wd B N w0 w' g d (A3 d now s).1:=by
 obtain⟨F,b,k,l,j⟩:=h;have a:Bl w (w.alloc (T #[.int J p,.int U f,.int J c] 76)):=(bo _ w).alloc (bj _) _;refine(Qe B _ F g d s (b.below a) now i _ [⟨p,f,c⟩] (fun w' o=>BJ.lit (p:=p) (f:=f) (c:=c) ((o.block _ (Aa (bl w _)) (fun m=>by have:=b.px.1 _ m;omega)).trans (bl w _))) (by simp) q).mono ?_;rintro e w' ⟨n,r⟩;exact⟨n,Wd.op r k (l.trans (a.mono j)) (bx j a.size)⟩
def Wd.new{d:Ad}{e:Ending}(h:JD B w d e w')(k:E6 d=true)(j:Below N w0 w)(a:N≤w.heap.size):∃ g,e=.returned (.tuple #[G (Z ⟨g,0,O⟩),I J 0])∧Wd B N w0 w' g d (DB d):=by
 obtain⟨c,f⟩:=h;rw[if_pos k] at f;obtain⟨g,F,l,n,i⟩:=f;exact⟨g,l,F,n,fun b m=>bx a (i b m),j.trans (c.mono a),bx a c.size⟩
end
def RG(w:bn)(A B C:Obj):(((w.alloc A).alloc B).alloc C).heap[w.heap.size]? =Z A∧(((w.alloc A).alloc B).alloc C).heap[w.heap.size+1]? =Z B∧(((w.alloc A).alloc B).alloc C).heap[w.heap.size+1+1]? =Z C∧(((w.alloc A).alloc B).alloc C).heap.size=w.heap.size+3∧Bl w (((w.alloc A).alloc B).alloc C):=by
 have b:(w.alloc A).heap.size=w.heap.size+1:=by simp
 have a:((w.alloc A).alloc B).heap.size=w.heap.size+1+1:=by simp
 have d:=bl ((w.alloc A).alloc B) C;have c:=bl (w.alloc A) B;have e:=bl w A;rw[a] at d;rw[b] at c;refine⟨?_,?_,d,by simp,?_⟩
 ·rw[bW _ _ _ (by rw[a];omega),bW _ _ _ (by rw[b];omega)];exact e
 ·rw[bW _ _ _ (by rw[a];omega)];exact c
 ·exact(((bo _ w).alloc (bj _) _).alloc (by rw[b];omega) _).alloc (by rw[a];omega) _
def BL:Ad:=⟨4,[0],0,0,[],[],[⟨1,10,0,[⟨10,0,0,0⟩,⟨19,0,0,0⟩]⟩,⟨2,0,5,[⟨9,0,0,0⟩,⟨25,0,0,0⟩]⟩]⟩
def Mc:Ad:=⟨4,[0],0,0,[],[],[⟨1,10,0,[⟨1,9,0,0⟩,⟨19,0,0,0⟩]⟩,⟨2,0,5,[⟨9,0,0,0⟩,⟨25,0,0,0⟩]⟩]⟩
def RP:E6 BL=true:=by kernel_rfl
def RR:E6 Mc=true:=by kernel_rfl
def AW.blk{w:bn}{q n sz:Nat}{a:Array bm}{t:bY}{u:Nat→Nat→bm}(h:w.heap[q]? =Z (T a t (0,0)))(b:∀ k j,k<n→j<sz→a[k*sz+j]? =Z (u k j)):AW w (Y (Z ⟨q,0,O⟩) n n) n sz u:=
 ⟨_,_,rfl,bj _,fun e=>(by cases e),fun _=>⟨q,0,rfl,Aa h,fun k j d c=>by rw[b4,Cr h];exact b k j d c⟩⟩
def Qi(W:bn)(d:Ad)(x y:Ai)(l c1 c2 g:Nat)(t:d=⟨4,[0],0,0,[],[],[⟨1,10,0,[x,y]⟩,⟨2,0,5,[⟨9,0,0,0⟩,⟨25,0,0,0⟩]⟩]⟩)(p:W.heap[l]? =Z (T #[I J 0] 3 (0,0)))
  (q:W.heap[c1]? =Z (T #[I U x.op,I J x.a,I J x.b,I J x.c,I U y.op,I J y.a,I J y.b,I J y.c] 64 (0,0))) (r:W.heap[c2]? =Z (T #[I U 9,I J 0,I J 0,I J 0,I U 25,I J 0,I J 0,I J 0] 64 (0,0))) (s:W.heap[g]? =Z (T #[.string ⟨#[]⟩,I J 1,I J 10,I J 0,Y (Z ⟨c1,0,O⟩) 2 2,.string ⟨#[]⟩,I J 2,I J 0,I J 5,Y (Z ⟨c2,0,O⟩) 2 2] 68 (0,0))) (v:0≤x.op∧x.op≤255) (w:0≤y.op∧y.op≤255):
  C6 W (Y (Z ⟨l,0,O⟩) 1 1) d.semas∧C6 W (Y O 0 0) d.bufs∧Ex W (Y O 0 0) d.Ab∧Gd W (Y (Z ⟨g,0,O⟩) 2 2) d.procs∧∀ c∈d.procs,∀ i∈c.code,0≤i.op∧i.op≤255:=by
 subst t;have nil:∀ sz u,AW W (Y O 0 0) 0 sz u:=fun sz u=>⟨O,0,rfl,bj _,fun _=>rfl,fun h=>absurd h (Nat.lt_irrefl 0)⟩;have n:∀ b (x y:Ai),W.heap[b]? =Z (T #[I U x.op,I J x.a,I J x.b,I J x.c,I U y.op,I J y.a,I J y.b,I J y.c] 64 (0,0))→Ew W (Y (Z ⟨b,0,O⟩) 2 2) [x,y]:=fun b x y h=>AW.blk h fun k j e o=>by
  have e:k<2:=e;rcases(show k=0∨k=1 by omega) with rfl|rfl<;>rcases(show j=0∨j=1∨j=2∨j=3 by omega) with rfl|rfl|rfl|rfl<;>rfl
 refine⟨AW.blk p fun k j e o=>?_,nil _ _,⟨fun _=>⟨#[]⟩,nil _ _⟩,⟨fun _=>⟨#[]⟩,fun k=>if k=0 then Y (Z ⟨c1,0,O⟩) 2 2 else Y (Z ⟨c2,0,O⟩) 2 2,AW.blk s fun k j e o=>?_,fun k e=>?_⟩,?_⟩
 ·have e:k<1:=e;obtain rfl:k=0:=by omega
  obtain rfl:j=0:=by omega
  rfl
 ·have e:k<2:=e;rcases(show k=0∨k=1 by omega) with rfl|rfl<;>rcases(show j=0∨j=1∨j=2∨j=3∨j=4 by omega) with rfl|rfl|rfl|rfl|rfl<;>rfl
 ·have e:k<2:=e;rcases(show k=0∨k=1 by omega) with rfl|rfl
  ·exact n c1 x y q
  ·exact n c2 ⟨9,0,0,0⟩ ⟨25,0,0,0⟩ r
 ·intro c m i f;simp only[bQ,bD,or_false] at m;rcases m with rfl|rfl
  ·simp only[bQ,bD,or_false] at f;rcases f with rfl|rfl
   ·exact v
   ·exact w
  ·simp only[bQ,bD,or_false] at f;rcases f with rfl|rfl<;>decide
def RC(B:Nat)(w:bn)(P:Gl B w)(GS:Ce w):cq prog 8 #[] w fun e w'=>e=.returned (.bool true)∧Bl w w':=by
 obtain⟨HG,aI⟩:=H2 P GS;have aZ:16≤w.heap.size:=bx P.hb P.hw;clear P GS;go_enter func8,ntmps8;go_wp2_with fail;obtain⟨V,F⟩:=ex ((w.alloc (T #[I J 0] 3)).alloc (T #[I J 0] 3));have m:V.heap[w.heap.size]? =Z (T #[I J 0] 3 (0,0)):=by rw[F];exact(Da w _ _).1
 have u:V.heap[w.heap.size+1]? =Z (T #[I J 0] 3 (0,0)):=by rw[F];exact(Da w _ _).2
 have s:Bl w V:=by rw[F];exact DX w _ _
 rw[←F];refine(Jb 10 _ [0] V (by decide) (He.one u)).mono ?_;rintro e w1 ⟨rfl,c⟩;have a0:=(c.block _ (Aa m)).trans m;obtain⟨B1,an⟩:=H2 (s.trans (c.mono s.size)) a0;clear F m u s c a0;go_wp2_with fail;refine(Jb 19 _ [] w1 (by decide) (.inl ⟨rfl,rfl⟩)).mono ?_;rintro e i ⟨rfl,c⟩;obtain⟨B2,Q⟩:=H2 (B1.o.trans (c.mono B1.o.size)) ((c.block _ (Aa an.o)).trans an.o);clear c B1 an;go_wp2_with fail;obtain⟨W3,H⟩:=ex ((i.alloc (T #[I U 10,I J 0,I J 0,I J 0,I U 19,I J 0,I J 0,I J 0] 64)).alloc (T #[I J 0] 3));have m:W3.heap[i.heap.size]? =Z (T #[I U 10,I J 0,I J 0,I J 0,I U 19,I J 0,I J 0,I J 0] 64 (0,0)):=by rw[H];exact(Da i _ _).1
 have u:W3.heap[i.heap.size+1]? =Z (T #[I J 0] 3 (0,0)):=by rw[H];exact(Da i _ _).2
 have s:Bl i W3:=by rw[H];exact DX i _ _
 skip;rw[←H];refine(Jb 9 _ [0] W3 (by decide) (He.one u)).mono ?_;rintro e w4 ⟨rfl,c⟩;obtain⟨B4,ap,aq⟩:=H3 (B2.o.trans ((s.trans (c.mono s.size)).mono B2.o.size)) ((c.block _ (b9 (Aa Q.o) s.size)).trans ((s.block _ (Aa Q.o)).trans Q.o)) ((c.block _ (Aa m)).trans m);clear H m u s c B2 Q;go_wp2_with fail;refine(Jb 25 _ [] w4 (by decide) (.inl ⟨rfl,rfl⟩)).mono ?_;rintro e d ⟨rfl,c⟩;obtain⟨B5,R,S⟩:=H3 (B4.o.trans (c.mono B4.o.size)) ((c.block _ (Aa ap.o)).trans ap.o) ((c.block _ (Aa aq.o)).trans aq.o);clear c B4 ap aq;go_wp2_with fail;obtain⟨y,ax⟩:=ex (((d.alloc (T #[I U 9,I J 0,I J 0,I J 0,I U 25,I J 0,I J 0,I J 0] 64)).alloc (T #[.string ⟨#[]⟩,I J 1,I J 10,I J 0,Y (Z ⟨i.heap.size,0,O⟩) 2 2,.string ⟨#[]⟩,I J 2,I J 0,I J 5,Y (Z ⟨d.heap.size,0,O⟩) 2 2] 68)).alloc (T #[.string ⟨#[]⟩,I J 0,I J 0,I J 4,Y (Z ⟨w.heap.size,0,O⟩) 1 1,I J 0,I J 0,Y O 0 0,Y O 0 0,Y (Z ⟨d.heap.size+1,0,O⟩) 2 2] 26));have bf:=RG d (T #[I U 9,I J 0,I J 0,I J 0,I U 25,I J 0,I J 0,I J 0] 64) (T #[.string ⟨#[]⟩,I J 1,I J 10,I J 0,Y (Z ⟨i.heap.size,0,O⟩) 2 2,.string ⟨#[]⟩,I J 2,I J 0,I J 5,Y (Z ⟨d.heap.size,0,O⟩) 2 2] 68) (T #[.string ⟨#[]⟩,I J 0,I J 0,I J 4,Y (Z ⟨w.heap.size,0,O⟩) 1 1,I J 0,I J 0,Y O 0 0,Y O 0 0,Y (Z ⟨d.heap.size+1,0,O⟩) 2 2] 26);rw[←ax] at bf;obtain⟨m,u,k3,C,X⟩:=bf;rw[←ax];have k4:=(X.block _ (Aa R.o)).trans R.o;have k5:=(X.block _ (Aa S.o)).trans S.o;have B6:Hq (Bl w y):=B5.o.trans (X.mono B5.o.size);obtain⟨M,r2,r3,r4,r5⟩:=Qi y BL ⟨10,0,0,0⟩ ⟨19,0,0,0⟩ _ _ _ _ rfl k4 k5 m u (by decide) (by decide);obtain⟨D,x,aK⟩:=H3 (MG B BL ⟨#[]⟩ 0 0 (Z ⟨w.heap.size,0,O⟩) O O (Z ⟨d.heap.size+1,0,O⟩) 1 0 0 2 y M r2 (fun n t=>by cases t) r3 r4 r5 (HG.o.below B6.o) (aI.o.below aZ B6.o)) (b3 m (b3 u (b3 k3 (b3 k4 k5)))) C;have br:Hq (i.heap.size<d.heap.size∧w.heap.size<d.heap.size):=⟨Aa S.o,Aa R.o⟩;clear M r2 r3 r4 r5 m u k3 k4 k5 X ax C B5 R S;refine D.o.mono ?_;rintro e w7 t;obtain⟨g,rfl,a⟩:=Wd.new t RP (bo _ y) (bj _);have aW:=HH a;clear t a D;go_wp2_with fail;refine(FW aW.o 0 (-1) (by kernel_rfl)).mono ?_;rintro e w8 ⟨rfl,a⟩;have aX:=HH a;clear a aW;go_wp2_with fail;refine(FW aX.o 1 1 (by kernel_rfl)).mono ?_;rintro e r ⟨rfl,a⟩;have au:=HH a;clear a aX;go_wp2_with fail;refine(Zt au.o).mono ?_;rintro e cb ⟨a1,a2,a3,a4,a5,a6,a7,a8,c1,c2,c3,c4,c5,c6,c7,c8,n8,rfl,j,c⟩;have aL:=HH (au.o.below c);have j:JJ _ _ _ _ _ _ _ _ _ _ _:=j;obtain⟨ao,cap,e1,ba,_,_,hp⟩:=j.pr;have az:(A3 BL 1 (A3 BL 0 (DB BL)).1).1.procs.length=2:=by kernel_rfl
 have be:((A3 BL 1 (A3 BL 0 (DB BL)).1).1.procs.flatMap Em)[12]? =Z (I U 3):=by kernel_rfl
 simp only[bz,true_and] at e1;obtain⟨rfl,rfl⟩:=e1;obtain⟨bv,bR,rfl,_,_,hc⟩:=hp (by rw[az];decide);have bF:=hc 12 _ be;have bH:=Uv ((A3 BL 1 (A3 BL 0 (DB BL)).1).1).mode ((A3 BL 1 (A3 BL 0 (DB BL)).1).1).clock (Z ⟨bv,bR,O⟩) a2 a3 a4 a5 a6 a7 a8 2 c1 ((A3 BL 1 (A3 BL 0 (DB BL)).1).1).mem.length c2 ((A3 BL 1 (A3 BL 0 (DB BL)).1).1).semas.length c3 ((A3 BL 1 (A3 BL 0 (DB BL)).1).1).events.length c4 ((A3 BL 1 (A3 BL 0 (DB BL)).1).1).boards.length c5 ((A3 BL 1 (A3 BL 0 (DB BL)).1).1).queues.length c6 ((A3 BL 1 (A3 BL 0 (DB BL)).1).1).queues.length c7 n8 c8;rw[az] at ba ⊢;clear az be hp hc j c au;go_wp2_with fail;refine(FW aL.o 2 0 (by kernel_rfl)).mono ?_;rintro e cc ⟨rfl,a⟩;have aM:=HH a;clear a aL;clear bH bF ba;go_wp2_with fail;refine(FW aM.o 3 1 (by kernel_rfl)).mono ?_;rintro e cd ⟨rfl,a⟩;have aN:=HH a;clear a aM;go_wp2_with fail;refine(FW aN.o 4 0 (by kernel_rfl)).mono ?_;rintro e ce ⟨rfl,a⟩;have aO:=HH a;clear a aN;go_wp2_with fail;refine(FW aO.o 5 (-1) (by kernel_rfl)).mono ?_;rintro e cf ⟨rfl,a⟩;have aP:=HH a;clear a aO;go_wp2_with fail;refine(Qf aP.o 10 0 0 5 0 (by kernel_rfl)).mono ?_;rintro e aF ⟨rfl,a⟩;have ar:=HH a;clear a aP;go_upto_region 5 with (fail);have ay:=ar.o.bel;have hN:=ar.o.le;have C:=aK.o;have kp:=(ay.block _ (show d.heap.size+1+1<y.heap.size by omega)).trans x.o.2.2.1;have bc:=Aa kp;have q9:∀ p:Ak aF,p.W.cell? ⟨d.heap.size+1+1,9,O⟩=Z (Y (Z ⟨d.heap.size+1,0,O⟩) 2 2):=fun p=>(p.h.cell (p:=⟨d.heap.size+1+1,9,O⟩) bc).trans (Cr kp);obtain⟨am,aJ⟩:=H2 ay hN;clear kp ay hN C;refine AS 9 [8] [] [(2,fun v w=>∃ q,aF.heap.size≤q∧v=Y (Z ⟨q,0,O⟩) 1 1∧w.heap[q]? =Z (T #[I J 9] 3 (0,0))),(3,fun v _=>v=.agg #[I U 1,I J 9,I J 0,I J 0]),(4,fun v _=>v=.agg #[I U 19,I J 0,I J 0,I J 0]),(5,fun v w=>∃ q,aF.heap.size≤q∧v=Y (Z ⟨q,0,O⟩) 2 2∧w.heap[q]? =Z (T #[I U 1,I J 9,I J 0,I J 0,I U 19,I J 0,I J 0,I J 0] 64 (0,0)))] ⟨(fun _ _ _ ⟨q,l,h2,E⟩ c=>⟨q,l,h2,(c.block _ (Aa E)).trans E⟩),Ch,Ch,(fun _ _ _ ⟨q,l,h2,E⟩ c=>⟨q,l,h2,(c.block _ (Aa E)).trans E⟩),trivial⟩ ?_
 iterate 2 (refine An rfl rfl rfl ?_;intro K hK;go_big_quiet_op;go_big_quiet_on)
 refine A9 rfl rfl (fun w' c hA=>?_) ?_
 ·exact Bn (v:=Y (Z ⟨w'.heap.size,0,O⟩) 1 1) (w':=w'.alloc (T #[I J 9] 3)) (by simp[execOp,go_sem]) ⟨(bo _ _).alloc (bj _) _,⟨w'.heap.size,c.size,rfl,bl _ _⟩⟩
 intro v w' c j;obtain⟨q1,bL,rfl,bN⟩:=j;clear c bL bN w';simp only[Au,bk,bw,bu];refine A9 rfl rfl (fun w' c hA=>?_) ?_
 ·obtain⟨q',_,ab,bG⟩:=hA 2 _ rfl (.base (by kernel_rfl));have ab:(cr (Z ⟨q1,0,O⟩) 1 1)=Y (Z ⟨q',0,O⟩) 1 1:=ab;simp only[bz,bE,cm,and_true,true_and] at ab;subst ab;refine AD (f:=18) (al:=[I U 1,Y (Z ⟨q1,0,O⟩) 1 1]) rfl rfl rfl Ow ?_;exact(Jb 1 _ [9] w' (by decide) (He.one bG)).mono fun e i h=>⟨_,h.1,h.2,rfl⟩
 intro v w' c j;subst j;clear c w';simp only[Au,bk,bw,bu];refine A9 rfl rfl (fun w' c hA=>?_) ?_
 ·refine AD (f:=18) (al:=[I U 19,Y O 0 0]) rfl rfl rfl Ow ?_;exact(Jb 19 _ [] w' (by decide) (.inl ⟨rfl,rfl⟩)).mono fun e i h=>⟨_,h.1,h.2,rfl⟩
 intro v w' c j;subst j;clear c w';simp only[Au,bk,bw,bu];refine A9 rfl rfl (fun w' c hA=>?_) ?_
 ·exact Bn (v:=Y (Z ⟨w'.heap.size,0,O⟩) 2 2) (w':=w'.alloc (T #[I U 1,I J 9,I J 0,I J 0,I U 19,I J 0,I J 0,I J 0] 64)) (by simp[execOp,go_sem]) ⟨(bo _ _).alloc (bj _) _,⟨w'.heap.size,c.size,rfl,bl _ _⟩⟩
 intro v w' c j;obtain⟨q2,aA,rfl,bO⟩:=j;clear c aA bO w';simp only[Au,bk,bw,bu]
 iterate 2 (refine An rfl rfl rfl ?_;intro K hK;go_big_quiet_op;go_big_quiet_on)
 refine AH rfl ?_;refine AR ?_;intro r ae bg;obtain⟨bT,aA,e,kc⟩:=bg 5 _ (by decide) rfl;have e:(cr (Z ⟨q2,0,O⟩) 2 2)=Y (Z ⟨bT,0,O⟩) 2 2:=e;simp only[bz,bE,cm,and_true,true_and] at e;subst e;have C:=aK.o;have hN:=aJ.o;have bM:=ae.size;have L:∀ b ob,b<y.heap.size→y.heap[b]? =Z ob→r.heap[b]? =Z ob:=fun b ob hl h=>(ae.block _ (by omega)).trans ((am.o.block _ hl).trans h);have kq:=L _ _ (by omega) x.o.2.1;have z0:r.cell? ⟨d.heap.size+1,4,O⟩=Z (Y (Z ⟨i.heap.size,0,O⟩) 2 2):=Cr kq;have f0:r.frozen? ⟨d.heap.size+1,4,O⟩=false:=by simp[World.frozen?,kq]
 obtain⟨k,z⟩:=ex (r.setCell ⟨d.heap.size+1,4,O⟩ (Y (Z ⟨q2,0,O⟩) 2 2));refine AI (w':=k) (by rw[z];simp[execOp,go_sem,z0,f0]) ?_;unfold A7;have kY:k.heap[d.heap.size+1]? =Z (T #[.string ⟨#[]⟩,I J 1,I J 10,I J 0,Y (Z ⟨q2,0,O⟩) 2 2,.string ⟨#[]⟩,I J 2,I J 0,I J 5,Y (Z ⟨d.heap.size,0,O⟩) 2 2] 68 (0,0)):=by rw[z,heap_setCell_same r _ 4 _ _ _ kq];rfl
 have A:∀ b,b≠d.heap.size+1→k.heap[b]? =r.heap[b]?:=fun b c=>by rw[z];exact Below.heap_setCell _ _ _ _ c
 have bd:k.heap.size=r.heap.size:=by rw[z];simp[World.setCell]
 have eY:k.os=r.os∧k.tape=r.tape∧k.output=r.output:=by rw[z];exact⟨rfl,rfl,rfl⟩
 have aw:=B6.o;have bh:=aw.size;have bJ:=Aa x.o.2.2.2.1;have bK:=Aa x.o.2.2.2.2;have bP:i.heap.size<d.heap.size∧w.heap.size<d.heap.size:=br.o;have N:Hq (Bl w k):=by
  have l:=aw.trans ((am.o.mono bh).trans (ae.mono (by omega)));exact⟨eY.1.trans l.os,eY.2.1.trans l.tape,eY.2.2.trans l.output,by rw[bd];exact l.size,fun b c=>(A b (by omega)).trans (l.block b c)⟩
 have m4:=(A _ (by omega)).trans (L _ _ (by omega) x.o.2.2.2.1);have m1:=(A _ (by omega)).trans (L _ _ (by omega) x.o.1);have m3:=(A _ (by omega)).trans (L _ _ (by omega) x.o.2.2.1);have m2:=(A q2 (by omega)).trans kc;obtain⟨M,r2,r3,r4,r5⟩:=Qi k Mc ⟨1,9,0,0⟩ ⟨19,0,0,0⟩ _ _ _ _ rfl m4 m2 m1 kY (by decide) (by decide);have D:=HH (MG B Mc ⟨#[]⟩ 0 0 (Z ⟨w.heap.size,0,O⟩) O O (Z ⟨d.heap.size+1,0,O⟩) 1 0 0 2 k M r2 (fun n t=>by cases t) r3 r4 r5 (HG.o.below N.o) (aI.o.below aZ N.o));obtain⟨y0,y1,y2,y3,y4,y5,y6,y7,y8,y9⟩:=DV m3;clear M r2 r3 r4 r5 m1 m2 m3 m4 kY A bd eY z z0 f0 kq L kc aA ae bg C hN bM aw bh bJ bK bP q9 bc ar am aJ x;go_wp2_with fail;refine D.o.mono ?_;rintro e u0 t;obtain⟨g2,rfl,a⟩:=Wd.new t RR (bo _ k) (bj _);have aQ:=HH a;clear t a D y0 y1 y2 y3 y4 y5 y6 y7 y8 y9;go_wp2_with fail;refine(FW aQ.o 0 (-1) (by kernel_rfl)).mono ?_;rintro e cg ⟨rfl,a⟩;have aR:=HH a;clear a aQ;go_wp2_with fail;refine(FW aR.o 1 1 (by kernel_rfl)).mono ?_;rintro e ch ⟨rfl,a⟩;have aS:=HH a;clear a aR;go_wp2_with fail;refine(FW aS.o 2 0 (by kernel_rfl)).mono ?_;rintro e ci ⟨rfl,a⟩;have aT:=HH a;clear a aS;go_wp2_with fail;refine(FW aT.o 3 0 (by kernel_rfl)).mono ?_;rintro e cj ⟨rfl,a⟩;have aU:=HH a;clear a aT;go_wp2_with fail;refine(FW aU.o 4 0 (by kernel_rfl)).mono ?_;rintro e ck ⟨rfl,a⟩;have aV:=HH a;clear a aU;go_wp2_with fail;refine(Qf aV.o 5 0 1 1 0 (by kernel_rfl)).mono ?_;rintro e cl ⟨rfl,a⟩;have bs:=HH a;clear a aV;go_wp2_with fail;go_ret;have l:=bs.o.bel;exact⟨rfl,N.o.trans (l.mono N.o.size)⟩
def Il(w:bn)(d:Ad)(nm:ByteArray)(l k:Int)(j a e b:Option cv)(h f co g:Nat):Prop:=
 C6 w (Y j d.semas.length h) d.semas∧C6 w (Y a d.bufs.length f) d.bufs∧(∀ n∈d.bufs,-9223372036854775808≤n∧n≤9223372036854775807)∧Ex w (Y e d.Ab.length co) d.Ab∧Gd w (Y b d.procs.length g) d.procs∧∀ c∈d.procs,∀ i∈c.code,0≤i.op∧i.op≤255
section
variable {w w':bn} {d:Ad} {nm:ByteArray} {pe le:Int} {sa ab ao ac:Option cv} {cs cb co cc:Nat}
def Il.below(h:Il w d nm pe le sa ab ao ac cs cb co cc)(a:Bl w w'):Il w' d nm pe le sa ab ao ac cs cb co cc:=
 ⟨AW.below h.1 a,AW.below h.2.1 a,h.2.2.1,h.2.2.2.1.below a,h.2.2.2.2.1.below a,h.2.2.2.2.2⟩
def P0(B:Nat)(h:Il w d nm pe le sa ab ao ac cs cb co cc)(a:Gl B w)(b:Ce w):
  cq prog 9 #[.agg #[.string nm,I J pe,I J le,I J d.mem,Y sa d.semas.length cs,I J d.events,I J d.boards,Y ab d.bufs.length cb,Y ao d.Ab.length co,Y ac d.procs.length cc]] w (JD B w d):=
 MG B d nm pe le sa ab ao ac cs cb co cc w h.1 h.2.1 h.2.2.1 h.2.2.2.1 h.2.2.2.2.1 h.2.2.2.2.2 a b
end
def JG(w:bn)(v:bm)(l:List (List Int)):Prop:=∃ us:List bm,Sl w 0 1 v l.length us∧∀ (i:Nat) u x,us[i]? =Z u→l[i]? =Z x→Af J w 0 u x
def Af.Iq{k:IntKind}{w w':bn}{v:bm}{l:List Int}(h:Af k w 0 v l)(a:Bl w w'):Af k w' 0 v l:=by
 obtain⟨d,cap,r,g,i,m,p⟩:=h;refine⟨d,cap,r,g,i,m,fun f=>?_⟩;obtain⟨b,s,e,n,c,o⟩:=p f;exact⟨b,s,e,n,b9 c a.size,fun j u q=>(Gh (a.block b c) _).trans (o j u q)⟩
def JG.at_{w:bn}{v:bm}{l:List (List Int)}(h:JG w v l):∃ (d:Option cv) (cap:Nat),v=Y d l.length cap∧l.length≤cap∧(0<l.length→∃ b f,d=Z ⟨b,f,O⟩∧b<w.heap.size∧∀ k (j:k<l.length),∃ (a:Option cv) (c:Nat),w.cell? ⟨b,f+k,O⟩=Z (.slice a l[k].length c)∧Af J w 0 (.slice a l[k].length c) l[k]):=by
 obtain⟨us,⟨d,cap,u,o,x,p,t⟩,r⟩:=h;refine⟨d,cap,u,o,fun n=>?_⟩;obtain⟨b,f,e,_,s,q⟩:=t n;refine⟨b,f,e,s,fun k j=>?_⟩;have m:k<us.length:=by rw[p];omega
 have g:=r k us[k] l[k] (bi m) (bi j);obtain⟨a,c,i,_⟩:=g.open_;rw[i] at g;exact⟨a,c,by rw[←i];exact q k _ (bi m),g⟩
def Ap(F a:Nat→Prop):Prop:=∀ b,F b→¬a b
def Ap.symm{F a:Nat→Prop}(h:Ap F a):Ap a F:=fun b c d=>h b d c
def Ap.gr{F c:Nat→Prop}{w w':bn}(h:Ap F c)(e:∀ b,F b→b<w.heap.size):Ap F (Gr w w' c):=fun b d a=>by
 rcases a with a|a
 ·exact h b d a
 ·have:=e b d;omega
def Ms{α:Type}{l:List α}{d:α}{k:Nat}(h:k<l.length):l.getD k d=l[k]:=by simp[List.getD,h]
def Up{α:Type}{P:Nat→α→Prop}(n:Nat)(h:∀ k,k<n→∃ x,P k x):∃ l:List α,l.length=n∧∀ k (a:k<l.length),P k l[k]:=by
 induction n with
 |zero=>exact⟨[],rfl,fun k a=>absurd a (by simp)⟩
 |succ n f=>
  obtain⟨l,c,d⟩:=f fun k a=>h k (by omega);obtain⟨x,e⟩:=h n (by omega);refine⟨l++ [x],by simp[c],fun k a=>?_⟩;by_cases b:k<l.length
  ·rw[b2 b];exact d k b
  ·have:k=n:=by simp at a;omega
   subst this;rw[bZ (by omega)];simpa using e
def IX{α:Type}{l:List (List bm×α)}{k:Nat}(a:k<l.length):(l.map (·.1)).getD k []=l[k].1:=by
 rw[Ms (by rw[bt];exact a),ca]
def Kg{H:Type}{enc:bY×bm→H}{P:Program}{α:Type}{t e:bY}{sz:Nat}{W:bn}{B:Nat→Bool}{u:Bool}{n:Nat}{a:Option cv}{b cap:Nat}{x:DataW H×List cn}
  (ht:P.underlying t=Z (.slice e)) (K:P.cellsOf e=sz) (aa:0<sz) (Q:List bm→α→Prop)
  (X:∀ d m y,d.length=sz→aY enc P W 0 B u m e d=Z y→∃ z,Q d z)
  (N:aY enc P W 0 B u n t [Y a b cap]=Z x):
  ∃ l:List (List bm×α),l.length=b∧b≤maxLen∧AW W (Y a b cap) b sz (fun k j=>((l.map (·.1)).getD k []).getD j undef)∧∀ z∈l,Q z.1 z.2:=by
 rcases cp ht N with ⟨g,_⟩|⟨f,ah,c,m,n,D,Pl,g,_,R,hm,V,_,v⟩
 ·simp at g;obtain⟨rfl,rfl,rfl⟩:=g;exact⟨[],rfl,by unfold maxLen;omega,⟨O,0,rfl,bj _,fun _=>rfl,fun s=>absurd s (by simp)⟩,by simp⟩
 ·simp at g;obtain⟨rfl,rfl,rfl⟩:=g;have af:b≤m:=by subst V;split<;>omega
  rw[K] at v;have M:∀ k,k<b→∃ z:List bm×α,(∀ j,j<sz→W.cell? ((f.add (k*sz)).add j)=Z (z.1.getD j undef))∧Q z.1 z.2:=fun k o=>by
   obtain⟨d,F,ac⟩:=v k (by omega);obtain⟨_,L,E⟩:=World.cells?_some F;obtain⟨z,q⟩:=X d n _ L ac;refine⟨(d,z),fun j i=>?_,q⟩;show _=Z (d.getD j undef);rw[E j i,bi (by omega),Ms (by omega)]
  obtain⟨l,S,p⟩:=Up b M;refine⟨l,S,by omega,⟨Z f,cap,rfl,R,(fun h=>by cases h),fun s=>?_⟩,fun z q=>?_⟩
  ·have r:=(p 0 (by omega)).1 0 aa;have C:(f.add (0*sz)).add 0=f:=by simp[Addr.add]
   rw[C] at r;have w:=NW r;refine⟨f.block,f.off,by rw[←w],World.block_lt_of_cell? _ _ r,fun k j o i=>?_⟩;have A:=(p k (by omega)).1 j i;rw[w,Cu,Cu] at A;rw[A];show _=Z (((l.map (·.1)).getD k []).getD j undef);rw[IX (by omega)]
  ·obtain⟨k,o,rfl⟩:=List.getElem_of_mem q;exact(p k o).2
def AW.KE{w:bn}{v:bm}{n sz:Nat}{u d:Nat→Nat→bm}(h:AW w v n sz u)(m:∀ k j,k<n→j<sz→u k j=d k j):AW w v n sz d:=by
 obtain⟨e,cap,r,o,p,q⟩:=h;refine⟨e,cap,r,o,p,fun f=>?_⟩;obtain⟨b,s,g,i,l⟩:=q f;exact⟨b,s,g,i,fun k j c a=>by rw[←m k j c a];exact l k j c a⟩
def GO{α β:Type}{f:α→β}{d:β}{l:List (List bm×α)}{k:Nat}(a:k<l.length):(l.map fun z=>f z.2).getD k d=f l[k].2:=by
 rw[Ms (by rw[bt];exact a),ca]
section
variable {H:Type} {enc:bY×bm→H} {W:bn} {spare:Nat→Bool} {held:Bool} {n:Nat} {a:Option cv} {len cap:Nat} {x:DataW H×List cn}
def MP(h:aY enc prog W 0 spare held n 22 [Y a len cap]=Z x):∃ l:List Int,l.length=len∧len≤maxLen∧C6 W (Y a len cap) l∧∀ z∈l,-9223372036854775808≤z∧z≤9223372036854775807:=by
 obtain⟨l,e,i,o,g⟩:=Kg underlying22 (show prog.cellsOf 3=1 by kernel_rfl) (by decide) (fun d (z:Int)=>d=[.int J z]∧ -9223372036854775808≤z∧z≤9223372036854775807) (fun d m y s p=>by
  obtain⟨z,c,_,q⟩:=bb underlying3 p;exact⟨z,c,bounds_i64 q⟩) h
 refine⟨l.map (·.2),by simpa using e,i,?_,fun z c=>?_⟩
 ·unfold C6;rw[bt,e];refine o.KE fun k j u t=>?_
  have b:k<l.length:=by omega
  obtain rfl:j=0:=by omega
  rw[IX b,(g _ (bp b)).1,GO (f:=fun z=>z) b];rfl
 ·obtain⟨y,r,rfl⟩:=bU.1 c;exact(g y r).2
def XH(v:aY enc prog W 0 spare held n 66 [Y a len cap]=Z x):∃ l:List Ai,l.length=len∧Ew W (Y a len cap) l∧∀ i∈l,0≤i.op∧i.op≤255:=by
 obtain⟨l,s,Q,w,t⟩:=Kg underlying66 (show prog.cellsOf 64=4 by kernel_rfl) (by decide) (fun b (z:Ai)=>b=Jc z∧0≤z.op∧z.op≤255) (fun b m y u A=>by
  obtain⟨ys,R,_,_,_,C,c⟩:=bA underlying64 A;have g0:=c 0 _ rfl;have d:=c 1 _ rfl;have e:=c 2 _ rfl;have g:=c 3 _ rfl;change aY _ _ _ _ _ _ _ 5 ((b.drop 0).take (prog.cellsOf 5))=_ at g0;change aY _ _ _ _ _ _ _ 3 ((b.drop 1).take (prog.cellsOf 3))=_ at d;change aY _ _ _ _ _ _ _ 3 ((b.drop 2).take (prog.cellsOf 3))=_ at e;change aY _ _ _ _ _ _ _ 3 ((b.drop 3).take (prog.cellsOf 3))=_ at g;rw[show prog.cellsOf 5=1 by kernel_rfl] at g0;rw[show prog.cellsOf 3=1 by kernel_rfl] at d e g
  match b,u,ys,C with
  | [u0,u1,u2,u3],_,[y0,y1,y2,y3],_=>
   obtain⟨F,o,_,E⟩:=bb underlying5 g0;obtain⟨K,p,_,S⟩:=bb underlying3 d;obtain⟨L,q,_,V⟩:=bb underlying3 e;obtain⟨M,r,_,X⟩:=bb underlying3 g;simp at o p q r;subst o p q r;exact⟨⟨F,K,L,M⟩,rfl,bounds_u8 E⟩) v
 refine⟨l.map (·.2),by simpa using s,?_,fun z D=>?_⟩
 ·unfold Ew;rw[bt,s];refine w.KE fun k j P N=>?_
  have h:k<l.length:=by omega
  rw[IX h,(t _ (bp h)).1,GO (f:=fun z=>z) h]
 ·obtain⟨y,B,rfl⟩:=bU.1 D;exact(t y B).2
def XK(A:aY enc prog W 0 spare held n 23 [Y a len cap]=Z x):∃ l:List CV,l.length=len∧Ex W (Y a len cap) l:=by
 obtain⟨l,v,S,C,B⟩:=Kg underlying23 (show prog.cellsOf 62=6 by kernel_rfl) (by decide) (fun b (z:ByteArray×CV)=>b=Ki z.1 z.2) (fun b m y w D=>by
  obtain⟨ys,V,_,_,_,E,c⟩:=bA underlying62 D;have g0:=c 0 _ rfl;have e:=c 1 _ rfl;have g:=c 2 _ rfl;have h:=c 3 _ rfl;have i:=c 4 _ rfl;have o:=c 5 _ rfl;change aY _ _ _ _ _ _ _ 9 ((b.drop 0).take (prog.cellsOf 9))=_ at g0;change aY _ _ _ _ _ _ _ 5 ((b.drop 1).take (prog.cellsOf 5))=_ at e;change aY _ _ _ _ _ _ _ 4 ((b.drop 2).take (prog.cellsOf 4))=_ at g;change aY _ _ _ _ _ _ _ 3 ((b.drop 3).take (prog.cellsOf 3))=_ at h;change aY _ _ _ _ _ _ _ 3 ((b.drop 4).take (prog.cellsOf 3))=_ at i;change aY _ _ _ _ _ _ _ 3 ((b.drop 5).take (prog.cellsOf 3))=_ at o;rw[show prog.cellsOf 9=1 by kernel_rfl] at g0;rw[show prog.cellsOf 5=1 by kernel_rfl] at e;rw[show prog.cellsOf 4=1 by kernel_rfl] at g;rw[show prog.cellsOf 3=1 by kernel_rfl] at h i o
  match b,w,ys,E with
  | [u0,u1,u2,u3,u4,u5],_,[y0,y1,y2,y3,y4,y5],_=>
   obtain⟨F,p,_⟩:=bS underlying9 g0;obtain⟨K,q,_,X⟩:=bb underlying5 e;obtain⟨L,r,_⟩:=DataW.trod_bool underlying4 g;obtain⟨M,s,_,w3⟩:=bb underlying3 h;obtain⟨N,t,_,w4⟩:=bb underlying3 i;obtain⟨P,u,_,w5⟩:=bb underlying3 o;simp at p q r s t u;subst p q r s t u;exact⟨(F,⟨K,L,M,N,P⟩),rfl⟩) A
 refine⟨l.map (·.2.2),by simpa using v,⟨fun k=>(l.map (·.2.1)).getD k default,?_⟩⟩;rw[bt,v];refine C.KE fun k j R Q=>?_
 have d:k<l.length:=by omega
 dsimp only;rw[IX d,B _ (bp d),GO (f:=fun z=>z.1) d,GO (f:=fun z=>z.2) d]
def J1{t e:bY}{v:bm}(f:prog.underlying t=Z (.slice e))(d:aY enc prog W 0 spare held n t [v]=Z x):∃ a len cap,v=Y a len cap:=by
 rcases cp f d with ⟨b,_⟩|⟨h,l,c,m,n,D,g,b,_⟩
 ·simp at b;exact⟨_,_,_,b⟩
 ·simp at b;exact⟨_,_,_,b⟩
def XL(E:aY enc prog W 0 spare held n 24 [Y a len cap]=Z x):∃ l:List Eu,l.length=len∧Gd W (Y a len cap) l∧∀ c∈l,∀ i∈c.code,0≤i.op∧i.op≤255:=by
 obtain⟨l,w,hm,F,q⟩:=Kg underlying24 (show prog.cellsOf 68=5 by kernel_rfl) (by decide) (fun d (z:ByteArray×bm×Eu)=>d=I1 z.1 z.2.1 z.2.2∧Ew W z.2.1 z.2.2.code∧∀ i∈z.2.2.code,0≤i.op∧i.op≤255) (fun d m y D K=>by
  obtain⟨ys,m',_,_,_,M,g⟩:=bA underlying68 K;have g0:=g 0 _ rfl;have h:=g 1 _ rfl;have o:=g 2 _ rfl;have p:=g 3 _ rfl;have e:=g 4 _ rfl;change aY _ _ _ _ _ _ _ 9 ((d.drop 0).take (prog.cellsOf 9))=_ at g0;change aY _ _ _ _ _ _ _ 3 ((d.drop 1).take (prog.cellsOf 3))=_ at h;change aY _ _ _ _ _ _ _ 3 ((d.drop 2).take (prog.cellsOf 3))=_ at o;change aY _ _ _ _ _ _ _ 3 ((d.drop 3).take (prog.cellsOf 3))=_ at p;change aY _ _ _ _ _ _ _ 66 ((d.drop 4).take (prog.cellsOf 66))=_ at e;rw[show prog.cellsOf 9=1 by kernel_rfl] at g0;rw[show prog.cellsOf 3=1 by kernel_rfl] at h o p;rw[show prog.cellsOf 66=1 by kernel_rfl] at e
  match d,D,ys,M with
  | [u0,u1,u2,u3,u4],_,[y0,y1,y2,y3,P],_=>
   obtain⟨Q,r,_⟩:=bS underlying9 g0;obtain⟨R,s,_,w1⟩:=bb underlying3 h;obtain⟨S,t,_,w2⟩:=bb underlying3 o;obtain⟨V,u,_,w3⟩:=bb underlying3 p;change aY _ _ _ _ _ _ _ 66 [u4]=Z P at e;obtain⟨X,l4,c4,rfl⟩:=J1 underlying66 e;obtain⟨N,ab,B,A⟩:=XH e;simp at r s t u;subst r s t u;exact⟨(Q,_,⟨R,S,V,N⟩),rfl,B,A⟩) E
 refine⟨l.map (·.2.2.2),by simpa using w,⟨fun k=>(l.map (·.2.1)).getD k default,fun k=>(l.map (·.2.2.1)).getD k default,?_,fun k v=>?_⟩,fun c C=>?_⟩
 ·rw[bt,w];refine F.KE fun k j v hj=>?_
  have b:k<l.length:=by omega
  dsimp only;rw[IX b,(q _ (bp b)).1,GO (f:=fun z=>z.1) b,GO (f:=fun z=>z.2.1) b,GO (f:=fun z=>z.2.2) b]
 ·have b:k<l.length:=by simpa using v
  dsimp only;rw[GO (f:=fun z=>z.2.1) b,GO (f:=fun z=>z.2.2) b];exact(q _ (bp b)).2.1
 ·obtain⟨y,L,rfl⟩:=bU.1 C;exact(q y L).2.2
def Rk{w:bn}{v:bm}{l:List Int}(h:C6 w v l):Af J w 0 v l:=by
 obtain⟨e,cap,r,o,p,q⟩:=h;refine⟨e,cap,r,o,p,by simp,fun f=>?_⟩;obtain⟨b,s,g,i,k⟩:=q f;refine⟨b,s,g,bI _,i,fun j u c=>?_⟩;rw[bB,bC] at c;obtain⟨z,d,rfl⟩:=c;have m:=(bq.1 d).1;have:=k j 0 m (by decide);rw[b8,b5] at this;rw[this];dsimp only;rw[bX,d];rfl
def XI(C:aY enc prog W 0 spare held n 27 [Y a len cap]=Z x):∃ l:List (List Int),l.length=len∧JG W (Y a len cap) l:=by
 obtain⟨l,e,R,K,h⟩:=Kg underlying27 (show prog.cellsOf 22=1 by kernel_rfl) (by decide) (fun f (z:bm×List Int)=>f=[z.1]∧Af J W 0 z.1 z.2) (fun f m y A k=>by
  match f,A with
  | [u],_=>
   obtain⟨Q,S,c4,rfl⟩:=J1 underlying22 k;obtain⟨N,_,_,s,_⟩:=MP k;exact⟨(_,N),rfl,Rk s⟩) C
 refine⟨l.map (·.2.2),by simpa using e,l.map (·.2.1),?_,fun i u z c d=>?_⟩
 ·obtain⟨p,q,L,D,E,F⟩:=K;refine⟨p,q,by rw[L];simp[e],by simpa[e] using D,E,by simp,fun r=>?_⟩;obtain⟨b,P,t,v,w⟩:=F (by simpa[e] using r);refine⟨b,P,t,bI _,v,fun j u c=>?_⟩;rw[bB,bC] at c;obtain⟨z,d,rfl⟩:=c;have g:=(bq.1 d).1;have:=w j 0 (by omega) (by decide);rw[b8,b5] at this;have B:l[j]=z:=(bq.1 d).2;rw[this];dsimp only;rw[IX g,(h _ (bp g)).1,B];rfl
 ·rw[bB,bC] at c d;obtain⟨y,o,rfl⟩:=c;obtain⟨V,M,rfl⟩:=d;obtain rfl:=Option.some.inj (o.symm.trans M);exact(h y (List.mem_of_getElem? o)).2
end
section
variable {H:Type} {enc:bY×bm→H} {W:bn} {spare:Nat→Bool} {held:Bool}
def PD{r:Reach}{b0:Nat}{v:bm}{d:DataW H}{p:List cn}(hv:Value.okWide prog W r b0 26 v)(h:cu enc prog W 0 spare held 26 v d p):
  ∃ (c:Ad) (nm:ByteArray) (F E:Int) (K s u t:Option cv) (j w co x:Nat),v=.agg #[.string nm,.int J F,.int J E,.int J c.mem,Y K c.semas.length j,.int J c.events,.int J c.boards,Y s c.bufs.length w,Y u c.Ab.length co,Y t c.procs.length x]∧Il W c nm F E K s u t j w co x:=by
 obtain⟨j,rfl,aj⟩:=okWide_struct underlying26 hv;obtain⟨fuel,hf⟩:=h;obtain⟨ys,n,_,_,_,al,b⟩:=bA underlying26 hf;have c3:prog.cellsOf 3=1:=by kernel_rfl
 have g0:=b 0 _ rfl;have k:=b 1 _ rfl;have l:=b 2 _ rfl;have m:=b 3 _ rfl;have e:=b 4 _ rfl;have o:=b 5 _ rfl;have q:=b 6 _ rfl;have f:=b 7 _ rfl;have g:=b 8 _ rfl;have i:=b 9 _ rfl;obtain⟨a⟩:=j;have ah:a.length=10:=aj.trans (show prog.cellsOf 26=10 by kernel_rfl);change aY _ _ _ _ _ _ _ 9 ((a.drop 0).take (prog.cellsOf 9))=_ at g0;change aY _ _ _ _ _ _ _ 3 ((a.drop 1).take (prog.cellsOf 3))=_ at k;change aY _ _ _ _ _ _ _ 3 ((a.drop 2).take (prog.cellsOf 3))=_ at l;change aY _ _ _ _ _ _ _ 3 ((a.drop 3).take (prog.cellsOf 3))=_ at m;change aY _ _ _ _ _ _ _ 22 ((a.drop 4).take (prog.cellsOf 22))=_ at e;change aY _ _ _ _ _ _ _ 3 ((a.drop 5).take (prog.cellsOf 3))=_ at o;change aY _ _ _ _ _ _ _ 3 ((a.drop 6).take (prog.cellsOf 3))=_ at q;change aY _ _ _ _ _ _ _ 22 ((a.drop 7).take (prog.cellsOf 22))=_ at f;change aY _ _ _ _ _ _ _ 23 ((a.drop 8).take (prog.cellsOf 23))=_ at g;change aY _ _ _ _ _ _ _ 24 ((a.drop 9).take (prog.cellsOf 24))=_ at i;rw[show prog.cellsOf 9=1 by kernel_rfl] at g0;rw[c3] at k l m o q;rw[show prog.cellsOf 22=1 by kernel_rfl] at e f;rw[show prog.cellsOf 23=1 by kernel_rfl] at g;rw[show prog.cellsOf 24=1 by kernel_rfl] at i
 match a,ah,ys,al with
 | [u0,u1,u2,u3,u4,u5,u6,u7,u8,u9],_,[y0,y1,y2,y3,y4,y5,y6,y7,y8,y9],_=>
  obtain⟨z0,y,_⟩:=bS underlying9 g0;obtain⟨z1,z,_,w1⟩:=bb underlying3 k;obtain⟨z2,A,_,w2⟩:=bb underlying3 l;obtain⟨z3,B,_,w3⟩:=bb underlying3 m;obtain⟨z5,C,_,w5⟩:=bb underlying3 o;obtain⟨z6,D,_,w6⟩:=bb underlying3 q;change aY _ _ _ _ _ _ _ 22 [u4]=Z y4 at e;change aY _ _ _ _ _ _ _ 22 [u7]=Z y7 at f;change aY _ _ _ _ _ _ _ 23 [u8]=Z y8 at g;change aY _ _ _ _ _ _ _ 24 [u9]=Z y9 at i;obtain⟨S,l4,c4,rfl⟩:=J1 underlying22 e;obtain⟨V,l7,c7,rfl⟩:=J1 underlying22 f;obtain⟨X,l8,c8,rfl⟩:=J1 underlying23 g;obtain⟨a9,l9,c9,rfl⟩:=J1 underlying24 i;obtain⟨s4,rfl,_,N,_⟩:=MP e;obtain⟨s7,rfl,_,P,L⟩:=MP f;obtain⟨s8,rfl,Q⟩:=XK g;obtain⟨s9,rfl,R,M⟩:=XL i;simp[Value.cells] at y z A B C D;subst y z A B C D;exact⟨⟨z3,s4,z5,z6,s7,s8,s9⟩,z0,z1,z2,S,V,X,a9,c4,c7,c8,c9,rfl,N,P,L,Q,R,M⟩
def XJ{a:Option cv}{b cap:Nat}{d:DataW H}{p:List cn}(h:cu enc prog W 0 spare held 27 (Y a b cap) d p):∃ l:List (List Int),JG W (Y a b cap) l:=by
 obtain⟨fuel,e⟩:=h;obtain⟨l,_,c⟩:=XI e;exact⟨l,c⟩
end
end Go.Proofs.YtiepijihpgijbaaGreatDoor
