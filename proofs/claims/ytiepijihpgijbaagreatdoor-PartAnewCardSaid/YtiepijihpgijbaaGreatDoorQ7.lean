import Derived.Maps.AppendAt
import Derived.Test.YtiepijihpgijbaaGreatDoorQ6
import Derived.Test.YtiepijihpgijbaaGreatDoorQ5
set_option maxHeartbeats 8000000
set_option maxRecDepth 100000
set_option linter.all false
open Go.Value renaming slice→Y,int→I,pointer→G
open Option renaming some→Z,none→O
open Go.IntKind renaming u8→U,i64→J
open Go.Obj renaming cells→T
open Go renaming Value→aj,World→ap,Calls→a7,TypeId→bc,heap_setCell_same→bd,bodyPost_ret→bl,cell_of_row→bn,results→bz,Addr→bD
open Nat renaming le_refl→av,lt_of_lt_of_le→a9,mul_le_mul_right→bf,zero_le→bk,le_trans→br,add_mul→bt,zero_add→bB,add_zero→bC
open List renaming setIfInBounds_toArray→aL,all_eq_true→aN,getElem?_eq_getElem→aO,set_cons_zero→a2,set_cons_succ→a3,getElem_mem→a5,getElem?_eq_some_iff→a6,not_mem_nil→bj,mem_cons→bq,flatMap_cons→bw,length_cons→bx
open Go.Value.slice renaming injEq→a0
open Go.RowKit.Below renaming refl→a1,heap_setCell→bh
open Array renaming getElem?_setIfInBounds→a4
open Int renaming toNat_natCast→a8
open Go.Value.agg renaming injEq→ba
open List.cons renaming injEq→bb
open Array.mk renaming injEq→be
open Go.World renaming frozen?→bg,setCell→bm,cell?→bA
open Go.Value renaming tuple→bi
open Option.some renaming injEq→bp
open Bool renaming and_eq_false_iff→bs
namespace Go.Proofs.YtiepijihpgijbaaGreatDoor
open Go.RowKit Tryz
def Ct(D:Nat→Prop)(v:aj):Prop:=∀ a n c,v=Y (Z a) n c→0<n→D a.block
def Bm(w:ap)(D:Nat→Prop)(v:aj)(l:List Wt):Prop:=Al w 0 v l∧Ct D v
def A4(w:ap)(D:Nat→Prop)(v:aj)(l:List Int):Prop:=Af U w 0 v l∧Ct D v
def BS(w:ap)(D:Nat→Prop)(v:aj)(q:List (List Int)):Prop:=
 ∃ vs:List aj,Sl w 0 1 v q.length vs∧Ct D v∧∀ (i:Nat) u x,vs[i]? =Z u→q[i]? =Z x→A4 w D u x
structure KeepD(D:Nat→Prop)(w w':ap):Prop where
 size:w.heap.size≤w'.heap.size
 block:∀ b,D b→b<w.heap.size→w'.heap[b]? =w.heap[b]?
def Gh{w w':ap}{b:Nat}(h:w'.heap[b]? =w.heap[b]?)(o:Nat):w'.cell? ⟨b,o,O⟩=w.cell? ⟨b,o,O⟩:=by
 unfold bA;rw[h]
section
variable {D D':Nat→Prop} {w w':ap} {v:aj} {l:List Wt} {m:List Int} {q:List (List Int)}
def KeepD.C9(a:Bl w w'):KeepD D w w':=⟨a.size,fun b _ c=>a.block b c⟩
def I6{sz n:Nat}{f:List aj}(h:Sl w 0 sz v n f)(r:Ct D v)(d:KeepD D w w'):Sl w' 0 sz v n f:=by
 obtain⟨g,cap,e,t,x,s,y⟩:=h;refine⟨g,cap,e,t,x,s,fun a=>?_⟩;obtain⟨b,A,c,i,o,p⟩:=y a;have k:D b:=by subst c;exact r _ _ _ e a
 have B:=d.size;exact⟨b,A,c,i,by omega,fun j u z=>(Gh (d.block b k o) _).trans (p j u z)⟩
def Bm.Ag(h:Bm w D v l)(a:KeepD D w w'):Bm w' D v l:=⟨I6 h.1 h.2 a,h.2⟩
def A4.Ag(h:A4 w D v m)(a:KeepD D w w'):A4 w' D v m:=⟨I6 h.1 h.2 a,h.2⟩
def BS.Ag(h:BS w D v q)(b:KeepD D w w'):BS w' D v q:=by
 obtain⟨vs,c,a,d⟩:=h;exact⟨vs,I6 c a b,a,fun i u x e f=>(d i u x e f).Ag b⟩
def Ct.mono(h:Ct D v)(d:∀ b,D b→D' b):Ct D' v:=fun a n c f e=>d _ (h a n c f e)
def Bm.mono(h:Bm w D v l)(a:∀ b,D b→D' b):Bm w D' v l:=⟨h.1,h.2.mono a⟩
def A4.mono(h:A4 w D v m)(a:∀ b,D b→D' b):A4 w D' v m:=⟨h.1,h.2.mono a⟩
def BS.mono(h:BS w D v q)(a:∀ b,D b→D' b):BS w D' v q:=by
 obtain⟨vs,c,d,e⟩:=h;exact⟨vs,c,d.mono a,fun i u x f g=>(e i u x f g).mono a⟩
def My:Ct D (Y O 0 0):=fun a n c b _=>by cases b
def Ja{B sz n:Nat}{p:List aj}(h:Sl w B sz v n p)(f:∀ b,B≤b→b<w.heap.size→D b):Ct D v:=fun a s c o j=>by
 obtain⟨r,cap,d,_,_,_,k⟩:=h;subst o;simp only[a0] at d;obtain⟨rfl,rfl,rfl⟩:=d;obtain⟨b,t,g,e,i,_⟩:=k j;cases g;exact f b e i
def Al.CZ{B:Nat}(h:Al w B v l)(a:∀ b,B≤b→b<w.heap.size→D b):Bm w D v l:=⟨h.mono (bk _),Ja h a⟩
def Af.CZ{B:Nat}(h:Af U w B v m)(a:∀ b,B≤b→b<w.heap.size→D b):A4 w D v m:=⟨h.mono (bk _),Ja h a⟩
def A6.CZ{B:Nat}(h:A6 w B v q)(c:∀ b,B≤b→b<w.heap.size→D b):BS w D v q:=by
 obtain⟨vs,a,d⟩:=h;exact⟨vs,a.mono (bk _),Ja a c,fun i u x e f=>(d i u x e f).CZ c⟩
def BS.rd(h:BS w D v q):A6 w 0 v q:=by
 obtain⟨vs,a,_,b⟩:=h;exact⟨vs,a,fun i u x c d=>(b i u x c d).1⟩
def Bm.nil:Bm w D (Y O 0 0) []:=⟨Sl.nil w 0 3,My⟩
def A4.nil:A4 w D (Y O 0 0) []:=⟨Sl.nil w 0 1,My⟩
def BS.nil:BS w D (Y O 0 0) []:=⟨[],Sl.nil w 0 1,My,fun i u x a=>by simp at a⟩
end
def EP(l:List Ai):List aj:=l.flatMap fun x=> [I U x.op,I J x.a,I J x.b,I J x.c]
def DG(w:ap)(v:aj)(l:List Ai):Prop:=Sl w 0 4 v l.length (EP l)
def Gc(w:ap)(D:Nat→Prop)(v:aj)(l:List Ai):Prop:=DG w v l∧Ct D v
def Gc.Ag{w w':ap}{D:Nat→Prop}{v:aj}{l:List Ai}(h:Gc w D v l)(a:KeepD D w w'):Gc w' D v l:=⟨I6 h.1 h.2 a,h.2⟩
def Gc.mono{w:ap}{D D':Nat→Prop}{v:aj}{l:List Ai}(h:Gc w D v l)(a:∀ b,D b→D' b):Gc w D' v l:=⟨h.1,h.2.mono a⟩
def AN(w:ap)(b o:Nat)(a:List aj):Prop:=∀ (j:Nat) (u:aj),a[j]? =Z u→w.cell? ⟨b,o+j,O⟩=Z u
def EK(w:ap)(b:Nat):Nat→List aj→ap
 | _,[]=>w
 |o,v::vs=>EK (w.setCell ⟨b,o,O⟩ v) b (o+1) vs
section
variable {w w':ap} {b o:Nat} {cs vs:List aj}
def L3:∀ (vs:List aj) (w:ap) (o:Nat),(EK w b o vs).heap.size=w.heap.size
 | [],_,_=>rfl
 |v::vs,w,o=>by
  rw[EK,L3 vs];simp[bm]
def L2{a:Nat}(c:a≠b):∀ (vs:List aj) (w:ap) (o:Nat),(EK w b o vs).heap[a]? =w.heap[a]?
 | [],_,_=>rfl
 |v::vs,w,o=>by
  rw[EK,L2 c vs];exact bh _ _ _ _ c
def Nt{t:bc}:∀ (vs:List aj) (w:ap) (o:Nat) (cs:Array aj),w.heap[b]? =Z (T cs t (0,0))→∃ c,(EK w b o vs).heap[b]? =Z (T c t (0,0))∧c.size=cs.size∧
  (∀ q,q<o∨o+vs.length≤q→c[q]? =cs[q]?)∧∀ j u,vs[j]? =Z u→o+j<cs.size→c[o+j]? =Z u
 | [],w,o,cs,h=>⟨cs,h,rfl,fun _ _=>rfl,fun j u a=>by simp at a⟩
 |v::vs,w,o,cs,h=>by
  obtain⟨c,k,d,e,f⟩:=Nt vs (w.setCell ⟨b,o,O⟩ v) (o+1) _ (bd w b o _ _ v h);simp only[Array.size_setIfInBounds] at d f;refine⟨c,k,d,fun q i=>?_,fun j u a g=>?_⟩
  ·rw[e q (by simp only[bx] at i;omega),a4];simp only[bx] at i;rw[if_neg (by omega)]
  ·match j,a with
   |0,a=>
    simp only[List.getElem?_cons_zero,bp] at a;subst a;rw[bC,e o (.inl (by omega)),a4,if_pos rfl];rw[bC] at g;rw[if_pos g]
   |j+1,a=>
    have:=f j u (by simpa using a) (by omega);rw[show o+(j+1)=o+1+j by omega];exact this
def L1:∀ (vs:List aj) (w:ap) (o:Nat),(EK w b o vs).os=w.os∧(EK w b o vs).tape=w.tape∧(EK w b o vs).output=w.output
 | [],_,_=>⟨rfl,rfl,rfl⟩
 |v::vs,w,o=>by
  rw[EK];exact L1 vs (w.setCell ⟨b,o,O⟩ v) (o+1)
def Cr{w:ap}{b:Nat}{cs:Array aj}{t:bc}(h:w.heap[b]? =Z (T cs t (0,0))){q:Nat}:w.cell? ⟨b,q,O⟩=cs[q]?:=by simp[bA,h]
def AN.same(h:AN w b o cs)(c:∀ j,j<cs.length→w'.cell? ⟨b,o+j,O⟩=w.cell? ⟨b,o+j,O⟩):AN w' b o cs:=fun j u a=>(c j (a6.1 a).1).trans (h j u a)
def AN.block(h:AN w b o cs)(a:w'.heap[b]? =w.heap[b]?):AN w' b o cs:=h.same fun _ _=>Gh a _
def AN.set{t:bc}{g:Array aj}(h:AN w b o cs)(f:w.heap[b]? =Z (T g t (0,0)))(j:Nat)(u:aj):AN (w.setCell ⟨b,o+j,O⟩ u) b o (cs.set j u):=fun k x a=>by
 have c:k<cs.length:=by have:=(a6.1 a).1;simpa using this
 have d:=h k cs[k] (aO c);rw[bn w _ _ _ _ _ f] at d;rw[bn _ _ _ _ _ _ (bd w b (o+j) _ _ u f),a4];have i:=(Array.getElem?_eq_some_iff.1 d).1;rw[List.getElem?_set] at a;by_cases e:j=k
 ·subst e;rw[if_pos rfl] at a ⊢;rw[if_pos c] at a;rw[if_pos i];exact a
 ·rw[if_neg e] at a;rw[if_neg (by omega)];exact d.trans (by rw[←a,aO c])
end
structure Am(w:ap)(D:Nat→Prop)(b:Nat)(t:bc)(sz:Nat)(a:Option bD)(c:Nat){α:Type}(El:ap→(Nat→Prop)→Nat→Nat→α→Prop)(l:List α):Prop where
 cap:l.length≤c
 nil:a=O→c=0
 ptr:0<l.length→a=Z ⟨b,0,O⟩
 nd:¬D b
 lt:b<w.heap.size
 blk:0<l.length→∃ cs,w.heap[b]? =Z (T cs t (0,0))∧l.length*sz≤cs.size
 el:∀ k (hk:k<l.length),El w D b (k*sz) l[k]
def Loc{α:Type}(sz:Nat)(El:ap→(Nat→Prop)→Nat→Nat→α→Prop):Prop:=∀ (w w':ap) (D:Nat→Prop) (b o:Nat) (x:α),El w D b o x→KeepD D w w'→(∀ j,j<sz→w'.cell? ⟨b,o+j,O⟩=w.cell? ⟨b,o+j,O⟩)→El w' D b o x
section
variable {w w':ap} {D:Nat→Prop} {b sz c:Nat} {t:bc} {a:Option bD} {α:Type} {El:ap→(Nat→Prop)→Nat→Nat→α→Prop} {l:List α}
def Am.Ag(h:Am w D b t sz a c El l)(g:Loc sz El)(f:KeepD D w w')(e:0<l.length→w'.heap[b]? =w.heap[b]?):Am w' D b t sz a c El l:=
 ⟨h.cap,h.nil,h.ptr,h.nd,a9 h.lt f.size,fun d=>by rw[e d];exact h.blk d,fun k i=>g _ _ _ _ _ _ (h.el k i) f fun j _=>Gh (e (by omega)) _⟩
def Am.below(h:Am w D b t sz a c El l)(e:Loc sz El)(d:Bl w w'):Am w' D b t sz a c El l:=h.Ag e (.C9 d) fun _=>d.block _ h.lt
def KeepD.set{D:Nat→Prop}(e:¬D b)(o:Nat)(u:aj):KeepD D w (w.setCell ⟨b,o,O⟩ u):=⟨by simp[bm],fun f d _=>bh _ _ _ _ (by rintro rfl;exact e d)⟩
def Am.put(h:Am w D b t sz a c El l)(m:Loc sz El){k:Nat}(g:KeepD D w w'){d:Array aj}(n:w'.heap[b]? =Z (T d t (0,0)))(s:l.length*sz≤d.size)(r:∀ q,q<k*sz∨k*sz+sz≤q→w'.cell? ⟨b,q,O⟩=w.cell? ⟨b,q,O⟩){x:α}(u:El w' D b (k*sz) x):
  Am w' D b t sz a c El (l.set k x):=
 ⟨by simpa using h.cap,h.nil,by simpa using h.ptr,h.nd,a9 h.lt g.size,fun _=>⟨d,n,by simpa using s⟩,fun i o=>by
  have p:i<l.length:=by simpa using o
  by_cases e:k=i
  ·subst e;simpa using u
  ·rw[List.getElem_set_ne e];refine m _ _ _ _ _ _ (h.el i p) g fun j v=>r _ ?_
   rcases Nat.lt_or_ge i k with f|f
   ·have:(i+1)*sz≤k*sz:=bf sz f;rw[bt] at this;omega
   ·have:(k+1)*sz≤i*sz:=bf sz (by omega);rw[bt] at this;omega⟩
def Am.YL(h:Am w D b t sz a c El l)(d:Loc sz El){k:Nat}(o:k<l.length){j:Nat}(n:j<sz)(u:aj){x:α}(i:El (w.setCell ⟨b,k*sz+j,O⟩ u) D b (k*sz) x):
  Am (w.setCell ⟨b,k*sz+j,O⟩ u) D b t sz a c El (l.set k x):=by
 obtain⟨m,f,g⟩:=h.blk (by omega);refine h.put d (KeepD.set h.nd _ _) (bd w b _ _ _ u f) (by simpa using g) (fun q p=>?_) i;exact World.cell?_setCell_other w ⟨b,k*sz+j,O⟩ ⟨b,q,O⟩ u (by intro e;injection e with _ e2;omega)
def Am.frozen(h:Am w D b t sz a c El l)(d:0<l.length)(o:Nat):w.frozen? ⟨b,o,O⟩=false:=by
 obtain⟨f,e,_⟩:=h.blk d;simp[bg,e]
def KeepD.Jy{D:Nat→Prop}(e:¬D b)(o:Nat)(vs:List aj):KeepD D w (EK w b o vs):=⟨by rw[L3];exact av _,fun f d _=>L2 (by rintro rfl;exact e d) _ _ _⟩
def Am.Jy(h:Am w D b t sz a c El l)(n:Loc sz El){k:Nat}(s:k<l.length){vs:List aj}(A:vs.length=sz){x:α}(o:∀ w',AN w' b (k*sz) vs→KeepD D w w'→El w' D b (k*sz) x):
  Am (EK w b (k*sz) vs) D b t sz a c El (l.set k x):=by
 obtain⟨e,f,z⟩:=h.blk (by omega);obtain⟨p,d,r,i,m⟩:=Nt vs w (k*sz) e f;have v:k*sz+sz≤e.size:=by
  have:(k+1)*sz≤l.length*sz:=bf sz (by omega);rw[bt] at this;omega
 refine h.put n (KeepD.Jy h.nd _ _) d (by omega) (fun q y=>?_) (o _ (fun j u g=>?_) (KeepD.Jy h.nd _ _))
 ·rw[Cr d,Cr f];exact i q (by omega)
 ·rw[Cr d];have:=(a6.1 g).1;exact m j u g (by omega)
end
def setsAt(w:ap)(b o:Nat):List (Nat×aj)→ap
 | []=>w
 |x::r=>setsAt (w.setCell ⟨b,o+x.1,O⟩ x.2) b o r
def FX(a:List aj):List (Nat×aj)→List aj
 | []=>a
 |x::r=>FX (a.set x.1 x.2) r
section
variable {b o:Nat}
def BO:∀ (r:List (Nat×aj)) (w:ap),(setsAt w b o r).heap.size=w.heap.size
 | [],_=>rfl
 |x::r,w=>by
  rw[setsAt,BO r];simp[bm]
def AU{a:Nat}(c:a≠b):∀ (r:List (Nat×aj)) (w:ap),(setsAt w b o r).heap[a]? =w.heap[a]?
 | [],_=>rfl
 |x::r,w=>by
  rw[setsAt,AU c r];exact bh _ _ _ _ c
def Be:∀ (r:List (Nat×aj)) (w:ap),(setsAt w b o r).os=w.os∧(setsAt w b o r).tape=w.tape∧(setsAt w b o r).output=w.output
 | [],_=>⟨rfl,rfl,rfl⟩
 |x::r,w=>by
  rw[setsAt];exact Be r (w.setCell ⟨b,o+x.1,O⟩ x.2)
def Qs{t:bc}{sz:Nat}:∀ (r:List (Nat×aj)) (w:ap) (d:List aj) (a:Array aj),w.heap[b]? =Z (T a t (0,0))→AN w b o d→(∀ x∈r,x.1<sz)→
  AN (setsAt w b o r) b o (FX d r)∧∃ c,(setsAt w b o r).heap[b]? =Z (T c t (0,0))∧c.size=a.size∧∀ q,q<o∨o+sz≤q→c[q]? =a[q]?
 | [],w,d,a,e,f,_=>⟨f,a,e,rfl,fun _ _=>rfl⟩
 |x::r,w,d,a,e,f,g=>by
  obtain⟨h,c,i,j,k⟩:=Qs r (w.setCell ⟨b,o+x.1,O⟩ x.2) (d.set x.1 x.2) _ (bd w b (o+x.1) _ _ x.2 e) (f.set e x.1 x.2) (fun y m=>g y (List.mem_cons_of_mem _ m));refine⟨h,c,i,by simpa using j,fun q l=>?_⟩;rw[k q l,a4,if_neg (by have:=g x (List.mem_cons_self ..);omega)]
end
def KeepD.Cc{w:ap}{D:Nat→Prop}{b:Nat}(c:¬D b)(o:Nat)(r:List (Nat×aj)):KeepD D w (setsAt w b o r):=⟨by rw[BO];exact av _,fun d a _=>AU (by rintro rfl;exact c a) _ _⟩
def Am.Cc{w:ap}{D:Nat→Prop}{b sz c:Nat}{t:bc}{a:Option bD}{α:Type}{El:ap→(Nat→Prop)→Nat→Nat→α→Prop}{l:List α}(h:Am w D b t sz a c El l)(m:Loc sz El){k:Nat}(y:k<l.length){r:List (Nat×aj)}(p:∀ x∈r,x.1<sz){d:List aj}(n:AN w b (k*sz) d){x:α}(s:∀ w',AN w' b (k*sz) (FX d r)→KeepD D w w'→El w' D b (k*sz) x):
  Am (setsAt w b (k*sz) r) D b t sz a c El (l.set k x):=by
 obtain⟨g,f,z⟩:=h.blk (by omega);obtain⟨i,u,e,v,j⟩:=Qs (sz:=sz) r w d g f n p;refine h.put m (KeepD.Cc h.nd _ _) e (by omega) (fun q o=>?_) (s _ i (KeepD.Cc h.nd _ _));rw[Cr e,Cr f];exact j q o
section
variable (w:ap) (D:Nat→Prop) (b o:Nat)
def ElPr(x:BA):Prop:=∃ a c r2 r3,x.s.AG=[a,c,r2,r3]∧AN w b o [I U x.status,I J x.s.pc,I J x.s.left,I U a,I U c,I U r2,I U r3,I J x.since,I J x.release,I J x.deadline,I U x.why,I J x.on]
def ElSa(x:Ee):Prop:=∃ v,AN w b o [v,I J x.at_,.bool x.has]∧A4 w D v x.data
def ElQu(x:AO):Prop:=∃ v u,AN w b o [v,u,I J x.lost]∧BS w D v x.q∧Bm w D u x.wait
def ElBu(x:AT):Prop:=∃ v p g,AN w b o [I J x.depth,v,p,g]∧A4 w D v x.data∧Bm w D p x.put∧Bm w D g x.get
def ElBo(x:BE):Prop:=∃ v,AN w b o [.bool x.has,I U x.val,v]∧Bm w D v x.wait
def ElSe(x:BU):Prop:=∃ v,AN w b o [I J x.count,v]∧Bm w D v x.wait
def ElEv(x:C3):Prop:=∃ v,AN w b o [.bool x.up,v]∧Bm w D v x.wait
def K4(x:CV):Prop:=∃ nm,AN w b o [.string nm,I U x.kind,.bool x.o,I J x.size,I J x.depth,I J x.At]
def K3(x:Eu):Prop:=∃ nm v,AN w b o [.string nm,I J x.prio,I J x.period,I J x.Cf,v]∧Gc w D v x.code
def Ii(x:Int):Prop:=AN w b o [I J x]
def ElB(x:Int):Prop:=AN w b o [I U x]
end
def Fw:Loc 12 (fun w _ b o x=>ElPr w b o x):=fun _ _ _ _ _ _ ⟨d,e,r2,r3,h,a⟩ _ c=>⟨d,e,r2,r3,h,a.same c⟩
def FT:Loc 3 ElSa:=fun _ _ _ _ _ _ ⟨v,b,a⟩ c d=>⟨v,b.same d,a.Ag c⟩
def F0:Loc 3 ElQu:=fun _ _ _ _ _ _ ⟨v,u,d,b,c⟩ a e=>⟨v,u,d.same e,b.Ag a,c.Ag a⟩
def Fu:Loc 4 ElBu:=fun _ _ _ _ _ _ ⟨v,p,g,e,b,c,d⟩ a f=>⟨v,p,g,e.same f,b.Ag a,c.Ag a,d.Ag a⟩
def Ft:Loc 3 ElBo:=fun _ _ _ _ _ _ ⟨v,b,a⟩ c d=>⟨v,b.same d,a.Ag c⟩
def F4:Loc 2 ElSe:=fun _ _ _ _ _ _ ⟨v,b,a⟩ c d=>⟨v,b.same d,a.Ag c⟩
def Fv:Loc 2 ElEv:=fun _ _ _ _ _ _ ⟨v,b,a⟩ c d=>⟨v,b.same d,a.Ag c⟩
def Fc:Loc 6 (fun w _ b o x=>K4 w b o x):=fun _ _ _ _ _ _ ⟨v,a⟩ _ c=>⟨v,a.same c⟩
def Fb:Loc 5 K3:=fun _ _ _ _ _ _ ⟨nm,v,b,a⟩ c d=>⟨nm,v,b.same d,a.Ag c⟩
def C8:Loc 1 (fun w _ b o x=>Ii w b o x):=fun _ _ _ _ _ _ a _ c=>a.same c
def ED:Loc 1 (fun w _ b o x=>ElB w b o x):=fun _ _ _ _ _ _ a _ c=>a.same c
structure Fk where
 a:Option bD
 c:Nat
 b:Nat
structure Hd where
 nm:ByteArray
 per:Int
 len:Int
 Bs:Fk
 Bt:Fk
 AB:Fk
 Ay:Fk
 pr:Fk
 sa:Fk
 qu:Fk
 bu:Fk
 bo:Fk
 se:Fk
 ev:Fk
 me:Fk
def CR(d:Ad)(h:Hd)(s:Ae):Array aj:=
 #[.string h.nm,I J h.per,I J h.len,I J d.mem,Y h.Bs.a d.semas.length h.Bs.c,I J d.events,I J d.boards,Y h.Bt.a d.bufs.length h.Bt.c,Y h.AB.a d.Ab.length h.AB.c,Y h.Ay.a d.procs.length h.Ay.c,
  Y h.pr.a s.procs.length h.pr.c,Y h.sa.a s.samples.length h.sa.c,Y h.qu.a s.queues.length h.qu.c,Y h.bu.a s.bufs.length h.bu.c,Y h.bo.a s.boards.length h.bo.c,Y h.se.a s.semas.length h.se.c,Y h.ev.a s.events.length h.ev.c,
  I U s.mode,I J s.clock,Y h.me.a s.mem.length h.me.c,.bool true]
structure PA(w:ap)(D:Nat→Prop)(g:Nat)(d:Ad)(h:Hd)(s:Ae):Prop where
 blk:w.heap[g]? =Z (T (CR d h s) 88 (0,0))
 nd:¬D g
 Bs:Am w D h.Bs.b 3 1 h.Bs.a h.Bs.c (fun w _ b o x=>Ii w b o x) d.semas
 Bt:Am w D h.Bt.b 3 1 h.Bt.a h.Bt.c (fun w _ b o x=>Ii w b o x) d.bufs
 AB:Am w D h.AB.b 62 6 h.AB.a h.AB.c (fun w _ b o x=>K4 w b o x) d.Ab
 Ay:Am w D h.Ay.b 68 5 h.Ay.a h.Ay.c K3 d.procs
 pr:Am w D h.pr.b 51 12 h.pr.a h.pr.c (fun w _ b o x=>ElPr w b o x) s.procs
 sa:Am w D h.sa.b 114 3 h.sa.a h.sa.c ElSa s.samples
 qu:Am w D h.qu.b 107 3 h.qu.a h.qu.c ElQu s.queues
 bu:Am w D h.bu.b 111 4 h.bu.a h.bu.c ElBu s.bufs
 bo:Am w D h.bo.b 103 3 h.bo.a h.bo.c ElBo s.boards
 se:Am w D h.se.b 95 2 h.se.a h.se.c ElSe s.semas
 ev:Am w D h.ev.b 99 2 h.ev.a h.ev.c ElEv s.events
 me:Am w D h.me.b 5 1 h.me.a h.me.c (fun w _ b o x=>ElB w b o x) s.mem
def Mut(g:Nat)(h:Hd):List Nat:=[g,h.pr.b,h.sa.b,h.qu.b,h.bu.b,h.bo.b,h.se.b,h.ev.b,h.me.b]
def Upd.Jy{M:List Nat}{w:ap}{b:Nat}(a:b∈M)(o:Nat)(vs:List aj):Upd M w (EK w b o vs):=
 ⟨(L1 _ _ _).1,(L1 _ _ _).2.1,(L1 _ _ _).2.2,by rw[L3];exact av _,fun k _ c=>L2 (by rintro rfl;exact c a) _ _ _⟩
def DT{w:ap}{b c:Nat}{e f:Array aj}{t d:bc}{g i:Nat×Nat}(h:w.heap[b]? =Z (T e t g))(a:w.heap[c]? =Z (T f d i))(j:t≠d):b≠c:=by
 rintro rfl;rw[h] at a;simp only[bp,Obj.cells.injEq] at a;exact j a.2.1
structure Dv(D:Nat→Prop)(b0:Nat)(t0:bc)(w w':ap):Prop where
 kd:KeepD D w w'
 tag:∃ cs fz,w.heap[b0]? =Z (T cs t0 fz)
 oth:∀ b,b<w.heap.size→b≠b0→w'.heap[b]? =w.heap[b]?
def Am.one{w w':ap}{D:Nat→Prop}{b sz c:Nat}{t:bc}{a:Option bD}{α:Type}{El:ap→(Nat→Prop)→Nat→Nat→α→Prop}{l:List α}{f:Nat}{t0:bc}(h:Am w D b t sz a c El l)(g:Loc sz El)(e:Dv D f t0 w w')(j:t≠t0):Am w' D b t sz a c El l:=
 h.Ag g e.kd fun d=>by
  obtain⟨k,i,_⟩:=h.blk d;obtain⟨m,n,d⟩:=e.tag;exact e.oth b h.lt (DT i d j)
section
variable {w w':ap} {D:Nat→Prop} {g:Nat} {d:Ad} {hd:Hd} {s:Ae}
def PA.below(h:PA w D g d hd s)(a:Bl w w'):PA w' D g d hd s:=
 ⟨(a.block _ (Aa h.blk)).trans h.blk,h.nd,h.Bs.below C8 a,h.Bt.below C8 a,h.AB.below Fc a,h.Ay.below Fb a,h.pr.below Fw a,h.sa.below FT a,h.qu.below F0 a,h.bu.below Fu a,h.bo.below Ft a,h.se.below F4 a,h.ev.below Fv a,h.me.below ED a⟩
def PA.drew(h:PA w D g d hd s):PA w.drew D g d hd s:=h.below (a1 _ w).drew
def PA.drewN(h:PA w D g d hd s)(n:Nat):PA (w.drewN n) D g d hd s:=h.below ⟨rfl,rfl,rfl,av _,fun _ _=>rfl⟩
def PA.lt(h:PA w D g d hd s):g<w.heap.size:=Aa h.blk
def PA.cell(h:PA w D g d hd s)(o:Nat):w.cell? ⟨g,o,O⟩=(CR d hd s)[o]?:=bn w _ _ _ _ _ h.blk
def PA.frozen(h:PA w D g d hd s)(o:Nat):w.frozen? ⟨g,o,O⟩=false:=by simp[bg,h.blk]
end
section
variable {w w':ap} {D:Nat→Prop} {g:Nat} {d:Ad} {hd:Hd} {s:Ae}
def PA.Jl(h:PA w D g d hd s){i:Nat}(f:i<s.procs.length):∃ c e r2 r3,s.procs[i].s.AG=[c,e,r2,r3]∧w.cell? ⟨hd.pr.b,i*12,O⟩=Z (I U s.procs[i].status)∧w.cell? ⟨hd.pr.b,i*12+1,O⟩=Z (I J s.procs[i].s.pc)∧w.cell? ⟨hd.pr.b,i*12+2,O⟩=Z (I J s.procs[i].s.left)∧
  w.cell? ⟨hd.pr.b,i*12+3,O⟩=Z (I U c)∧w.cell? ⟨hd.pr.b,i*12+4,O⟩=Z (I U e)∧w.cell? ⟨hd.pr.b,i*12+5,O⟩=Z (I U r2)∧w.cell? ⟨hd.pr.b,i*12+6,O⟩=Z (I U r3)∧
  w.cell? ⟨hd.pr.b,i*12+7,O⟩=Z (I J s.procs[i].since)∧w.cell? ⟨hd.pr.b,i*12+8,O⟩=Z (I J s.procs[i].release)∧w.cell? ⟨hd.pr.b,i*12+9,O⟩=Z (I J s.procs[i].deadline)∧w.cell? ⟨hd.pr.b,i*12+10,O⟩=Z (I U s.procs[i].why)∧w.cell? ⟨hd.pr.b,i*12+11,O⟩=Z (I J s.procs[i].on):=by
 obtain⟨c,e,r2,r3,j,a⟩:=h.pr.el i f;exact⟨c,e,r2,r3,j,a 0 _ rfl,a 1 _ rfl,a 2 _ rfl,a 3 _ rfl,a 4 _ rfl,a 5 _ rfl,a 6 _ rfl,a 7 _ rfl,a 8 _ rfl,a 9 _ rfl,a 10 _ rfl,a 11 _ rfl⟩
end
def Upd.Cc{M:List Nat}{w:ap}{b:Nat}(a:b∈M)(o:Nat)(r:List (Nat×aj)):Upd M w (setsAt w b o r):=
 ⟨(Be _ _).1,(Be _ _).2.1,(Be _ _).2.2,by rw[BO];exact av _,fun k _ c=>AU (by rintro rfl;exact c a) _ _⟩
section
variable {w w':ap} {D:Nat→Prop} {g:Nat} {d:Ad} {hd:Hd} {s:Ae}
def PA.Y4(h:PA w D g d hd s)(e:Dv D hd.pr.b 51 w w'){l:List _}(i:l.length=s.procs.length)(j:Am w' D hd.pr.b 51 12 hd.pr.a hd.pr.c (fun w _ b o x=>ElPr w b o x) l):PA w' D g d hd {s with procs:=l}:=
 ⟨(e.oth g h.lt (by
   obtain⟨k,m,f⟩:=e.tag;exact DT h.blk f (by decide))).trans (by rw[h.blk];simp only[CR,i]),h.nd,h.Bs.one C8 e (by decide),h.Bt.one C8 e (by decide),h.AB.one Fc e (by decide),h.Ay.one Fb e (by decide),j,h.sa.one FT e (by decide),h.qu.one F0 e (by decide),h.bu.one Fu e (by decide),h.bo.one Ft e (by decide),h.se.one F4 e (by decide),h.ev.one Fv e (by decide),h.me.one ED e (by decide)⟩
def PA.XD(h:PA w D g d hd s)(c:0<s.procs.length)(f:KeepD D w w')(hoth:∀ b,b<w.heap.size→b≠hd.pr.b→w'.heap[b]? =w.heap[b]?):Dv D hd.pr.b 51 w w':=by
 obtain⟨a,e,_⟩:=h.pr.blk c;exact⟨f,⟨a,_,e⟩,hoth⟩
def PA.FY(h:PA w D g d hd s){k:Nat}(f:k<s.procs.length)(r:List (Nat×aj))(j:r.all (fun x=>decide (x.1<12))=true){c:List aj}(e:AN w hd.pr.b (k*12) c){x}(a:∀ w',AN w' hd.pr.b (k*12) (FX c r)→KeepD D w w'→ElPr w' hd.pr.b (k*12) x):
  PA (setsAt w hd.pr.b (k*12) r) D g d hd {s with procs:=s.procs.set k x}∧Upd (Mut g hd) w (setsAt w hd.pr.b (k*12) r):=
 ⟨h.Y4 (h.XD (by omega) (KeepD.Cc h.pr.nd _ _) fun b _ i=>AU i _ _) (by simp) (h.pr.Cc Fw f (fun x a=>by simpa using aN.1 j x a) e a),.Cc (by simp[Mut]) _ _⟩
def PA.Y6(h:PA w D g d hd s)(e:Dv D hd.sa.b 114 w w'){l:List _}(i:l.length=s.samples.length)(j:Am w' D hd.sa.b 114 3 hd.sa.a hd.sa.c ElSa l):PA w' D g d hd {s with samples:=l}:=
 ⟨(e.oth g h.lt (by
   obtain⟨k,m,f⟩:=e.tag;exact DT h.blk f (by decide))).trans (by rw[h.blk];simp only[CR,i]),h.nd,h.Bs.one C8 e (by decide),h.Bt.one C8 e (by decide),h.AB.one Fc e (by decide),h.Ay.one Fb e (by decide),h.pr.one Fw e (by decide),j,h.qu.one F0 e (by decide),h.bu.one Fu e (by decide),h.bo.one Ft e (by decide),h.se.one F4 e (by decide),h.ev.one Fv e (by decide),h.me.one ED e (by decide)⟩
def PA.XF(h:PA w D g d hd s)(c:0<s.samples.length)(f:KeepD D w w')(hoth:∀ b,b<w.heap.size→b≠hd.sa.b→w'.heap[b]? =w.heap[b]?):Dv D hd.sa.b 114 w w':=by
 obtain⟨a,e,_⟩:=h.sa.blk c;exact⟨f,⟨a,_,e⟩,hoth⟩
def PA.Lt(h:PA w D g d hd s){k:Nat}(f:k<s.samples.length)(r:List (Nat×aj))(j:r.all (fun x=>decide (x.1<3))=true){c:List aj}(e:AN w hd.sa.b (k*3) c){x}(a:∀ w',AN w' hd.sa.b (k*3) (FX c r)→KeepD D w w'→ElSa w' D hd.sa.b (k*3) x):
  PA (setsAt w hd.sa.b (k*3) r) D g d hd {s with samples:=s.samples.set k x}∧Upd (Mut g hd) w (setsAt w hd.sa.b (k*3) r):=
 ⟨h.Y6 (h.XF (by omega) (KeepD.Cc h.sa.nd _ _) fun b _ i=>AU i _ _) (by simp) (h.sa.Cc FT f (fun x a=>by simpa using aN.1 j x a) e a),.Cc (by simp[Mut]) _ _⟩
def PA.Y5(h:PA w D g d hd s)(e:Dv D hd.qu.b 107 w w'){l:List _}(i:l.length=s.queues.length)(j:Am w' D hd.qu.b 107 3 hd.qu.a hd.qu.c ElQu l):PA w' D g d hd {s with queues:=l}:=
 ⟨(e.oth g h.lt (by
   obtain⟨k,m,f⟩:=e.tag;exact DT h.blk f (by decide))).trans (by rw[h.blk];simp only[CR,i]),h.nd,h.Bs.one C8 e (by decide),h.Bt.one C8 e (by decide),h.AB.one Fc e (by decide),h.Ay.one Fb e (by decide),h.pr.one Fw e (by decide),h.sa.one FT e (by decide),j,h.bu.one Fu e (by decide),h.bo.one Ft e (by decide),h.se.one F4 e (by decide),h.ev.one Fv e (by decide),h.me.one ED e (by decide)⟩
def PA.XE(h:PA w D g d hd s)(c:0<s.queues.length)(f:KeepD D w w')(hoth:∀ b,b<w.heap.size→b≠hd.qu.b→w'.heap[b]? =w.heap[b]?):Dv D hd.qu.b 107 w w':=by
 obtain⟨a,e,_⟩:=h.qu.blk c;exact⟨f,⟨a,_,e⟩,hoth⟩
def PA.Jv(h:PA w D g d hd s){k:Nat}(f:k<s.queues.length)(r:List (Nat×aj))(j:r.all (fun x=>decide (x.1<3))=true){c:List aj}(e:AN w hd.qu.b (k*3) c){x}(a:∀ w',AN w' hd.qu.b (k*3) (FX c r)→KeepD D w w'→ElQu w' D hd.qu.b (k*3) x):
  PA (setsAt w hd.qu.b (k*3) r) D g d hd {s with queues:=s.queues.set k x}∧Upd (Mut g hd) w (setsAt w hd.qu.b (k*3) r):=
 ⟨h.Y5 (h.XE (by omega) (KeepD.Cc h.qu.nd _ _) fun b _ i=>AU i _ _) (by simp) (h.qu.Cc F0 f (fun x a=>by simpa using aN.1 j x a) e a),.Cc (by simp[Mut]) _ _⟩
def PA.Y2(h:PA w D g d hd s)(e:Dv D hd.bu.b 111 w w'){l:List _}(i:l.length=s.bufs.length)(j:Am w' D hd.bu.b 111 4 hd.bu.a hd.bu.c ElBu l):PA w' D g d hd {s with bufs:=l}:=
 ⟨(e.oth g h.lt (by
   obtain⟨k,m,f⟩:=e.tag;exact DT h.blk f (by decide))).trans (by rw[h.blk];simp only[CR,i]),h.nd,h.Bs.one C8 e (by decide),h.Bt.one C8 e (by decide),h.AB.one Fc e (by decide),h.Ay.one Fb e (by decide),h.pr.one Fw e (by decide),h.sa.one FT e (by decide),h.qu.one F0 e (by decide),j,h.bo.one Ft e (by decide),h.se.one F4 e (by decide),h.ev.one Fv e (by decide),h.me.one ED e (by decide)⟩
def PA.XB(h:PA w D g d hd s)(c:0<s.bufs.length)(f:KeepD D w w')(hoth:∀ b,b<w.heap.size→b≠hd.bu.b→w'.heap[b]? =w.heap[b]?):Dv D hd.bu.b 111 w w':=by
 obtain⟨a,e,_⟩:=h.bu.blk c;exact⟨f,⟨a,_,e⟩,hoth⟩
def PA.Kr(h:PA w D g d hd s){k:Nat}(f:k<s.bufs.length)(r:List (Nat×aj))(j:r.all (fun x=>decide (x.1<4))=true){c:List aj}(e:AN w hd.bu.b (k*4) c){x}(a:∀ w',AN w' hd.bu.b (k*4) (FX c r)→KeepD D w w'→ElBu w' D hd.bu.b (k*4) x):
  PA (setsAt w hd.bu.b (k*4) r) D g d hd {s with bufs:=s.bufs.set k x}∧Upd (Mut g hd) w (setsAt w hd.bu.b (k*4) r):=
 ⟨h.Y2 (h.XB (by omega) (KeepD.Cc h.bu.nd _ _) fun b _ i=>AU i _ _) (by simp) (h.bu.Cc Fu f (fun x a=>by simpa using aN.1 j x a) e a),.Cc (by simp[Mut]) _ _⟩
def PA.Y1(h:PA w D g d hd s)(e:Dv D hd.bo.b 103 w w'){l:List _}(i:l.length=s.boards.length)(j:Am w' D hd.bo.b 103 3 hd.bo.a hd.bo.c ElBo l):PA w' D g d hd {s with boards:=l}:=
 ⟨(e.oth g h.lt (by
   obtain⟨k,m,f⟩:=e.tag;exact DT h.blk f (by decide))).trans (by rw[h.blk];simp only[CR,i]),h.nd,h.Bs.one C8 e (by decide),h.Bt.one C8 e (by decide),h.AB.one Fc e (by decide),h.Ay.one Fb e (by decide),h.pr.one Fw e (by decide),h.sa.one FT e (by decide),h.qu.one F0 e (by decide),h.bu.one Fu e (by decide),j,h.se.one F4 e (by decide),h.ev.one Fv e (by decide),h.me.one ED e (by decide)⟩
def PA.XA(h:PA w D g d hd s)(c:0<s.boards.length)(f:KeepD D w w')(hoth:∀ b,b<w.heap.size→b≠hd.bo.b→w'.heap[b]? =w.heap[b]?):Dv D hd.bo.b 103 w w':=by
 obtain⟨a,e,_⟩:=h.bo.blk c;exact⟨f,⟨a,_,e⟩,hoth⟩
def PA.Kq(h:PA w D g d hd s){k:Nat}(f:k<s.boards.length)(r:List (Nat×aj))(j:r.all (fun x=>decide (x.1<3))=true){c:List aj}(e:AN w hd.bo.b (k*3) c){x}(a:∀ w',AN w' hd.bo.b (k*3) (FX c r)→KeepD D w w'→ElBo w' D hd.bo.b (k*3) x):
  PA (setsAt w hd.bo.b (k*3) r) D g d hd {s with boards:=s.boards.set k x}∧Upd (Mut g hd) w (setsAt w hd.bo.b (k*3) r):=
 ⟨h.Y1 (h.XA (by omega) (KeepD.Cc h.bo.nd _ _) fun b _ i=>AU i _ _) (by simp) (h.bo.Cc Ft f (fun x a=>by simpa using aN.1 j x a) e a),.Cc (by simp[Mut]) _ _⟩
def PA.Y7(h:PA w D g d hd s)(e:Dv D hd.se.b 95 w w'){l:List _}(i:l.length=s.semas.length)(j:Am w' D hd.se.b 95 2 hd.se.a hd.se.c ElSe l):PA w' D g d hd {s with semas:=l}:=
 ⟨(e.oth g h.lt (by
   obtain⟨k,m,f⟩:=e.tag;exact DT h.blk f (by decide))).trans (by rw[h.blk];simp only[CR,i]),h.nd,h.Bs.one C8 e (by decide),h.Bt.one C8 e (by decide),h.AB.one Fc e (by decide),h.Ay.one Fb e (by decide),h.pr.one Fw e (by decide),h.sa.one FT e (by decide),h.qu.one F0 e (by decide),h.bu.one Fu e (by decide),h.bo.one Ft e (by decide),j,h.ev.one Fv e (by decide),h.me.one ED e (by decide)⟩
def PA.XG(h:PA w D g d hd s)(c:0<s.semas.length)(f:KeepD D w w')(hoth:∀ b,b<w.heap.size→b≠hd.se.b→w'.heap[b]? =w.heap[b]?):Dv D hd.se.b 95 w w':=by
 obtain⟨a,e,_⟩:=h.se.blk c;exact⟨f,⟨a,_,e⟩,hoth⟩
def PA.Nl(h:PA w D g d hd s){k:Nat}(f:k<s.semas.length)(r:List (Nat×aj))(j:r.all (fun x=>decide (x.1<2))=true){c:List aj}(e:AN w hd.se.b (k*2) c){x}(a:∀ w',AN w' hd.se.b (k*2) (FX c r)→KeepD D w w'→ElSe w' D hd.se.b (k*2) x):
  PA (setsAt w hd.se.b (k*2) r) D g d hd {s with semas:=s.semas.set k x}∧Upd (Mut g hd) w (setsAt w hd.se.b (k*2) r):=
 ⟨h.Y7 (h.XG (by omega) (KeepD.Cc h.se.nd _ _) fun b _ i=>AU i _ _) (by simp) (h.se.Cc F4 f (fun x a=>by simpa using aN.1 j x a) e a),.Cc (by simp[Mut]) _ _⟩
def PA.Y3(h:PA w D g d hd s)(e:Dv D hd.ev.b 99 w w'){l:List _}(i:l.length=s.events.length)(j:Am w' D hd.ev.b 99 2 hd.ev.a hd.ev.c ElEv l):PA w' D g d hd {s with events:=l}:=
 ⟨(e.oth g h.lt (by
   obtain⟨k,m,f⟩:=e.tag;exact DT h.blk f (by decide))).trans (by rw[h.blk];simp only[CR,i]),h.nd,h.Bs.one C8 e (by decide),h.Bt.one C8 e (by decide),h.AB.one Fc e (by decide),h.Ay.one Fb e (by decide),h.pr.one Fw e (by decide),h.sa.one FT e (by decide),h.qu.one F0 e (by decide),h.bu.one Fu e (by decide),h.bo.one Ft e (by decide),h.se.one F4 e (by decide),j,h.me.one ED e (by decide)⟩
def PA.XC(h:PA w D g d hd s)(c:0<s.events.length)(f:KeepD D w w')(hoth:∀ b,b<w.heap.size→b≠hd.ev.b→w'.heap[b]? =w.heap[b]?):Dv D hd.ev.b 99 w w':=by
 obtain⟨a,e,_⟩:=h.ev.blk c;exact⟨f,⟨a,_,e⟩,hoth⟩
def PA.Ls(h:PA w D g d hd s){k:Nat}(f:k<s.events.length)(r:List (Nat×aj))(j:r.all (fun x=>decide (x.1<2))=true){c:List aj}(e:AN w hd.ev.b (k*2) c){x}(a:∀ w',AN w' hd.ev.b (k*2) (FX c r)→KeepD D w w'→ElEv w' D hd.ev.b (k*2) x):
  PA (setsAt w hd.ev.b (k*2) r) D g d hd {s with events:=s.events.set k x}∧Upd (Mut g hd) w (setsAt w hd.ev.b (k*2) r):=
 ⟨h.Y3 (h.XC (by omega) (KeepD.Cc h.ev.nd _ _) fun b _ i=>AU i _ _) (by simp) (h.ev.Cc Fv f (fun x a=>by simpa using aN.1 j x a) e a),.Cc (by simp[Mut]) _ _⟩
def PA.Qo(h:PA w D g d hd s)(e:Dv D hd.me.b 5 w w'){l:List _}(i:l.length=s.mem.length)(j:Am w' D hd.me.b 5 1 hd.me.a hd.me.c (fun w _ b o x=>ElB w b o x) l):PA w' D g d hd {s with mem:=l}:=
 ⟨(e.oth g h.lt (by
   obtain⟨k,m,f⟩:=e.tag;exact DT h.blk f (by decide))).trans (by rw[h.blk];simp only[CR,i]),h.nd,h.Bs.one C8 e (by decide),h.Bt.one C8 e (by decide),h.AB.one Fc e (by decide),h.Ay.one Fb e (by decide),h.pr.one Fw e (by decide),h.sa.one FT e (by decide),h.qu.one F0 e (by decide),h.bu.one Fu e (by decide),h.bo.one Ft e (by decide),h.se.one F4 e (by decide),h.ev.one Fv e (by decide),j⟩
def PA.P9(h:PA w D g d hd s)(c:0<s.mem.length)(f:KeepD D w w')(hoth:∀ b,b<w.heap.size→b≠hd.me.b→w'.heap[b]? =w.heap[b]?):Dv D hd.me.b 5 w w':=by
 obtain⟨a,e,_⟩:=h.me.blk c;exact⟨f,⟨a,_,e⟩,hoth⟩
def PA.YO(h:PA w D g d hd s){k:Nat}(f:k<s.mem.length)(r:List (Nat×aj))(j:r.all (fun x=>decide (x.1<1))=true){c:List aj}(e:AN w hd.me.b (k*1) c){x}(a:∀ w',AN w' hd.me.b (k*1) (FX c r)→KeepD D w w'→ElB w' hd.me.b (k*1) x):
  PA (setsAt w hd.me.b (k*1) r) D g d hd {s with mem:=s.mem.set k x}∧Upd (Mut g hd) w (setsAt w hd.me.b (k*1) r):=
 ⟨h.Qo (h.P9 (by omega) (KeepD.Cc h.me.nd _ _) fun b _ i=>AU i _ _) (by simp) (h.me.Cc ED f (fun x a=>by simpa using aN.1 j x a) e a),.Cc (by simp[Mut]) _ _⟩
end
section
variable {w w':ap} {D:Nat→Prop} {g:Nat} {d:Ad} {hd:Hd} {s:Ae}
def PA.Q2(h:PA w D g d hd s)(a:0<d.Ab.length):w.cell? ⟨g,8,O⟩=Z (Y (Z ⟨hd.AB.b,0,O⟩) d.Ab.length hd.AB.c):=by
 have c:=h.cell 8;simp only[CR,h.AB.ptr a] at c;simpa using c
def PA.GW(h:PA w D g d hd s)(a:0<d.procs.length):w.cell? ⟨g,9,O⟩=Z (Y (Z ⟨hd.Ay.b,0,O⟩) d.procs.length hd.Ay.c):=by
 have c:=h.cell 9;simp only[CR,h.Ay.ptr a] at c;simpa using c
def PA.FC(h:PA w D g d hd s)(a:0<s.procs.length):w.cell? ⟨g,10,O⟩=Z (Y (Z ⟨hd.pr.b,0,O⟩) s.procs.length hd.pr.c):=by
 have c:=h.cell 10;simp only[CR,h.pr.ptr a] at c;simpa using c
def PA.Ic(h:PA w D g d hd s)(a:0<s.samples.length):w.cell? ⟨g,11,O⟩=Z (Y (Z ⟨hd.sa.b,0,O⟩) s.samples.length hd.sa.c):=by
 have c:=h.cell 11;simp only[CR,h.sa.ptr a] at c;simpa using c
def PA.Ib(h:PA w D g d hd s)(a:0<s.queues.length):w.cell? ⟨g,12,O⟩=Z (Y (Z ⟨hd.qu.b,0,O⟩) s.queues.length hd.qu.c):=by
 have c:=h.cell 12;simp only[CR,h.qu.ptr a] at c;simpa using c
def PA.I8(h:PA w D g d hd s)(a:0<s.bufs.length):w.cell? ⟨g,13,O⟩=Z (Y (Z ⟨hd.bu.b,0,O⟩) s.bufs.length hd.bu.c):=by
 have c:=h.cell 13;simp only[CR,h.bu.ptr a] at c;simpa using c
def PA.I7(h:PA w D g d hd s)(a:0<s.boards.length):w.cell? ⟨g,14,O⟩=Z (Y (Z ⟨hd.bo.b,0,O⟩) s.boards.length hd.bo.c):=by
 have c:=h.cell 14;simp only[CR,h.bo.ptr a] at c;simpa using c
def PA.Lw(h:PA w D g d hd s)(a:0<s.semas.length):w.cell? ⟨g,15,O⟩=Z (Y (Z ⟨hd.se.b,0,O⟩) s.semas.length hd.se.c):=by
 have c:=h.cell 15;simp only[CR,h.se.ptr a] at c;simpa using c
def PA.Ku(h:PA w D g d hd s)(a:0<s.events.length):w.cell? ⟨g,16,O⟩=Z (Y (Z ⟨hd.ev.b,0,O⟩) s.events.length hd.ev.c):=by
 have c:=h.cell 16;simp only[CR,h.ev.ptr a] at c;simpa using c
def PA.YU(h:PA w D g d hd s)(a:0<s.mem.length):w.cell? ⟨g,19,O⟩=Z (Y (Z ⟨hd.me.b,0,O⟩) s.mem.length hd.me.c):=by
 have c:=h.cell 19;simp only[CR,h.me.ptr a] at c;simpa using c
def PA.Ke(h:PA w D g d hd s):∀ b∈Mut g hd,b<w.heap.size:=by
 intro b a;simp only[Mut,bq,bj,or_false] at a;rcases a with rfl|rfl|rfl|rfl|rfl|rfl|rfl|rfl|rfl
 ·exact h.lt
 ·exact h.pr.lt
 ·exact h.sa.lt
 ·exact h.qu.lt
 ·exact h.bu.lt
 ·exact h.bo.lt
 ·exact h.se.lt
 ·exact h.ev.lt
 ·exact h.me.lt
def JB(w:ap)(a g:Nat)(kind:Int)(k:Nat)(b:Int)(c:aj)(i:Nat)(now:Int):Prop:=
 w.heap[a]? =Z (T #[G (Z ⟨g,0,O⟩),I U kind,I J k,I J b,c,I J i,I J now] 154 (0,0))
def JB.below{a:Nat}{kind:Int}{k:Nat}{b:Int}{c:aj}{i:Nat}{now:Int}(h:JB w a g kind k b c i now)(e:Bl w w'):JB w' a g kind k b c i now:=(e.block _ (Aa h)).trans h
def JB.BG{a:Nat}{kind:Int}{k:Nat}{b:Int}{c:aj}{i:Nat}{now:Int}{M:List Nat}(h:JB w a g kind k b c i now)(f:Upd M w w')(e:a∉M):JB w' a g kind k b c i now:=(f.block _ (Aa h) e).trans h
def JB.cells{a:Nat}{kind:Int}{k:Nat}{b:Int}{c:aj}{i:Nat}{now:Int}(h:JB w a g kind k b c i now):
  w.cell? ⟨a,0,O⟩=Z (G (Z ⟨g,0,O⟩))∧w.cell? ⟨a,1,O⟩=Z (I U kind)∧w.cell? ⟨a,2,O⟩=Z (I J k)∧w.cell? ⟨a,3,O⟩=Z (I J b)∧w.cell? ⟨a,4,O⟩=Z c∧w.cell? ⟨a,5,O⟩=Z (I J i)∧w.cell? ⟨a,6,O⟩=Z (I J now):=
 ⟨Cr h,Cr h,Cr h,Cr h,Cr h,Cr h,Cr h⟩
end
def AL(g:Nat)(h:Hd):List Nat:=[g,h.Bs.b,h.Bt.b,h.AB.b,h.Ay.b,h.pr.b,h.sa.b,h.qu.b,h.bu.b,h.bo.b,h.se.b,h.ev.b,h.me.b]
section
variable {w w':ap} {D D':Nat→Prop} {g:Nat} {d:Ad} {hd:Hd} {s:Ae}
def PA.Ei(h:PA w D g d hd s)(c:KeepD D w w')(a:∀ b∈AL g hd,w'.heap[b]? =w.heap[b]?):PA w' D g d hd s:=
 ⟨(a g (by simp[AL])).trans h.blk,h.nd,h.Bs.Ag C8 c fun _=>a _ (by simp[AL]),h.Bt.Ag C8 c fun _=>a _ (by simp[AL]),h.AB.Ag Fc c fun _=>a _ (by simp[AL]),h.Ay.Ag Fb c fun _=>a _ (by simp[AL]),
  h.pr.Ag Fw c fun _=>a _ (by simp[AL]),h.sa.Ag FT c fun _=>a _ (by simp[AL]),h.qu.Ag F0 c fun _=>a _ (by simp[AL]),h.bu.Ag Fu c fun _=>a _ (by simp[AL]),h.bo.Ag Ft c fun _=>a _ (by simp[AL]),h.se.Ag F4 c fun _=>a _ (by simp[AL]),h.ev.Ag Fv c fun _=>a _ (by simp[AL]),h.me.Ag ED c fun _=>a _ (by simp[AL])⟩
def PA.K8(h:PA w D g d hd s):∀ b∈AL g hd,b<w.heap.size:=fun b a=>by
 simp only[AL,bq,bj,or_false] at a;rcases a with rfl|rfl|rfl|rfl|rfl|rfl|rfl|rfl|rfl|rfl|rfl|rfl|rfl
 ·exact h.lt
 ·exact h.Bs.lt
 ·exact h.Bt.lt
 ·exact h.AB.lt
 ·exact h.Ay.lt
 ·exact h.pr.lt
 ·exact h.sa.lt
 ·exact h.qu.lt
 ·exact h.bu.lt
 ·exact h.bo.lt
 ·exact h.se.lt
 ·exact h.ev.lt
 ·exact h.me.lt
def GQ:∀ b∈Mut g hd,b∈AL g hd:=fun b a=>by
 simp only[Mut,bq,bj,or_false] at a;rcases a with rfl|rfl|rfl|rfl|rfl|rfl|rfl|rfl|rfl<;>simp[AL]
def PA.agree(h:PA w D g d hd s){n:Nat}(j:n≤w.heap.size)(i:w.heap.size≤w'.heap.size)(e:∀ b,D b→b<n)(c:∀ b∈AL g hd,b<n)(a:∀ b,b<n→w'.heap[b]? =w.heap[b]?):PA w' D g d hd s:=
 h.Ei ⟨i,fun b hd _=>a b (e b hd)⟩ fun b f=>a b (c b f)
def KU{B sz n:Nat}{v:aj}{q:List aj}(h:Sl w B sz v n q)(hd:Ct D v)(l:∀ b,b<w.heap.size→D b→D' b):Ct D' v:=fun a m c p e=>by
 obtain⟨r,cap,f,_,_,_,k⟩:=h;subst p;simp only[a0] at f;obtain⟨rfl,rfl,rfl⟩:=f;obtain⟨b,o,i,_,j,_⟩:=k e;cases i;exact l _ j (hd _ _ _ rfl e)
def Bm.swap{v:aj}{l:List Wt}(h:Bm w D v l)(a:∀ b,b<w.heap.size→D b→D' b):Bm w D' v l:=⟨h.1,KU h.1 h.2 a⟩
def A4.swap{v:aj}{l:List Int}(h:A4 w D v l)(a:∀ b,b<w.heap.size→D b→D' b):A4 w D' v l:=⟨h.1,KU h.1 h.2 a⟩
def Gc.swap{v:aj}{l:List Ai}(h:Gc w D v l)(a:∀ b,b<w.heap.size→D b→D' b):Gc w D' v l:=⟨h.1,KU h.1 h.2 a⟩
def BS.swap{v:aj}{q:List (List Int)}(h:BS w D v q)(c:∀ b,b<w.heap.size→D b→D' b):BS w D' v q:=by
 obtain⟨vs,a,e,f⟩:=h;exact⟨vs,a,KU a e c,fun i u x j k=>(f i u x j k).swap c⟩
def Am.swap{b sz c:Nat}{t:bc}{a:Option bD}{α:Type}{El:ap→(Nat→Prop)→Nat→Nat→α→Prop}{l:List α}(h:Am w D b t sz a c El l)(i:∀ b,b<w.heap.size→D' b→D b)(e:∀ b o x,El w D b o x→El w D' b o x):Am w D' b t sz a c El l:=
 ⟨h.cap,h.nil,h.ptr,fun hd=>h.nd (i _ h.lt hd),h.lt,h.blk,fun k f=>e _ _ _ (h.el k f)⟩
def PA.swap(h:PA w D g d hd s)(l:∀ b,b<w.heap.size→(D b↔D' b)):PA w D' g d hd s:=
 have i:∀ b,b<w.heap.size→D b→D' b:=fun b j=>(l b j).1;have a:∀ b,b<w.heap.size→D' b→D b:=fun b j=>(l b j).2
 ⟨h.blk,fun hd=>h.nd (a _ h.lt hd),h.Bs.swap a fun _ _ _ e=>e,h.Bt.swap a fun _ _ _ e=>e,h.AB.swap a fun _ _ _ e=>e,h.Ay.swap a fun _ _ _ ⟨nm,v,c,f⟩=>⟨nm,v,c,f.swap i⟩,
  h.pr.swap a fun _ _ _ e=>e,h.sa.swap a fun _ _ _ ⟨v,c,f⟩=>⟨v,c,f.swap i⟩,h.qu.swap a fun _ _ _ ⟨v,u,c,f,k⟩=>⟨v,u,c,f.swap i,k.swap i⟩,h.bu.swap a fun _ _ _ ⟨v,p,q,c,f,k,m⟩=>⟨v,p,q,c,f.swap i,k.swap i,m.swap i⟩,
  h.bo.swap a fun _ _ _ ⟨v,c,f⟩=>⟨v,c,f.swap i⟩,h.se.swap a fun _ _ _ ⟨v,c,f⟩=>⟨v,c,f.swap i⟩,h.ev.swap a fun _ _ _ ⟨v,c,f⟩=>⟨v,c,f.swap i⟩,h.me.swap a fun _ _ _ e=>e⟩
def PA.cut(h:PA w D g d hd s):PA w (fun b=>D b∧b<w.heap.size) g d hd s:=h.swap fun b a=>by simp[a]
def PA.more(h:PA w D g d hd s):PA w (fun b=>D b∨w.heap.size≤b) g d hd s:=h.swap fun b a=>by
 have:¬w.heap.size≤b:=by omega
 simp[this]
end
def Hn(l:List CG):List aj:=l.flatMap fun x=> [I J x.proc,I U x.fault,I J x.code]
def RU(l:List CG)(x:CG):Hn (l++ [x])=Hn l++ [I J x.proc,I U x.fault,I J x.code]:=by simp[Hn]
def Ve:(prog.info? 76).map (fun i=>(i.zero,i.size,i.bytes))=Z (Z (.agg #[I J 0,I U 0,I J 0]),3,24):=by kernel_rfl
def BF(w:ap)(B:Nat)(v:aj)(l:List CG):Prop:=w.ownsRow B 76 3 v l.length (Hn l)
def BF.nil(w:ap)(B:Nat):BF w B (Y O 0 0) []:=⟨by simp[Hn],.inl ⟨rfl,rfl⟩⟩
def BF.snoc{W:ap}{B q:Nat}{v:aj}{l:List CG}{x:CG}(h:BF W B v l)(k:B≤W.heap.size)(y:l.length≤1000)(m:W.heap[q]? =Z (T #[I J x.proc,I U x.fault,I J x.code] 76 (0,0)))(e:bc):
  ∃ a c w',(Builtin.append_ #[41,41] e #[v,Y (Z ⟨q,0,O⟩) 1 1]).run prog W=.ok (Y a (l.length+1) c) w'∧BF w' B (Y a (l.length+1) c) (l++ [x])∧W.grownBy w' v.ownBlock:=by
 obtain⟨t,n,p,r,s⟩:=info_parts Ve;have o:∀ j u,([I J x.proc,I U x.fault,I J x.code]:List aj)[j]? =Z u→W.cell? ((⟨q,0,O⟩:bD).add j)=Z u:=by
  intro j u b;rw[Cu,bn W _ _ _ _ _ m]
  match j,b with
  |0,b=>simpa using b
  |1,b=>simpa using b
  |2,b=>simpa using b
 obtain⟨w,w',f,d,i,_,_⟩:=run_append_own_at (P:=prog) W B 41 e 76 t (.agg #[I J 0,I U 0,I J 0]) 3 24 underlying41 n p r s rfl (by decide) v l.length (Hn l) h ⟨q,0,O⟩ 1 1 [I J x.proc,I U x.fault,I J x.code] rfl o (by
  intro u b;simp at b;rcases b with rfl|rfl|rfl<;>rfl) (by unfold maxLen;omega) (by omega) k
 have g:BF w' B w (l++ [x]):=by
  unfold BF;rw[List.length_append,RU];exact d
 obtain⟨a,c,rfl⟩:=Bq d;exact⟨a,c,w',f,g,i⟩
def BF.low{w:ap}{B b:Nat}{v:aj}{l:List CG}(h:BF w B v l)(a:v.ownBlock=Z b):B≤b:=by
 rcases h.2 with ⟨rfl,_⟩|⟨q,cap,cur,rfl,c,_⟩
 ·cases a
 ·injection a with a;show B≤b;rw[←a];exact c
def BF.Ag{w w':ap}{B:Nat}{v:aj}{l:List CG}(h:BF w B v l)(e:∀ b,B≤b→b<w.heap.size→w'.heap[b]? =w.heap[b]?):BF w' B v l:=by
 refine⟨h.1,?_⟩;rcases h.2 with d|⟨q,cap,cur,g,a,c,f⟩
 ·exact .inl d
 ·exact .inr ⟨q,cap,cur,g,a,(e q a (Aa c)).trans c,f⟩
def BF.shape{w:ap}{B:Nat}{v:aj}{l:List CG}(h:BF w B v l):∃ a c,v=Y a l.length c:=Bq h
def getD_at{α:Type}[Inhabited α](l:List α)(k:Nat)(a:k<l.length):l.getD k default=l[k]:=by
 rw[List.getD_eq_getElem?_getD,aO a];rfl
def PA.Ys{w:ap}{D:Nat→Prop}{g:Nat}{d:Ad}{a:Hd}{s:Ae}{i:Nat}(h:PA w D g d a s)(c:i<s.procs.length)(t:Int):
  PA ((((w.setCell ⟨a.pr.b,i*12,O⟩ (I U 2)).setCell ⟨a.pr.b,i*12+7,O⟩ (I J t)).setCell ⟨a.pr.b,i*12+10,O⟩ (I U 0)).setCell ⟨a.pr.b,i*12+11,O⟩ (I J 0)) D g d a (En i t s)∧
  Upd (Mut g a) w ((((w.setCell ⟨a.pr.b,i*12,O⟩ (I U 2)).setCell ⟨a.pr.b,i*12+7,O⟩ (I J t)).setCell ⟨a.pr.b,i*12+10,O⟩ (I U 0)).setCell ⟨a.pr.b,i*12+11,O⟩ (I J 0)):=by
 obtain⟨k,l,r2,r3,j,e⟩:=h.pr.el i c;rw[En,getD_at _ _ c];exact h.FY c [(0,I U 2),(7,I J t),(10,I U 0),(11,I J 0)] rfl e (x:=readyR t s.procs[i]) fun w' f _=>⟨k,l,r2,r3,j,f⟩
def Qk(w:ap)(D:Nat→Prop)(g:Nat)(d:Ad)(a:Hd)(s:Ae)(i:Nat)(t:Int)(h:PA w D g d a s)(b:i<s.procs.length)(v:s.procs.length≤6):
  a7 prog 71 #[G (Z ⟨g,0,O⟩),I J i,I J t] w fun e w'=>e=.returned (.tuple #[])∧PA w' D g d a (En i t s)∧Upd (Mut g a) w w':=by
 have r:=h.FC (by omega);obtain⟨y,z,r2,r3,c,A,f,j,k,l,m,n,E,p,q,B,C⟩:=h.Jl b;have f0:=h.pr.frozen (by omega) (i*12);have f1:=h.pr.frozen (by omega) (i*12+7);have f2:=h.pr.frozen (by omega) (i*12+10);have f3:=h.pr.frozen (by omega) (i*12+11);have u:=h.pr.cap;have x:(i:Int)<(s.procs.length:Int):=by omega
 have H:=HH h;clear h c f j k l m n p q;go_enter func71,ntmps71;go_wp2_with fail
 go_end0
 exact⟨rfl,H.o.Ys b t⟩
def Jm(w:ap)(D:Nat→Prop)(g:Nat)(d:Ad)(j:Hd)(s:Ae)(kind:Int)(k:Nat)(b:Int)(data:List Int)(c:Nat)(z:aj)(i:Nat)(now:Int)(h:PA w D g d j s)(ok:Ah d s)(a:JB w c g kind k b z i now)(n:∀ q,w.heap.size≤q→D q)(l:i<d.procs.length):
  a7 prog 116 #[G (Z ⟨c,0,O⟩)] w fun e w'=>e=.returned (I J (d.procs.getD i default).prio)∧Bl w w':=by
 obtain⟨u,H,L,M,N,x,P⟩:=a.cells;have m:c<w.heap.size:=Aa a;have t:0<d.procs.length:=by omega
 have y:=h.GW t;have r:=h.lt;have V:=qC y r;have C:=h.Ay.cap;have p:=h.Ay.lt;obtain⟨nm,v,f,_⟩:=h.Ay.el i l;have A:w.cell? ⟨j.Ay.b,i*5+1,O⟩=Z (I J d.procs[i].prio):=f 1 _ rfl;have E:(i:Int)<(d.procs.length:Int):=by omega
 rw[getD_at _ _ l];have Q:=qC u m;have R:=qC x m;have S:=qC A p;have B:=HH h;clear h a f n ok;go_enter func116,ntmps116;go_upto_region 1 with (fail);refine BQ 16 [] trivial ?_
 iterate 16 (refine AK rfl ?_;intro K hK;go_big_quiet_op;go_big_quiet_on)
 refine BN ?_;intro W o F;simp only[List.drop_succ_cons,List.drop_zero,List.drop_nil];go_wp2_with fail;go_ret;exact⟨rfl,o⟩
def Ho:EG 116:=fun _ _=>by kernel_rfl
def TI:EG 118:=fun _ _=>by kernel_rfl
def Wn(w:ap)(D:Nat→Prop)(g:Nat)(d:Ad)(j:Hd)(s:Ae)(kind:Int)(k:Nat)(b:Int)(data:List Int)(n:Nat)(vd:aj)(i:Nat)(now:Int)(h:PA w D g d j s)(ok:Ah d s)(B:JB w n g kind k b vd i now)(M:∀ q,w.heap.size≤q→D q)(r:k<s.semas.length)(hi:i<d.procs.length):
  a7 prog 79 #[G (Z ⟨n,0,O⟩)] w fun e w'=>e=.returned (.bool (J4 d i (⟨kind,k,b,data⟩:Ac) s).2)∧PA w' D g d j (J4 d i (⟨kind,k,b,data⟩:Ac) s).1∧Upd (Mut g j) w w':=by
 obtain⟨j0,j1,j2,j3,j4,j5,j6⟩:=B.cells;have P:n<w.heap.size:=Aa B;have af:0<s.semas.length:=by omega
 have an:=h.Lw af;have aI:=h.lt;have aX:=qC an aI;have aS:=h.se.cap;have ac:=h.se.lt;have h6:=ok.ok.procs;generalize Q:(d.procs.getD i default).prio=p;have az:Hq (∀ W,Bl w W→a7 prog 116 #[G (Z ⟨n,0,O⟩)] W fun e w'=>e=.returned (I J p)∧Bl W w'):=fun W a=>by
  have:=Jm W D g d j s kind k b data n vd i now (h.below a) ok (B.below a) (fun q R=>M q (br a.size R)) hi;rwa [Q] at this
 obtain⟨v,hc,S⟩:=h.se.el k r;obtain⟨y0,y1⟩:=cc2 hc;have aY:=qC y0 ac;have aZ:=qC y1 ac;obtain⟨F,L,rfl,_,_,_⟩:=S.1.open_;have aa:=(ok.se _ (a5 r));obtain⟨m,l',o,l,X⟩:∃ m l' o l,Eb s.semas[k].count s.semas[k].wait i p=(m,l',o,l):=⟨_,_,_,_,rfl⟩;have HC:Hq (∀ W,Bl w W→a7 prog 118 #[.agg #[I J s.semas[k].count,.slice F s.semas[k].wait.length L],I J i,I J p] W (IK W (I J m) l' (.bool o) (I J l))):=fun W a=>by
  have:=Z2 s.semas[k].count i p (.slice F s.semas[k].wait.length L) s.semas[k].wait W (S.1.below a) (aa.wf h6) (by have:=aa.len;omega);rwa [X] at this
 have HE:Hq (J4 d i (⟨kind,k,b,data⟩:Ac) s=({s with semas:=s.semas.set k ⟨m,l'⟩},o)):=by
  show J4 d i (⟨kind,k,b,data⟩:Ac) s=_;simp only[J4,Ia,prioA,a8,getD_at _ _ r,Q,X]
 clear X S aa;have aT:(k:Int)<(s.semas.length:Int):=by omega
 obtain⟨H,ay⟩:=H2 h M;have aU:=qC j0 P;have aV:=qC j2 P;have aW:=qC j5 P;clear h B M ok hc Q j0 j1 j2 j3 j4 j5 j6 an y0 y1;go_enter func79,ntmps79;go_upto_region 1 with (fail);refine AS 42 [40] [37,38,41] [(33,fun v _=>v=I J p),(34,fun v w'=>∃ c c2,v=.tuple #[.agg #[I J m,Y c l'.length c2],.bool o,I J l]∧Aq w' w.heap.size (Y c l'.length c2) l')] ⟨Ch,(fun v w1 w2 ⟨c,c2,e,h⟩ a=>⟨c,c2,e,h.below a⟩),trivial⟩ ?_
 iterate 33 (refine An rfl rfl rfl ?_;intro K hK;go_big_quiet_op;go_big_quiet_on)
 refine A9 rfl rfl (fun w' a hA=>?_) ?_
 ·refine AD (f:=116) (al:=[G (Z ⟨n,0,O⟩)]) rfl rfl rfl Ho ?_;exact(az.o w' a).mono fun e w2 h=>⟨_,h.1,h.2,rfl⟩
 intro v w' a V;obtain rfl:=V;clear a w';simp only[Au,aL,a3,a2];refine A9 rfl rfl (fun w' a hA=>?_) ?_
 ·refine AD (f:=118) (al:=[.agg #[I J s.semas[k].count,.slice F s.semas[k].wait.length L],I J i,I J p]) rfl rfl rfl TI ?_;exact(HC.o w' a).mono fun e w2 h=>by
   obtain⟨u,he,hf,aD⟩:=h;obtain⟨c,c2,hu⟩:=Bc hf;subst hu;exact⟨_,he,aD,_,_,rfl,hf.mono a.size⟩
 intro v w' a V;obtain⟨c,c2,rfl,aG⟩:=V;clear a aG w';simp only[Au,aL,a3,a2]
 iterate 2 (refine An rfl rfl rfl ?_;intro K hK;go_big_quiet_op;go_big_quiet_on)
 iterate 2 (refine Bi rfl rfl rfl ?_;intro K hK;go_big_quiet_op;go_big_quiet_on)
 iterate 1 (refine An rfl rfl rfl ?_;intro K hK;go_big_quiet_op;go_big_quiet_on)
 refine AH rfl ?_
 iterate 1 (refine Bi rfl rfl rfl ?_;intro K hK;go_big_quiet_op;go_big_quiet_on)
 refine AR ?_;intro t N ai;have z:=H.o.below N;have ah:=ai 34 _ (by decide) rfl;have C:∀ o,t.frozen? ⟨j.se.b,o,O⟩=false:=z.se.frozen af;obtain⟨v9,A,_⟩:=z.se.el k r;have z0:t.cell? ⟨j.se.b,k*2,O⟩=Z _:=A 0 _ rfl;have f0:=C (k*2);have z1:t.cell? ⟨j.se.b,k*2+1,O⟩=Z _:=A 1 _ rfl;have f1:=C (k*2+1);obtain⟨H9,ax,au⟩:=H3 z A N;have aA:Hq (∃ E c3,bi #[.agg #[I J m,Y c l'.length c2],.bool o,I J l]=.tuple #[.agg #[I J m,Y E l'.length c3],.bool o,I J l]∧Aq t w.heap.size (Y E l'.length c3) l'):=ah;clear z A N ah ai C;refine AI (w':=((t.setCell ⟨j.se.b,k*2,O⟩ (I J m)).setCell ⟨j.se.b,k*2+1,O⟩ (Y c l'.length c2))) (by simp[execOp,go_sem,z0,f0,z1,f1]) ?_;unfold A7;go_wp2_with fail;go_ret;refine⟨A8 (by rw[HE.o]),?_⟩;have hp:=H9.o.Nl r [(0,I J m),(1,Y c l'.length c2)] rfl ax.o (x:=⟨m,l'⟩) fun w' aE aK=>⟨_,aE,by
   obtain⟨E,c3,y,aH⟩:=aA.o;injection y with y;simp only[be,bb,ba,a0,true_and,and_true] at y;obtain⟨rfl,rfl⟩:=y;exact(Al.CZ aH.1 fun q R _=>ay.o q R).Ag aK⟩
 rw[HE.o];exact⟨hp.1,(Upd.below au.o).trans hp.2⟩
def TF:EG 122:=fun _ _=>by kernel_rfl
def Wm(w:ap)(D:Nat→Prop)(g:Nat)(d:Ad)(j:Hd)(s:Ae)(kind:Int)(k:Nat)(b:Int)(data:List Int)(m:Nat)(vd:aj)(i:Nat)(now:Int)(h:PA w D g d j s)(ok:Ah d s)(A:JB w m g kind k b vd i now)(L:∀ q,w.heap.size≤q→D q)(p:k<s.events.length)(hi:i<d.procs.length):
  a7 prog 83 #[G (Z ⟨m,0,O⟩)] w fun e w'=>e=.returned (.bool (J2 d i (⟨kind,k,b,data⟩:Ac) s).2)∧PA w' D g d j (J2 d i (⟨kind,k,b,data⟩:Ac) s).1∧Upd (Mut g j) w w':=by
 obtain⟨j0,j1,j2,j3,j4,j5,j6⟩:=A.cells;have N:m<w.heap.size:=Aa A;have ae:0<s.events.length:=by omega
 have am:=h.Ku ae;have aH:=h.lt;have aW:=qC am aH;have aR:=h.ev.cap;have ab:=h.ev.lt;have h6:=ok.ok.procs;generalize P:(d.procs.getD i default).prio=n;have ay:Hq (∀ W,Bl w W→a7 prog 116 #[G (Z ⟨m,0,O⟩)] W fun e w'=>e=.returned (I J n)∧Bl W w'):=fun W a=>by
  have:=Jm W D g d j s kind k b data m vd i now (h.below a) ok (A.below a) (fun q Q=>L q (br a.size Q)) hi;rwa [P] at this
 obtain⟨v,hc,R⟩:=h.ev.el k p;obtain⟨y0,y1⟩:=cc2 hc;have aX:=qC y0 ab;have aY:=qC y1 ab;obtain⟨E,F,rfl,_,_,_⟩:=R.1.open_;have X:=(ok.ev _ (a5 p));obtain⟨l',o,l,V⟩:∃ l' o l,Es s.events[k].up s.events[k].wait i n=(l',o,l):=⟨_,_,_,rfl⟩;have HC:Hq (∀ W,Bl w W→a7 prog 122 #[.agg #[.bool s.events[k].up,.slice E s.events[k].wait.length F],I J i,I J n] W (IK W (.bool s.events[k].up) l' (.bool o) (I J l))):=fun W a=>by
  have:=Zf s.events[k].up i n (.slice E s.events[k].wait.length F) s.events[k].wait W (R.1.below a) (X.wf h6) (by have:=X.len;omega);rwa [V] at this
 have HE:Hq (J2 d i (⟨kind,k,b,data⟩:Ac) s=({s with events:=s.events.set k ⟨s.events[k].up,l'⟩},o)):=by
  show J2 d i (⟨kind,k,b,data⟩:Ac) s=_;simp only[J2,EW,prioA,a8,getD_at _ _ p,P,V]
 clear V R X;have aS:(k:Int)<(s.events.length:Int):=by omega
 obtain⟨H,ax⟩:=H2 h L;have aT:=qC j0 N;have aU:=qC j2 N;have aV:=qC j5 N;clear h A L ok hc P j0 j1 j2 j3 j4 j5 j6 am y0 y1;go_enter func83,ntmps83;go_upto_region 1 with (fail);refine AS 42 [40] [37,38,41] [(33,fun v _=>v=I J n),(34,fun v w'=>∃ c c2,v=.tuple #[.agg #[.bool s.events[k].up,Y c l'.length c2],.bool o,I J l]∧Aq w' w.heap.size (Y c l'.length c2) l')] ⟨Ch,(fun v w1 w2 ⟨c,c2,e,h⟩ a=>⟨c,c2,e,h.below a⟩),trivial⟩ ?_
 iterate 33 (refine An rfl rfl rfl ?_;intro K hK;go_big_quiet_op;go_big_quiet_on)
 refine A9 rfl rfl (fun w' a hA=>?_) ?_
 ·refine AD (f:=116) (al:=[G (Z ⟨m,0,O⟩)]) rfl rfl rfl Ho ?_;exact(ay.o w' a).mono fun e w2 h=>⟨_,h.1,h.2,rfl⟩
 intro v w' a S;obtain rfl:=S;clear a w';simp only[Au,aL,a3,a2];refine A9 rfl rfl (fun w' a hA=>?_) ?_
 ·refine AD (f:=122) (al:=[.agg #[.bool s.events[k].up,.slice E s.events[k].wait.length F],I J i,I J n]) rfl rfl rfl TF ?_;exact(HC.o w' a).mono fun e w2 h=>by
   obtain⟨u,he,hf,aC⟩:=h;obtain⟨c,c2,hu⟩:=Bc hf;subst hu;exact⟨_,he,aC,_,_,rfl,hf.mono a.size⟩
 intro v w' a S;obtain⟨c,c2,rfl,aF⟩:=S;clear a aF w';simp only[Au,aL,a3,a2]
 iterate 2 (refine An rfl rfl rfl ?_;intro K hK;go_big_quiet_op;go_big_quiet_on)
 iterate 2 (refine Bi rfl rfl rfl ?_;intro K hK;go_big_quiet_op;go_big_quiet_on)
 iterate 1 (refine An rfl rfl rfl ?_;intro K hK;go_big_quiet_op;go_big_quiet_on)
 refine AH rfl ?_
 iterate 1 (refine Bi rfl rfl rfl ?_;intro K hK;go_big_quiet_op;go_big_quiet_on)
 refine AR ?_;intro r M ah;have y:=H.o.below M;have ag:=ah 34 _ (by decide) rfl;have B:∀ o,r.frozen? ⟨j.ev.b,o,O⟩=false:=y.ev.frozen ae;obtain⟨v9,z,_⟩:=y.ev.el k p;have z0:r.cell? ⟨j.ev.b,k*2,O⟩=Z _:=z 0 _ rfl;have f0:=B (k*2);have z1:r.cell? ⟨j.ev.b,k*2+1,O⟩=Z _:=z 1 _ rfl;have f1:=B (k*2+1);obtain⟨H9,aw,ar⟩:=H3 y z M;have az:Hq (∃ C c3,bi #[.agg #[.bool s.events[k].up,Y c l'.length c2],.bool o,I J l]=.tuple #[.agg #[.bool s.events[k].up,Y C l'.length c3],.bool o,I J l]∧Aq r w.heap.size (Y C l'.length c3) l'):=ag;clear y z M ag ah B;refine AI (w':=((r.setCell ⟨j.ev.b,k*2,O⟩ (.bool s.events[k].up)).setCell ⟨j.ev.b,k*2+1,O⟩ (Y c l'.length c2))) (by simp[execOp,go_sem,z0,f0,z1,f1]) ?_;unfold A7;go_wp2_with fail;go_ret;refine⟨A8 (by rw[HE.o]),?_⟩;have hp:=H9.o.Ls p [(0,.bool s.events[k].up),(1,Y c l'.length c2)] rfl aw.o (x:=⟨s.events[k].up,l'⟩) fun w' aD aJ=>⟨_,aD,by
   obtain⟨C,c3,t,aG⟩:=az.o;injection t with t;simp only[be,bb,ba,a0,true_and,and_true] at t;obtain⟨rfl,rfl⟩:=t;exact(Al.CZ aG.1 fun q Q _=>ax.o q Q).Ag aJ⟩
 rw[HE.o];exact⟨hp.1,(Upd.below ar.o).trans hp.2⟩
def Tw:EG 121:=fun _ _=>by kernel_rfl
def Wb(w:ap)(D:Nat→Prop)(g:Nat)(d:Ad)(j:Hd)(s:Ae)(kind:Int)(k:Nat)(b:Int)(data:List Int)(N:Nat)(vd:aj)(i:Nat)(now:Int)(h:PA w D g d j s)(ok:Ah d s)(E:JB w N g kind k b vd i now)(P:∀ q,w.heap.size≤q→D q)(m:k<s.events.length)(hi:i<d.procs.length):
  a7 prog 82 #[G (Z ⟨N,0,O⟩)] w fun e w'=>e=.returned (.bool true)∧PA w' D g d j (Kc (⟨kind,k,b,data⟩:Ac) s)∧Upd (Mut g j) w w':=by
 obtain⟨j0,j1,j2,j3,j4,j5,j6⟩:=E.cells;have V:N<w.heap.size:=Aa E;have X:0<s.events.length:=by omega
 have af:=h.Ku X;have ay:=h.lt;have aS:=qC af ay;have aM:=h.ev.cap;have Q:=h.ev.lt;have h6:=ok.ok.procs;obtain⟨v,R,F⟩:=h.ev.el k m;obtain⟨y0,y1⟩:=cc2 R;have aT:=qC y0 Q;have aU:=qC y1 Q;obtain⟨A,B,rfl,_,_,_⟩:=F.1.open_;have M:=(ok.ev _ (a5 m));obtain⟨o,l,L⟩:∃ o l,Iz s.events[k].up s.events[k].wait=(o,l):=⟨_,_,rfl⟩;have HC:Hq (∀ W,Bl w W→a7 prog 121 #[.agg #[.bool s.events[k].up,.slice A s.events[k].wait.length B]] W (NL W (.bool o) s.events[k].wait (I J l))):=fun W c=>by
  have:=Xk s.events[k].up (.slice A s.events[k].wait.length B) s.events[k].wait W (F.1.below c) (M.wf h6) (by have:=M.len;omega);rwa [L] at this
 have HE:Hq (Kc (⟨kind,k,b,data⟩:Ac) s={s with events:=s.events.set k ⟨o,s.events[k].wait⟩}):=by
  show Kc (⟨kind,k,b,data⟩:Ac) s=_;simp only[Kc,EW,a8,getD_at _ _ m,L]
 clear L F M;have aP:(k:Int)<(s.events.length:Int):=by omega
 obtain⟨H,am⟩:=H2 h P;have aQ:=qC j0 V;have aR:=qC j2 V;clear h E P ok R j0 j1 j2 j3 j4 j5 j6 af y0 y1;go_enter func82,ntmps82;go_upto_region 1 with (fail);refine AS 34 [33] [31] [(28,fun v w'=>∃ a c2,v=.tuple #[.agg #[.bool o,.slice a s.events[k].wait.length c2],I J l]∧Aq w' w.heap.size (.slice a s.events[k].wait.length c2) s.events[k].wait)] ⟨(fun v w1 w2 ⟨a,c2,e,h⟩ c=>⟨a,c2,e,h.below c⟩),trivial⟩ ?_
 iterate 28 (refine An rfl rfl rfl ?_;intro K hK;go_big_quiet_op;go_big_quiet_on)
 refine A9 rfl rfl (fun w' c hA=>?_) ?_
 ·refine AD (f:=121) (al:=[.agg #[.bool s.events[k].up,.slice A s.events[k].wait.length B]]) rfl rfl rfl Tw ?_;exact(HC.o w' c).mono fun e w2 h=>by
   obtain⟨u,he,S,aq⟩:=h;obtain⟨a,c2,hu⟩:=Bc S;subst hu;exact⟨_,he,aq,_,_,rfl,S.mono c.size⟩
 intro v w' c hv;obtain⟨a,c2,rfl,aw⟩:=hv;clear c aw w';simp only[Au,aL,a3,a2]
 iterate 2 (refine An rfl rfl rfl ?_;intro K hK;go_big_quiet_op;go_big_quiet_on)
 iterate 1 (refine Bi rfl rfl rfl ?_;intro K hK;go_big_quiet_op;go_big_quiet_on)
 iterate 1 (refine An rfl rfl rfl ?_;intro K hK;go_big_quiet_op;go_big_quiet_on)
 refine AH rfl ?_;refine AR ?_;intro n C ac;have r:=H.o.below C;have ab:=ac 28 _ (by decide) rfl;have y:∀ o,n.frozen? ⟨j.ev.b,o,O⟩=false:=r.ev.frozen X;obtain⟨v9,t,_⟩:=r.ev.el k m;have z0:n.cell? ⟨j.ev.b,k*2,O⟩=Z _:=t 0 _ rfl;have f0:=y (k*2);have z1:n.cell? ⟨j.ev.b,k*2+1,O⟩=Z _:=t 1 _ rfl;have f1:=y (k*2+1);obtain⟨H9,ak,ai⟩:=H3 r t C;have ao:Hq (∃ z c3,bi #[.agg #[.bool o,.slice a s.events[k].wait.length c2],I J l]=.tuple #[.agg #[.bool o,.slice z s.events[k].wait.length c3],I J l]∧Aq n w.heap.size (.slice z s.events[k].wait.length c3) s.events[k].wait):=ab;clear r t C ab ac y;refine AI (w':=((n.setCell ⟨j.ev.b,k*2,O⟩ (.bool o)).setCell ⟨j.ev.b,k*2+1,O⟩ (.slice a s.events[k].wait.length c2))) (by simp[execOp,go_sem,z0,f0,z1,f1]) ?_;unfold A7;go_wp2_with fail;go_ret;refine⟨rfl,?_⟩;have hp:=H9.o.Ls m [(0,.bool o),(1,.slice a s.events[k].wait.length c2)] rfl ak.o (x:=⟨o,s.events[k].wait⟩) fun w' ar az=>⟨_,ar,by
   obtain⟨z,c3,p,ax⟩:=ao.o;injection p with p;simp only[be,bb,ba,a0,true_and,and_true] at p;obtain⟨rfl,rfl⟩:=p;exact(Al.CZ ax.1 fun q hq _=>am.o q hq).Ag az⟩
 rw[HE.o];exact⟨hp.1,(Upd.below ai.o).trans hp.2⟩
def Tk:EG 127:=fun _ _=>by kernel_rfl
def Wp(w:ap)(D:Nat→Prop)(g:Nat)(d:Ad)(a:Hd)(s:Ae)(kind:Int)(k:Nat)(b:Int)(data:List Int)(Q:Nat)(vd:aj)(i:Nat)(now:Int)(h:PA w D g d a s)(ok:Ah d s)(L:JB w Q g kind k b vd i now)(R:∀ q,w.heap.size≤q→D q)(p:k<s.boards.length)(hi:i<d.procs.length):
  a7 prog 88 #[G (Z ⟨Q,0,O⟩)] w fun e w'=>e=.returned (.bool true)∧PA w' D g d a (Ky (⟨kind,k,b,data⟩:Ac) s)∧Upd (Mut g a) w w':=by
 obtain⟨j0,j1,j2,j3,j4,j5,j6⟩:=L.cells;have X:Q<w.heap.size:=Aa L;have aa:0<s.boards.length:=by omega
 have ag:=h.I7 aa;have aA:=h.lt;have aV:=qC ag aA;have aP:=h.bo.cap;have F:=h.bo.lt;have h6:=ok.ok.procs;obtain⟨v,S,M⟩:=h.bo.el k p;obtain⟨y0,y1,y2⟩:=EO S;have aW:=qC y0 F;have aX:=qC y1 F;have aY:=qC y2 F;obtain⟨B,C,rfl,_,_,_⟩:=M.1.open_;have P:=(ok.bo _ (a5 p));obtain⟨o,z,l,N⟩:∃ o z l,FN s.boards[k].has s.boards[k].val s.boards[k].wait=(o,z,l):=⟨_,_,_,rfl⟩;have HC:Hq (∀ W,Bl w W→a7 prog 127 #[.agg #[.bool s.boards[k].has,I U s.boards[k].val,.slice B s.boards[k].wait.length C]] W (NG W o z s.boards[k].wait (I J l))):=fun W j=>by
  have:=RZ s.boards[k].has s.boards[k].val (.slice B s.boards[k].wait.length C) s.boards[k].wait W (M.1.below j) (P.wf h6) (by have:=P.len;omega);rwa [N] at this
 have HE:Hq (Ky (⟨kind,k,b,data⟩:Ac) s={s with boards:=s.boards.set k ⟨o,z,s.boards[k].wait⟩}):=by
  show Ky (⟨kind,k,b,data⟩:Ac) s=_;simp only[Ky,boA,a8,getD_at _ _ p,N]
 clear N M P;have aS:(k:Int)<(s.boards.length:Int):=by omega
 obtain⟨H,ao⟩:=H2 h R;have aT:=qC j0 X;have aU:=qC j2 X;clear h L R ok S j0 j1 j2 j3 j4 j5 j6 ag y0 y1 y2;go_enter func88,ntmps88;go_upto_region 1 with (fail);refine AS 34 [33] [31] [(28,fun v w'=>∃ c c2,v=.tuple #[.agg #[.bool o,I U z,.slice c s.boards[k].wait.length c2],I J l]∧Aq w' w.heap.size (.slice c s.boards[k].wait.length c2) s.boards[k].wait)] ⟨(fun v w1 w2 ⟨c,c2,e,h⟩ j=>⟨c,c2,e,h.below j⟩),trivial⟩ ?_
 iterate 28 (refine An rfl rfl rfl ?_;intro K hK;go_big_quiet_op;go_big_quiet_on)
 refine A9 rfl rfl (fun w' j hA=>?_) ?_
 ·refine AD (f:=127) (al:=[.agg #[.bool s.boards[k].has,I U s.boards[k].val,.slice B s.boards[k].wait.length C]]) rfl rfl rfl Tk ?_;exact(HC.o w' j).mono fun e w2 h=>by
   obtain⟨u,he,V,au⟩:=h;obtain⟨c,c2,hu⟩:=Bc V.fr;subst hu;exact⟨_,he,au,_,_,rfl,V.fr.mono j.size⟩
 intro v w' j hv;obtain⟨c,c2,rfl,ay⟩:=hv;clear j ay w';simp only[Au,aL,a3,a2]
 iterate 2 (refine An rfl rfl rfl ?_;intro K hK;go_big_quiet_op;go_big_quiet_on)
 iterate 1 (refine Bi rfl rfl rfl ?_;intro K hK;go_big_quiet_op;go_big_quiet_on)
 iterate 1 (refine An rfl rfl rfl ?_;intro K hK;go_big_quiet_op;go_big_quiet_on)
 refine AH rfl ?_;refine AR ?_;intro m E ad;have y:=H.o.below E;have ac:=ad 28 _ (by decide) rfl;have r:∀ o,m.frozen? ⟨a.bo.b,o,O⟩=false:=y.bo.frozen aa;obtain⟨v9,n,_⟩:=y.bo.el k p;have z0:m.cell? ⟨a.bo.b,k*3,O⟩=Z _:=n 0 _ rfl;have f0:=r (k*3);have z1:m.cell? ⟨a.bo.b,k*3+1,O⟩=Z _:=n 1 _ rfl;have f1:=r (k*3+1);have z2:m.cell? ⟨a.bo.b,k*3+2,O⟩=Z _:=n 2 _ rfl;have f2:=r (k*3+2);obtain⟨H9,an,ak⟩:=H3 y n E;have aq:Hq (∃ A c3,bi #[.agg #[.bool o,I U z,.slice c s.boards[k].wait.length c2],I J l]=.tuple #[.agg #[.bool o,I U z,.slice A s.boards[k].wait.length c3],I J l]∧Aq m w.heap.size (.slice A s.boards[k].wait.length c3) s.boards[k].wait):=ac;clear y n E ac ad r;refine AI (w':=(((m.setCell ⟨a.bo.b,k*3,O⟩ (.bool o)).setCell ⟨a.bo.b,k*3+1,O⟩ (I U z)).setCell ⟨a.bo.b,k*3+2,O⟩ (.slice c s.boards[k].wait.length c2))) (by simp[execOp,go_sem,z0,f0,z1,f1,z2,f2]) ?_;unfold A7;go_wp2_with fail;go_ret;refine⟨rfl,?_⟩;have hp:=H9.o.Kq p [(0,.bool o),(1,I U z),(2,.slice c s.boards[k].wait.length c2)] rfl an.o (x:=⟨o,z,s.boards[k].wait⟩) fun w' aw aB=>⟨_,aw,by
   obtain⟨A,c3,t,az⟩:=aq.o;injection t with t;simp only[be,bb,ba,a0,true_and,and_true] at t;obtain⟨rfl,rfl⟩:=t;exact(Al.CZ az.1 fun q hq _=>ao.o q hq).Ag aB⟩
 rw[HE.o];exact⟨hp.1,(Upd.below ak.o).trans hp.2⟩
def K5(B:Nat)(w:ap):Prop:=∀ k,k<26→∃ a c,w.cell? ⟨2,k,O⟩=Z (Y a (opsOf (k:Int)).length c)∧(opsOf (k:Int)).length≤c∧(∀ p b d,Value.slice a (opsOf (k:Int)).length c=Y (Z p) b d→0<b→p.block<B)∧Af U w 0 (Y a (opsOf (k:Int)).length c) (opsOf (k:Int))
def BZ(k:Nat):Nat:=match k with
 |1=>256
 |2=>257
 |3=>250
 |4=>258
 |5=>259
 |6=>260
 |7=>261
 |8=>262
 |9=>263
 |10=>264
 |11=>265
 |12=>266
 |13=>267
 |14=>268
 |15=>269
 |16=>270
 |17=>271
 |18=>272
 |19=>273
 |20=>274
 |21=>275
 |22=>276
 |23=>277
 |24=>278
 |25=>279
 | _=>0
def LF(w:ap):Prop:=∀ k,1≤k→k<26→w.cell? ⟨1,k,O⟩=Z (.func (.func (BZ k)) #[] #[])
def LD(w:ap):Prop:=AN w 0 0 [I U 1,I J 0,I J 0,I U 0,I U 0,I U 0,I U 0,I J 0,I J (-1),I J (-1),I U 0,I J 0]
structure Gl(B:Nat)(w:ap):Prop where
 hb:16≤B
 hw:B≤w.heap.size
 ops:K5 B w
 ins:LF w
 BC:LD w
def Gl.Ag{B:Nat}{w w':ap}(h:Gl B w)(i:w.heap.size≤w'.heap.size)(d:∀ k,k<B→w'.heap[k]? =w.heap[k]?):Gl B w':=by
 have v:=h.hb;refine⟨h.hb,br h.hw i,fun k o=>?_,fun k e f=>(Gh (d _ (by omega)) _).trans (h.ins k e f),fun j u r=>(Gh (d _ (by omega)) _).trans (h.BC j u r)⟩;obtain⟨a,c,e,f,g,m⟩:=h.ops k o;refine⟨a,c,(Gh (d _ (by omega)) _).trans e,f,g,?_⟩;refine I6 (D:=fun b=>b<B) m (fun p t l s q=>g p t l s q) ⟨i,fun b n _=>d b n⟩
def Gl.below{B:Nat}{w w':ap}(h:Gl B w)(a:Bl w w'):Gl B w':=h.Ag a.size fun k b=>a.block k (a9 b h.hw)
def Gl.BG{B:Nat}{M:List Nat}{w w':ap}(h:Gl B w)(a:Upd M w w')(c:∀ b∈M,B≤b):Gl B w':=h.Ag a.size fun k d=>a.block k (a9 d h.hw) (fun e=>by have:=c k e;omega)
def Dt(o x c:Int)(a b:Bool)(d:decide (Cp o≤x)=a)(e:decide (x≤De o x c)=b):Aw o x c=(a && b):=by rw[Aw,d,e]
def IV(o x a:Int)(w:ap)(d:1≤o)(f:o≤7)(g:0≤a)(h:a≤1000000):
  a7 prog 180 #[I U o,I J x,I J a] w fun e w'=>e=.returned (.bool (Aw o x a))∧w=w':=by
 rcases(show o=1∨o=2∨o=3∨o=4∨o=5∨o=6∨o=7 by omega) with rfl|rfl|rfl|rfl|rfl|rfl|rfl
 ·by_cases c:1≤x
  ·by_cases b:x≤2000
   ·rw[Dt 1 x a true true (decide_eq_true (by simp[Cp];omega)) (decide_eq_true (by simp[De];omega))];go_enter func180,ntmps180;go_wp2_with fail;go_ret;exact⟨A8 (by first|rfl|simp),rfl⟩
   ·rw[Dt 1 x a true false (decide_eq_true (by simp[Cp];omega)) (decide_eq_false (by simp[De];omega))];go_enter func180,ntmps180;go_wp2_with fail;go_ret;exact⟨A8 (by first|rfl|simp),rfl⟩
  ·rw[Dt 1 x a false _ (decide_eq_false (by simp[Cp];omega)) rfl];go_enter func180,ntmps180;go_wp2_with fail;go_ret;exact⟨A8 (by first|rfl|simp),rfl⟩
 ·by_cases c:0≤x
  ·by_cases b:x≤3
   ·rw[Dt 2 x a true true (decide_eq_true (by simp[Cp];omega)) (decide_eq_true (by simp[De];omega))];go_enter func180,ntmps180;go_wp2_with fail;go_ret;exact⟨A8 (by first|rfl|simp),rfl⟩
   ·rw[Dt 2 x a true false (decide_eq_true (by simp[Cp];omega)) (decide_eq_false (by simp[De];omega))];go_enter func180,ntmps180;go_wp2_with fail;go_ret;exact⟨A8 (by first|rfl|simp),rfl⟩
  ·rw[Dt 2 x a false _ (decide_eq_false (by simp[Cp];omega)) rfl];go_enter func180,ntmps180;go_wp2_with fail;go_ret;exact⟨A8 (by first|rfl|simp),rfl⟩
 ·by_cases c:0≤x
  ·by_cases b:x≤255
   ·rw[Dt 3 x a true true (decide_eq_true (by simp[Cp];omega)) (decide_eq_true (by simp[De];omega))];go_enter func180,ntmps180;go_wp2_with fail;go_ret;exact⟨A8 (by first|rfl|simp),rfl⟩
   ·rw[Dt 3 x a true false (decide_eq_true (by simp[Cp];omega)) (decide_eq_false (by simp[De];omega))];go_enter func180,ntmps180;go_wp2_with fail;go_ret;exact⟨A8 (by first|rfl|simp),rfl⟩
  ·rw[Dt 3 x a false _ (decide_eq_false (by simp[Cp];omega)) rfl];go_enter func180,ntmps180;go_wp2_with fail;go_ret;exact⟨A8 (by first|rfl|simp),rfl⟩
 ·by_cases c:0≤x
  ·by_cases b:x≤4095
   ·rw[Dt 4 x a true true (decide_eq_true (by simp[Cp];omega)) (decide_eq_true (by simp[De];omega))];go_enter func180,ntmps180;go_wp2_with fail;go_ret;exact⟨A8 (by first|rfl|simp),rfl⟩
   ·rw[Dt 4 x a true false (decide_eq_true (by simp[Cp];omega)) (decide_eq_false (by simp[De];omega))];go_enter func180,ntmps180;go_wp2_with fail;go_ret;exact⟨A8 (by first|rfl|simp),rfl⟩
  ·rw[Dt 4 x a false _ (decide_eq_false (by simp[Cp];omega)) rfl];go_enter func180,ntmps180;go_wp2_with fail;go_ret;exact⟨A8 (by first|rfl|simp),rfl⟩
 ·by_cases c:1≤x
  ·by_cases b:x≤64
   ·rw[Dt 5 x a true true (decide_eq_true (by simp[Cp];omega)) (decide_eq_true (by simp[De];omega))];go_enter func180,ntmps180;go_wp2_with fail;go_ret;exact⟨A8 (by first|rfl|simp),rfl⟩
   ·rw[Dt 5 x a true false (decide_eq_true (by simp[Cp];omega)) (decide_eq_false (by simp[De];omega))];go_enter func180,ntmps180;go_wp2_with fail;go_ret;exact⟨A8 (by first|rfl|simp),rfl⟩
  ·rw[Dt 5 x a false _ (decide_eq_false (by simp[Cp];omega)) rfl];go_enter func180,ntmps180;go_wp2_with fail;go_ret;exact⟨A8 (by first|rfl|simp),rfl⟩
 ·by_cases c:0≤x
  ·by_cases b:x≤x
   ·rw[Dt 6 x a true true (decide_eq_true (by simp[Cp];omega)) (decide_eq_true (by simp[De]))];go_enter func180,ntmps180;go_wp2_with fail;go_ret;exact⟨A8 (by first|rfl|simp),rfl⟩
   ·exact absurd (Int.le_refl x) b
  ·rw[Dt 6 x a false _ (decide_eq_false (by simp[Cp];omega)) rfl];go_enter func180,ntmps180;go_wp2_with fail;go_ret;exact⟨A8 (by first|rfl|simp),rfl⟩
 ·by_cases c:0≤x
  ·by_cases b:x≤a-1
   ·rw[Dt 7 x a true true (decide_eq_true (by simp[Cp];omega)) (decide_eq_true (by simp[De];omega))];go_enter func180,ntmps180;go_wp2_with fail;go_ret;exact⟨A8 (by first|rfl|simp),rfl⟩
   ·rw[Dt 7 x a true false (decide_eq_true (by simp[Cp];omega)) (decide_eq_false (by simp[De];omega))];go_enter func180,ntmps180;go_wp2_with fail;go_ret;exact⟨A8 (by first|rfl|simp),rfl⟩
  ·rw[Dt 7 x a false _ (decide_eq_false (by simp[Cp];omega)) rfl];go_enter func180,ntmps180;go_wp2_with fail;go_ret;exact⟨A8 (by first|rfl|simp),rfl⟩
def XO(a:Int):∀ o∈opsOf a,1≤o∧o≤7:=by
 unfold opsOf;split<;>decide
def XN(a:Int):(opsOf a).length≤3:=by
 unfold opsOf;split<;>decide
def GR(x:Ai)(a:Int)(k:Nat):Prop:=∀ j,j<k→∀ o,(opsOf x.op)[j]? =Z o→Aw o (Dy x j) a=true
def Zk{x:Ai}{c:Int}(d:1≤x.op)(e:x.op≤25)(h:GR x c (opsOf x.op).length):Bb x c=true:=by
 simp only[Bb,Bool.and_eq_true,decide_eq_true_eq,aN];refine⟨⟨d,e⟩,fun p f=>?_⟩;obtain⟨_,a,b⟩:=List.mem_zipIdx f;simp only[bB,Nat.sub_zero] at a b;exact h p.2 a p.1 (by rw[b];exact aO a)
def QI{x:Ai}{b:Int}{k:Nat}{o:Int}(a:(opsOf x.op)[k]? =Z o)(h:Aw o (Dy x k) b=false):Bb x b=false:=by
 have c:=(a6.1 a).1;simp only[Bb,bs];right;rw[List.all_eq_false];refine⟨(o,k),?_,by simp[h]⟩;rw[List.mem_zipIdx_iff_getElem?];exact a
def Zn(x:Ai)(d:Int)(w:ap)(h:x.op<1∨25<x.op)(f:0≤x.op)(g:x.op≤255):
  a7 prog 146 #[.agg #[I U x.op,I J x.a,I J x.b,I J x.c],I J d] w fun e w'=>e=.returned (.bool (Bb x d))∧Bl w w':=by
 rw[show Bb x d=false by
  simp only[Bb,bs,decide_eq_false_iff_not];left;omega]
 by_cases i:x.op<1
 ·go_enter func146,ntmps146;go_wp2_with fail;go_ret;exact⟨rfl,(a1 _ w).alloc (av _) _⟩
 ·have j:25<x.op:=by omega
  go_enter func146,ntmps146;go_wp2_with fail;go_ret;exact⟨rfl,(a1 _ w).alloc (av _) _⟩
def Zm(B k:Nat)(c d f:Int)(a:Int)(w:ap)(F:Gl B w)(h1:1≤k)(h2:k≤25)(u:0≤a)(x:a≤1000000):
  a7 prog 146 #[.agg #[I U k,I J c,I J d,I J f],I J a] w fun e w'=>e=.returned (.bool (Bb ⟨k,c,d,f⟩ a))∧Bl w w':=by
 obtain⟨ao,co,hc,ay,C,Q⟩:=F.ops k (by omega);have aq:=F.hw;have an:=F.hb;have aw:=XN k;have K:Hq (GR ⟨k,c,d,f⟩ a (opsOf k).length→Bb ⟨k,c,d,f⟩ a=true):=fun h=>Zk (by simp;omega) (by simp;omega) h;have L:Hq (∀ i o,(opsOf k)[i]? =Z o→Aw o (Dy ⟨k,c,d,f⟩ i) a=false→Bb ⟨k,c,d,f⟩ a=false):=fun i o h h'=>QI h h'
 have X:Hq (GR ⟨k,c,d,f⟩ a 0):=fun j z=>absurd z (by omega);have aa:Hq (∀ i o,(opsOf k)[i]? =Z o→GR ⟨k,c,d,f⟩ a i→Aw o (Dy ⟨k,c,d,f⟩ i) a=true→GR ⟨k,c,d,f⟩ a (i+1)):=fun i o ho ht g j z o' D=>by
  by_cases e:j=i
  ·subst e;rw[show (opsOf (Ai.mk k c d f).op)[j]? =Z o from ho] at D;injection D with D;rw[←D];exact g
  ·exact ht j (by omega) o' D
 have az:(1:Int)≤(k:Int):=by omega
 have aA:(k:Int)≤25:=by omega
 have R:Hq (∀ j (z:j<(opsOf k).length),∃ b y,ao=Z ⟨b,y,O⟩∧b<w.heap.size∧w.cell? ⟨b,y+j,O⟩=Z (I U (opsOf k)[j])):=fun j z=>by
  obtain⟨a',c',P,_,_,hp⟩:=Q.open_;simp only[a0] at P;obtain⟨rfl,_,rfl⟩:=P;obtain⟨b,y,ha,_,M,af⟩:=hp (by omega);exact⟨b,y,ha,M,af j z⟩
 have S:=HH (XO k);generalize Bb ⟨k,c,d,f⟩ a=V at K L ⊢;clear C Q h1 F;generalize opsOf (k:Int)=l at*;have aB:(2:Nat)<w.heap.size:=by omega
 go_enter func146,ntmps146;go_wp2_with fail
 go_loop [28] (fun v=>∃ i:Nat,i≤l.length∧v=I J i∧Hq (GR ⟨k,c,d,f⟩ a i)) (fun v=>l.length-(intOf v).toNat)
 case atStart=>exact⟨0,bk _,rfl,X.o⟩
 case round=>
  obtain⟨i,hi,rfl,A⟩:=hrel;by_cases C:i<l.length
  ·obtain⟨b,y,rfl,M,N⟩:=R.o i C;have ai:=S.o l[i] (a5 C);have H:l[i]? =Z l[i]:=aO C;obtain⟨p,n⟩:=H2 (L.o i l[i] H) (aa.o i l[i] H A.o);have ax:(i:Int)<(l.length:Int):=by omega
   have au:(i:Int)<(co:Int):=by omega
   clear H;generalize l[i]=o at*;obtain⟨s,t⟩:=ai;rcases(show i=0∨i=1∨i=2 by omega) with rfl|rfl|rfl
   ·replace N:w.cell? ⟨b,y,O⟩=Z (I U o):=N;replace p:Hq (Aw o c a=false→V=false):=p;replace n:Hq (Aw o c a=true→GR ⟨k,c,d,f⟩ a (0+1)):=n;cases g:Aw o c a with
    |true=>
     have m:∀ W,a7 prog 180 #[I U o,I J c,I J a] W fun e w'=>e=.returned (.bool true)∧W=w':=fun W=>by
      have:=IV o c a W s t u x;rwa [g] at this
     obtain⟨r,q⟩:=H2 (n.o g) m;clear g n p m;go_wp2_with (go_at_call 180;refine(q.o _).mono ?_;rintro e E ⟨rfl,rfl⟩)
     go_round
     case rel=>exact⟨0+1,by omega,by go_num,r.o⟩
     case measure=>simp[intOf];omega
    |false=>
     have m:∀ W,a7 prog 180 #[I U o,I J c,I J a] W fun e w'=>e=.returned (.bool false)∧W=w':=fun W=>by
      have:=IV o c a W s t u x;rwa [g] at this
     obtain⟨r,q⟩:=H2 (p.o g) m;clear g n p m;go_wp2_with (go_at_call 180;refine(q.o _).mono ?_;rintro e E ⟨rfl,rfl⟩);go_ret;exact⟨A8 r.o.symm,((a1 _ w).alloc (av _) _).alloc (by simp) _⟩
   ·replace p:Hq (Aw o d a=false→V=false):=p;replace n:Hq (Aw o d a=true→GR ⟨k,c,d,f⟩ a (1+1)):=n;cases g:Aw o d a with
    |true=>
     have m:∀ W,a7 prog 180 #[I U o,I J d,I J a] W fun e w'=>e=.returned (.bool true)∧W=w':=fun W=>by
      have:=IV o d a W s t u x;rwa [g] at this
     obtain⟨r,q⟩:=H2 (n.o g) m;clear g n p m;go_wp2_with (go_at_call 180;refine(q.o _).mono ?_;rintro e E ⟨rfl,rfl⟩)
     go_round
     case rel=>exact⟨1+1,by omega,by go_num,r.o⟩
     case measure=>simp[intOf];omega
    |false=>
     have m:∀ W,a7 prog 180 #[I U o,I J d,I J a] W fun e w'=>e=.returned (.bool false)∧W=w':=fun W=>by
      have:=IV o d a W s t u x;rwa [g] at this
     obtain⟨r,q⟩:=H2 (p.o g) m;clear g n p m;go_wp2_with (go_at_call 180;refine(q.o _).mono ?_;rintro e E ⟨rfl,rfl⟩);go_ret;exact⟨A8 r.o.symm,((a1 _ w).alloc (av _) _).alloc (by simp) _⟩
   ·replace p:Hq (Aw o f a=false→V=false):=p;replace n:Hq (Aw o f a=true→GR ⟨k,c,d,f⟩ a (2+1)):=n;cases g:Aw o f a with
    |true=>
     have m:∀ W,a7 prog 180 #[I U o,I J f,I J a] W fun e w'=>e=.returned (.bool true)∧W=w':=fun W=>by
      have:=IV o f a W s t u x;rwa [g] at this
     obtain⟨r,q⟩:=H2 (n.o g) m;clear g n p m;go_wp2_with (go_at_call 180;refine(q.o _).mono ?_;rintro e E ⟨rfl,rfl⟩)
     go_round
     case rel=>exact⟨2+1,by omega,by go_num,r.o⟩
     case measure=>simp[intOf];omega
    |false=>
     have m:∀ W,a7 prog 180 #[I U o,I J f,I J a] W fun e w'=>e=.returned (.bool false)∧W=w':=fun W=>by
      have:=IV o f a W s t u x;rwa [g] at this
     obtain⟨r,q⟩:=H2 (p.o g) m;clear g n p m;go_wp2_with (go_at_call 180;refine(q.o _).mono ?_;rintro e E ⟨rfl,rfl⟩);go_ret;exact⟨A8 r.o.symm,((a1 _ w).alloc (av _) _).alloc (by simp) _⟩
  ·obtain rfl:i=l.length:=by omega
   go_wp2;go_ret;exact⟨A8 (K.o A.o).symm,((a1 _ w).alloc (av _) _).alloc (by simp) _⟩
def Zl(B:Nat)(x:Ai)(d:Int)(w:ap)(g:Gl B w)(i:0≤x.op)(j:x.op≤255)(l:0≤d)(m:d≤1000000):
  a7 prog 146 #[.agg #[I U x.op,I J x.a,I J x.b,I J x.c],I J d] w fun e w'=>e=.returned (.bool (Bb x d))∧Bl w w':=by
 by_cases h:x.op<1∨25<x.op
 ·exact Zn x d w h i j
 ·obtain⟨k,f⟩:∃ k:Nat,x.op=(k:Int):=⟨x.op.toNat,by omega⟩;obtain⟨q,n,o,p⟩:=x;simp only at f h;subst f;exact Zm B k n o p d w g (by omega) (by omega) l m
def FJ(l:List Ai):Prop:=l.length≤24∧∀ x∈l,0≤x.op∧x.op≤255
def JP(l:List Ai)(k i:Nat)(d:k<l.length)(e:i<4):(EP l)[k*4+i]? =([I U l[k].op,I J l[k].a,I J l[k].b,I J l[k].c]:List aj)[i]?:=by
 induction l generalizing k with
 |nil=>simp at d
 |cons x l f=>
  cases k with
  |zero=>
   simp only[EP,bw,Nat.zero_mul,bB,List.getElem_cons_zero];rw[List.getElem?_append_left (by simpa using e)]
  |succ k=>
   simp only[EP,bw,List.getElem_cons_succ];rw[List.getElem?_append_right (by simp;omega)];have:=f k (by simpa using d);rw[show (k+1)*4+i-([Value.int U x.op,I J x.a,I J x.b,I J x.c]:List aj).length=k*4+i by simp;omega];exact this
def DG.open_{w:ap}{v:aj}{l:List Ai}(h:DG w v l):∃ (f:Option bD) (cap:Nat),v=Y f l.length cap∧l.length≤cap∧
  ∀ k (e:k<l.length),∃ b d,f=Z ⟨b,d,O⟩∧b<w.heap.size∧w.cell? ⟨b,d+k*4,O⟩=Z (I U l[k].op)∧w.cell? ⟨b,d+k*4+1,O⟩=Z (I J l[k].a)∧w.cell? ⟨b,d+k*4+2,O⟩=Z (I J l[k].b)∧w.cell? ⟨b,d+k*4+3,O⟩=Z (I J l[k].c):=by
 obtain⟨f,cap,o,m,p,_,n⟩:=h;refine⟨f,cap,o,m,fun k e=>?_⟩;obtain⟨b,d,i,_,j,g⟩:=n (by omega);refine⟨b,d,i,j,?_,?_,?_,?_⟩
 ·exact g (k*4) _ (by have:=JP l k 0 e (by omega);simpa using this)
 ·exact g (k*4+1) _ (by have:=JP l k 1 e (by omega);simpa using this)
 ·exact g (k*4+2) _ (by have:=JP l k 2 e (by omega);simpa using this)
 ·exact g (k*4+3) _ (by have:=JP l k 3 e (by omega);simpa using this)
def DG.below{w w':ap}{v:aj}{l:List Ai}(h:DG w v l)(a:Bl w w'):DG w' v l:=Sl.below h a
def GH(r:Option Ai):aj:=match r with|none=>.tuple #[.agg #[I U 0,I J 0,I J 0,I J 0],.bool false]|some x=>.tuple #[.agg #[I U x.op,I J x.a,I J x.b,I J x.c],.bool true]
def NZ{l:List Ai}{i:Int}(h:i<0∨(l.length:Int)≤i):CM l i=O:=by
 unfold CM;rcases h with h|h
 ·rw[if_pos h]
 ·by_cases a:i<0
  ·rw[if_pos a]
  ·rw[if_neg a,List.getElem?_eq_none (by omega)]
def RA{l:List Ai}{k:Nat}(a:k<l.length):CM l (k:Int)=if Bb l[k] l.length then Z l[k] else O:=by
 unfold CM;rw[if_neg (by omega),a8,aO a]
def Hl(B:Nat)(v:aj)(l:List Ai)(i:Int)(w:ap)(q:Gl B w)(h:DG w v l)(n:FJ l):
  a7 prog 114 #[v,I J i] w fun e w'=>e=.returned (GH (CM l i))∧Bl w w':=by
 obtain⟨X,cap,rfl,ac,r⟩:=h.open_;have ab:=n.1;by_cases M:i<0
 ·rw[NZ (.inl M)];clear r h n q;go_enter func114,ntmps114;go_wp2_with fail;refine bl (v:=.tuple #[.agg #[I U 0,I J 0,I J 0,I J 0],.bool false]) (by simp[bz,results114,go_sem]) rfl ?_;exact⟨rfl,(a1 _ w).alloc (av _) _⟩
 ·by_cases N:(l.length:Int)≤i
  ·rw[NZ (.inr N)];clear r h n q;go_enter func114,ntmps114;go_wp2_with fail;refine bl (v:=.tuple #[.agg #[I U 0,I J 0,I J 0,I J 0],.bool false]) (by simp[bz,results114,go_sem]) rfl ?_;exact⟨rfl,(a1 _ w).alloc (av _) _⟩
  ·obtain⟨k,rfl⟩:∃ k:Nat,i=(k:Int):=⟨i.toNat,by omega⟩;have z:k<l.length:=by omega
   have aa:(k:Int)<(l.length:Int):=by omega
   obtain⟨b,ad,rfl,j,t,c1,c2,c3⟩:=r k z;obtain⟨Q,R⟩:=n.2 l[k] (a5 z);have m:=Zl B l[k] l.length (w.alloc (T #[I U 0,I J 0,I J 0,I J 0] 64)) (q.below (a1 _ w|>.alloc (av _) _)) Q R (by omega) (by omega);rw[RA z];generalize l[k]=x at*;cases u:Bb x l.length with
   |true=>
    rw[u] at m;have y:=HH m;clear m u r h n q;go_enter func114,ntmps114;go_wp2_with fail;refine y.o.mono ?_;rintro e s ⟨rfl,f⟩;have g:=f.block w.heap.size (by simp);rw[heap_alloc_new] at g;have P:w.heap.size<s.heap.size:=by have:=f.size;simp at this;omega
    have d:=HH (((a1 _ w).alloc (av _) (T #[I U 0,I J 0,I J 0,I J 0] 64)).trans (f.mono (by simp)));have k0:=(d.o.cell (p:=⟨b,_,O⟩) j).trans t;have S:=(d.o.cell (p:=⟨b,_,O⟩) j).trans c1;have V:=(d.o.cell (p:=⟨b,_,O⟩) j).trans c2;have W:=(d.o.cell (p:=⟨b,_,O⟩) j).trans c3;obtain⟨A,C,D,E⟩:=r4 g;have f0:∀ o,s.frozen? ⟨w.heap.size,o,O⟩=false:=fun o=>by simp[bg,g]
    have F:=f0 0;have H:=f0 1;have K:=f0 2;have L:=f0 3;clear g f t c1 c2 c3 f0;go_wp2_with fail;refine bl (v:=.tuple #[.agg #[I U x.op,I J x.a,I J x.b,I J x.c],.bool true]) (by simp[bz,results114,go_sem,A,C,D,E]) rfl ?_;exact⟨rfl,(((d.o.setCell (p:=⟨w.heap.size,0,O⟩) (av _) _).setCell (p:=⟨w.heap.size,1,O⟩) (av _) _).setCell (p:=⟨w.heap.size,2,O⟩) (av _) _).setCell (p:=⟨w.heap.size,3,O⟩) (av _) _⟩
   |false=>
    rw[u] at m;have y:=HH m;clear m u r h n q;go_enter func114,ntmps114;go_wp2_with fail;refine y.o.mono ?_;rintro e s ⟨rfl,f⟩;have g:=f.block w.heap.size (by simp);rw[heap_alloc_new] at g;have P:w.heap.size<s.heap.size:=by have:=f.size;simp at this;omega
    have d:=HH (((a1 _ w).alloc (av _) (T #[I U 0,I J 0,I J 0,I J 0] 64)).trans (f.mono (by simp)));have k0:=(d.o.cell (p:=⟨b,_,O⟩) j).trans t;have S:=(d.o.cell (p:=⟨b,_,O⟩) j).trans c1;have V:=(d.o.cell (p:=⟨b,_,O⟩) j).trans c2;have W:=(d.o.cell (p:=⟨b,_,O⟩) j).trans c3;obtain⟨A,C,D,E⟩:=r4 g;have f0:∀ o,s.frozen? ⟨w.heap.size,o,O⟩=false:=fun o=>by simp[bg,g]
    have F:=f0 0;have H:=f0 1;have K:=f0 2;have L:=f0 3;clear g f t c1 c2 c3 f0;go_wp2_with fail;refine bl (v:=.tuple #[.agg #[I U 0,I J 0,I J 0,I J 0],.bool false]) (by simp[bz,results114,go_sem,A,C,D,E]) rfl ?_;exact⟨rfl,(((d.o.setCell (p:=⟨w.heap.size,0,O⟩) (av _) _).setCell (p:=⟨w.heap.size,1,O⟩) (av _) _).setCell (p:=⟨w.heap.size,2,O⟩) (av _) _).setCell (p:=⟨w.heap.size,3,O⟩) (av _) _⟩
end Go.Proofs.YtiepijihpgijbaaGreatDoor
