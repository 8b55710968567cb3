import Derived.Maps.AppendAt
import Derived.ChangeAlike
import Derived.BigRegion
import Derived.Test.YtiepijihpgijbaaGreatDoorQ1
set_option maxHeartbeats 16000000
set_option maxRecDepth 100000
set_option linter.all false
open Go.Value renaming slice→Y,int→I,pointer→G
open Option renaming some→Z,none→O
open Go.IntKind renaming u8→U,i64→J
open Go.Obj renaming cells→T
open Go renaming Value→a1,World→a2,Calls→cm,bodyPost_ret→cr,heap_alloc_new→cw,TypeId→cx,heap_setCell_same→cC,results→cK,cell_of_row→cY,Addr→df
open List renaming setIfInBounds_toArray→a6,set_cons_zero→bO,set_cons_succ→bX,getElem_mem→bZ,getElem?_eq_getElem→ca,mem_cons_self→cb,all_eq_true→ck,mem_cons_of_mem→cn,getElem?_eq_some_iff→cq,mem_cons→cD,drop_succ_cons→cE,getD_eq_getElem?_getD→cF,mem_or_eq_of_mem_set→cH,not_mem_nil→cJ,drop_zero→cN,drop_nil→cQ,any_eq_false→cS,mem_append→cV,mem_map→cZ,flatMap_cons→c9,length_cons→da,length_nil→dc
open Nat renaming le_refl→bK,zero_le→cB,lt_of_lt_of_le→cG,le_trans→cL,mul_le_mul_right→cO,zero_add→cT,add_mul→c7,add_zero→de
open Go.Value.slice renaming injEq→bY
open Go.World renaming cell?_setCell_same→b7,frozen?→cP,setCell→cX,cell?→dd
open Int renaming toNat_natCast→ch,le_refl→c8
open Go.RowKit.Below renaming refl→cp,heap_setCell→cR
open Go.Value.agg renaming injEq→ct
open List.cons renaming injEq→cu
open Array renaming getElem?_setIfInBounds→cy,getElem?_eq_some_iff→cW
open Array.mk renaming injEq→cz
open Bool renaming and_eq_true→cA,not_eq_true'→cI,and_eq_false_iff→c0
open Option.some renaming injEq→cM
open Go.Value renaming tuple→cU
open Go.Obj.cells renaming injEq→c6
open Go.RowKit renaming intOf→db
namespace Go.Proofs.YtiepijihpgijbaaGreatDoor
open Go.RowKit Tryz
def Ct(D:Nat→Prop)(v:a1):Prop:=∀ a n c,v=Y (Z a) n c→0<n→D a.block
def Bm(w:a2)(D:Nat→Prop)(v:a1)(l:List Wt):Prop:=Al w 0 v l∧Ct D v
def A4(w:a2)(D:Nat→Prop)(v:a1)(l:List Int):Prop:=Af U w 0 v l∧Ct D v
def BS(w:a2)(D:Nat→Prop)(v:a1)(q:List (List Int)):Prop:=
 ∃ vs:List a1,Sl w 0 1 v q.length vs∧Ct D v∧∀ (i:Nat) u x,vs[i]? =Z u→q[i]? =Z x→A4 w D u x
structure KeepD(D:Nat→Prop)(w w':a2):Prop where
 size:w.heap.size≤w'.heap.size
 block:∀ b,D b→b<w.heap.size→w'.heap[b]? =w.heap[b]?
def Gh{w w':a2}{b:Nat}(h:w'.heap[b]? =w.heap[b]?)(o:Nat):w'.cell? ⟨b,o,O⟩=w.cell? ⟨b,o,O⟩:=by
 unfold dd;rw[h]
section
variable {D D':Nat→Prop} {w w':a2} {v:a1} {l:List Wt} {m:List Int} {q:List (List Int)}
def KeepD.C9(a:Bl w w'):KeepD D w w':=⟨a.size,fun b _ c=>a.block b c⟩
def I6{sz n:Nat}{f:List a1}(h:Sl w 0 sz v n f)(r:Ct D v)(d:KeepD D w w'):Sl w' 0 sz v n f:=by
 obtain⟨g,cap,e,t,x,s,y⟩:=h;refine⟨g,cap,e,t,x,s,fun a=>?_⟩;obtain⟨b,A,c,i,o,p⟩:=y a;have k:D b:=by subst c;exact r _ _ _ e a
 have B:=d.size;exact⟨b,A,c,i,by omega,fun j u z=>(Gh (d.block b k o) _).trans (p j u z)⟩
def Bm.Ag(h:Bm w D v l)(a:KeepD D w w'):Bm w' D v l:=⟨I6 h.1 h.2 a,h.2⟩
def A4.Ag(h:A4 w D v m)(a:KeepD D w w'):A4 w' D v m:=⟨I6 h.1 h.2 a,h.2⟩
def BS.Ag(h:BS w D v q)(b:KeepD D w w'):BS w' D v q:=by
 obtain⟨vs,c,a,d⟩:=h;exact⟨vs,I6 c a b,a,fun i u x e f=>(d i u x e f).Ag b⟩
def Ct.mono(h:Ct D v)(d:∀ b,D b→D' b):Ct D' v:=fun a n c f e=>d _ (h a n c f e)
def Bm.mono(h:Bm w D v l)(a:∀ b,D b→D' b):Bm w D' v l:=⟨h.1,h.2.mono a⟩
def A4.mono(h:A4 w D v m)(a:∀ b,D b→D' b):A4 w D' v m:=⟨h.1,h.2.mono a⟩
def BS.mono(h:BS w D v q)(a:∀ b,D b→D' b):BS w D' v q:=by
 obtain⟨vs,c,d,e⟩:=h;exact⟨vs,c,d.mono a,fun i u x f g=>(e i u x f g).mono a⟩
def My:Ct D (Y O 0 0):=fun a n c b _=>by cases b
def Ja{B sz n:Nat}{p:List a1}(h:Sl w B sz v n p)(f:∀ b,B≤b→b<w.heap.size→D b):Ct D v:=fun a s c o j=>by
 obtain⟨r,cap,d,_,_,_,k⟩:=h;subst o;simp only[bY] at d;obtain⟨rfl,rfl,rfl⟩:=d;obtain⟨b,t,g,e,i,_⟩:=k j;cases g;exact f b e i
def Al.CZ{B:Nat}(h:Al w B v l)(a:∀ b,B≤b→b<w.heap.size→D b):Bm w D v l:=⟨h.mono (cB _),Ja h a⟩
def Af.CZ{B:Nat}(h:Af U w B v m)(a:∀ b,B≤b→b<w.heap.size→D b):A4 w D v m:=⟨h.mono (cB _),Ja h a⟩
def A6.CZ{B:Nat}(h:A6 w B v q)(c:∀ b,B≤b→b<w.heap.size→D b):BS w D v q:=by
 obtain⟨vs,a,d⟩:=h;exact⟨vs,a.mono (cB _),Ja a c,fun i u x e f=>(d i u x e f).CZ c⟩
def BS.rd(h:BS w D v q):A6 w 0 v q:=by
 obtain⟨vs,a,_,b⟩:=h;exact⟨vs,a,fun i u x c d=>(b i u x c d).1⟩
def Bm.nil:Bm w D (Y O 0 0) []:=⟨Sl.nil w 0 3,My⟩
def A4.nil:A4 w D (Y O 0 0) []:=⟨Sl.nil w 0 1,My⟩
def BS.nil:BS w D (Y O 0 0) []:=⟨[],Sl.nil w 0 1,My,fun i u x a=>by simp at a⟩
end
def EP(l:List Ai):List a1:=l.flatMap fun x=> [I U x.op,I J x.a,I J x.b,I J x.c]
def DG(w:a2)(v:a1)(l:List Ai):Prop:=Sl w 0 4 v l.length (EP l)
def Gc(w:a2)(D:Nat→Prop)(v:a1)(l:List Ai):Prop:=DG w v l∧Ct D v
def Gc.Ag{w w':a2}{D:Nat→Prop}{v:a1}{l:List Ai}(h:Gc w D v l)(a:KeepD D w w'):Gc w' D v l:=⟨I6 h.1 h.2 a,h.2⟩
def Gc.mono{w:a2}{D D':Nat→Prop}{v:a1}{l:List Ai}(h:Gc w D v l)(a:∀ b,D b→D' b):Gc w D' v l:=⟨h.1,h.2.mono a⟩
def AN(w:a2)(b o:Nat)(a:List a1):Prop:=∀ (j:Nat) (u:a1),a[j]? =Z u→w.cell? ⟨b,o+j,O⟩=Z u
def EK(w:a2)(b:Nat):Nat→List a1→a2
 | _,[]=>w
 |o,v::vs=>EK (w.setCell ⟨b,o,O⟩ v) b (o+1) vs
section
variable {w w':a2} {b o:Nat} {cs vs:List a1}
def L3:∀ (vs:List a1) (w:a2) (o:Nat),(EK w b o vs).heap.size=w.heap.size
 | [],_,_=>rfl
 |v::vs,w,o=>by
  rw[EK,L3 vs];simp[cX]
def L2{a:Nat}(c:a≠b):∀ (vs:List a1) (w:a2) (o:Nat),(EK w b o vs).heap[a]? =w.heap[a]?
 | [],_,_=>rfl
 |v::vs,w,o=>by
  rw[EK,L2 c vs];exact cR _ _ _ _ c
def Nt{t:cx}:∀ (vs:List a1) (w:a2) (o:Nat) (cs:Array a1),w.heap[b]? =Z (T cs t (0,0))→∃ c,(EK w b o vs).heap[b]? =Z (T c t (0,0))∧c.size=cs.size∧
  (∀ q,q<o∨o+vs.length≤q→c[q]? =cs[q]?)∧∀ j u,vs[j]? =Z u→o+j<cs.size→c[o+j]? =Z u
 | [],w,o,cs,h=>⟨cs,h,rfl,fun _ _=>rfl,fun j u a=>by simp at a⟩
 |v::vs,w,o,cs,h=>by
  obtain⟨c,k,d,e,f⟩:=Nt vs (w.setCell ⟨b,o,O⟩ v) (o+1) _ (cC w b o _ _ v h);simp only[Array.size_setIfInBounds] at d f;refine⟨c,k,d,fun q i=>?_,fun j u a g=>?_⟩
  ·rw[e q (by simp only[da] at i;omega),cy];simp only[da] at i;rw[if_neg (by omega)]
  ·match j,a with
   |0,a=>
    simp only[List.getElem?_cons_zero,cM] at a;subst a;rw[de,e o (.inl (by omega)),cy,if_pos rfl];rw[de] at g;rw[if_pos g]
   |j+1,a=>
    have:=f j u (by simpa using a) (by omega);rw[show o+(j+1)=o+1+j by omega];exact this
def L1:∀ (vs:List a1) (w:a2) (o:Nat),(EK w b o vs).os=w.os∧(EK w b o vs).tape=w.tape∧(EK w b o vs).output=w.output
 | [],_,_=>⟨rfl,rfl,rfl⟩
 |v::vs,w,o=>by
  rw[EK];exact L1 vs (w.setCell ⟨b,o,O⟩ v) (o+1)
def Cr{w:a2}{b:Nat}{cs:Array a1}{t:cx}(h:w.heap[b]? =Z (T cs t (0,0))){q:Nat}:w.cell? ⟨b,q,O⟩=cs[q]?:=by simp[dd,h]
def AN.same(h:AN w b o cs)(c:∀ j,j<cs.length→w'.cell? ⟨b,o+j,O⟩=w.cell? ⟨b,o+j,O⟩):AN w' b o cs:=fun j u a=>(c j (cq.1 a).1).trans (h j u a)
def AN.block(h:AN w b o cs)(a:w'.heap[b]? =w.heap[b]?):AN w' b o cs:=h.same fun _ _=>Gh a _
def AN.set{t:cx}{g:Array a1}(h:AN w b o cs)(f:w.heap[b]? =Z (T g t (0,0)))(j:Nat)(u:a1):AN (w.setCell ⟨b,o+j,O⟩ u) b o (cs.set j u):=fun k x a=>by
 have c:k<cs.length:=by have:=(cq.1 a).1;simpa using this
 have d:=h k cs[k] (ca c);rw[cY w _ _ _ _ _ f] at d;rw[cY _ _ _ _ _ _ (cC w b (o+j) _ _ u f),cy];have i:=(cW.1 d).1;rw[List.getElem?_set] at a;by_cases e:j=k
 ·subst e;rw[if_pos rfl] at a ⊢;rw[if_pos c] at a;rw[if_pos i];exact a
 ·rw[if_neg e] at a;rw[if_neg (by omega)];exact d.trans (by rw[←a,ca c])
end
structure Am(w:a2)(D:Nat→Prop)(b:Nat)(t:cx)(sz:Nat)(a:Option df)(c:Nat){α:Type}(El:a2→(Nat→Prop)→Nat→Nat→α→Prop)(l:List α):Prop where
 cap:l.length≤c
 nil:a=O→c=0
 ptr:0<l.length→a=Z ⟨b,0,O⟩
 nd:¬D b
 lt:b<w.heap.size
 blk:0<l.length→∃ cs,w.heap[b]? =Z (T cs t (0,0))∧l.length*sz≤cs.size
 el:∀ k (hk:k<l.length),El w D b (k*sz) l[k]
def Loc{α:Type}(sz:Nat)(El:a2→(Nat→Prop)→Nat→Nat→α→Prop):Prop:=∀ (w w':a2) (D:Nat→Prop) (b o:Nat) (x:α),El w D b o x→KeepD D w w'→(∀ j,j<sz→w'.cell? ⟨b,o+j,O⟩=w.cell? ⟨b,o+j,O⟩)→El w' D b o x
section
variable {w w':a2} {D:Nat→Prop} {b sz c:Nat} {t:cx} {a:Option df} {α:Type} {El:a2→(Nat→Prop)→Nat→Nat→α→Prop} {l:List α}
def Am.Ag(h:Am w D b t sz a c El l)(g:Loc sz El)(f:KeepD D w w')(e:0<l.length→w'.heap[b]? =w.heap[b]?):Am w' D b t sz a c El l:=
 ⟨h.cap,h.nil,h.ptr,h.nd,cG h.lt f.size,fun d=>by rw[e d];exact h.blk d,fun k i=>g _ _ _ _ _ _ (h.el k i) f fun j _=>Gh (e (by omega)) _⟩
def Am.below(h:Am w D b t sz a c El l)(e:Loc sz El)(d:Bl w w'):Am w' D b t sz a c El l:=h.Ag e (.C9 d) fun _=>d.block _ h.lt
def KeepD.set{D:Nat→Prop}(e:¬D b)(o:Nat)(u:a1):KeepD D w (w.setCell ⟨b,o,O⟩ u):=⟨by simp[cX],fun f d _=>cR _ _ _ _ (by rintro rfl;exact e d)⟩
def Am.put(h:Am w D b t sz a c El l)(m:Loc sz El){k:Nat}(g:KeepD D w w'){d:Array a1}(n:w'.heap[b]? =Z (T d t (0,0)))(s:l.length*sz≤d.size)(r:∀ q,q<k*sz∨k*sz+sz≤q→w'.cell? ⟨b,q,O⟩=w.cell? ⟨b,q,O⟩){x:α}(u:El w' D b (k*sz) x):
  Am w' D b t sz a c El (l.set k x):=
 ⟨by simpa using h.cap,h.nil,by simpa using h.ptr,h.nd,cG h.lt g.size,fun _=>⟨d,n,by simpa using s⟩,fun i o=>by
  have p:i<l.length:=by simpa using o
  by_cases e:k=i
  ·subst e;simpa using u
  ·rw[List.getElem_set_ne e];refine m _ _ _ _ _ _ (h.el i p) g fun j v=>r _ ?_
   rcases Nat.lt_or_ge i k with f|f
   ·have:(i+1)*sz≤k*sz:=cO sz f;rw[c7] at this;omega
   ·have:(k+1)*sz≤i*sz:=cO sz (by omega);rw[c7] at this;omega⟩
def Am.YL(h:Am w D b t sz a c El l)(d:Loc sz El){k:Nat}(o:k<l.length){j:Nat}(n:j<sz)(u:a1){x:α}(i:El (w.setCell ⟨b,k*sz+j,O⟩ u) D b (k*sz) x):
  Am (w.setCell ⟨b,k*sz+j,O⟩ u) D b t sz a c El (l.set k x):=by
 obtain⟨m,f,g⟩:=h.blk (by omega);refine h.put d (KeepD.set h.nd _ _) (cC w b _ _ _ u f) (by simpa using g) (fun q p=>?_) i;exact World.cell?_setCell_other w ⟨b,k*sz+j,O⟩ ⟨b,q,O⟩ u (by intro e;injection e with _ e2;omega)
def Am.frozen(h:Am w D b t sz a c El l)(d:0<l.length)(o:Nat):w.frozen? ⟨b,o,O⟩=false:=by
 obtain⟨f,e,_⟩:=h.blk d;simp[cP,e]
def KeepD.Jy{D:Nat→Prop}(e:¬D b)(o:Nat)(vs:List a1):KeepD D w (EK w b o vs):=⟨by rw[L3];exact bK _,fun f d _=>L2 (by rintro rfl;exact e d) _ _ _⟩
def Am.Jy(h:Am w D b t sz a c El l)(n:Loc sz El){k:Nat}(s:k<l.length){vs:List a1}(A:vs.length=sz){x:α}(o:∀ w',AN w' b (k*sz) vs→KeepD D w w'→El w' D b (k*sz) x):
  Am (EK w b (k*sz) vs) D b t sz a c El (l.set k x):=by
 obtain⟨e,f,z⟩:=h.blk (by omega);obtain⟨p,d,r,i,m⟩:=Nt vs w (k*sz) e f;have v:k*sz+sz≤e.size:=by
  have:(k+1)*sz≤l.length*sz:=cO sz (by omega);rw[c7] at this;omega
 refine h.put n (KeepD.Jy h.nd _ _) d (by omega) (fun q y=>?_) (o _ (fun j u g=>?_) (KeepD.Jy h.nd _ _))
 ·rw[Cr d,Cr f];exact i q (by omega)
 ·rw[Cr d];have:=(cq.1 g).1;exact m j u g (by omega)
end
def setsAt(w:a2)(b o:Nat):List (Nat×a1)→a2
 | []=>w
 |x::r=>setsAt (w.setCell ⟨b,o+x.1,O⟩ x.2) b o r
def FX(a:List a1):List (Nat×a1)→List a1
 | []=>a
 |x::r=>FX (a.set x.1 x.2) r
section
variable {b o:Nat}
def BO:∀ (r:List (Nat×a1)) (w:a2),(setsAt w b o r).heap.size=w.heap.size
 | [],_=>rfl
 |x::r,w=>by
  rw[setsAt,BO r];simp[cX]
def AU{a:Nat}(c:a≠b):∀ (r:List (Nat×a1)) (w:a2),(setsAt w b o r).heap[a]? =w.heap[a]?
 | [],_=>rfl
 |x::r,w=>by
  rw[setsAt,AU c r];exact cR _ _ _ _ c
def Be:∀ (r:List (Nat×a1)) (w:a2),(setsAt w b o r).os=w.os∧(setsAt w b o r).tape=w.tape∧(setsAt w b o r).output=w.output
 | [],_=>⟨rfl,rfl,rfl⟩
 |x::r,w=>by
  rw[setsAt];exact Be r (w.setCell ⟨b,o+x.1,O⟩ x.2)
def Qs{t:cx}{sz:Nat}:∀ (r:List (Nat×a1)) (w:a2) (d:List a1) (a:Array a1),w.heap[b]? =Z (T a t (0,0))→AN w b o d→(∀ x∈r,x.1<sz)→
  AN (setsAt w b o r) b o (FX d r)∧∃ c,(setsAt w b o r).heap[b]? =Z (T c t (0,0))∧c.size=a.size∧∀ q,q<o∨o+sz≤q→c[q]? =a[q]?
 | [],w,d,a,e,f,_=>⟨f,a,e,rfl,fun _ _=>rfl⟩
 |x::r,w,d,a,e,f,g=>by
  obtain⟨h,c,i,j,k⟩:=Qs r (w.setCell ⟨b,o+x.1,O⟩ x.2) (d.set x.1 x.2) _ (cC w b (o+x.1) _ _ x.2 e) (f.set e x.1 x.2) (fun y m=>g y (cn _ m));refine⟨h,c,i,by simpa using j,fun q l=>?_⟩;rw[k q l,cy,if_neg (by have:=g x (cb ..);omega)]
end
def KeepD.Cc{w:a2}{D:Nat→Prop}{b:Nat}(c:¬D b)(o:Nat)(r:List (Nat×a1)):KeepD D w (setsAt w b o r):=⟨by rw[BO];exact bK _,fun d a _=>AU (by rintro rfl;exact c a) _ _⟩
def Am.Cc{w:a2}{D:Nat→Prop}{b sz c:Nat}{t:cx}{a:Option df}{α:Type}{El:a2→(Nat→Prop)→Nat→Nat→α→Prop}{l:List α}(h:Am w D b t sz a c El l)(m:Loc sz El){k:Nat}(y:k<l.length){r:List (Nat×a1)}(p:∀ x∈r,x.1<sz){d:List a1}(n:AN w b (k*sz) d){x:α}(s:∀ w',AN w' b (k*sz) (FX d r)→KeepD D w w'→El w' D b (k*sz) x):
  Am (setsAt w b (k*sz) r) D b t sz a c El (l.set k x):=by
 obtain⟨g,f,z⟩:=h.blk (by omega);obtain⟨i,u,e,v,j⟩:=Qs (sz:=sz) r w d g f n p;refine h.put m (KeepD.Cc h.nd _ _) e (by omega) (fun q o=>?_) (s _ i (KeepD.Cc h.nd _ _));rw[Cr e,Cr f];exact j q o
section
variable (w:a2) (D:Nat→Prop) (b o:Nat)
def ElPr(x:BA):Prop:=∃ a c r2 r3,x.s.AG=[a,c,r2,r3]∧AN w b o [I U x.status,I J x.s.pc,I J x.s.left,I U a,I U c,I U r2,I U r3,I J x.since,I J x.release,I J x.deadline,I U x.why,I J x.on]
def ElSa(x:Ee):Prop:=∃ v,AN w b o [v,I J x.at_,.bool x.has]∧A4 w D v x.data
def ElQu(x:AO):Prop:=∃ v u,AN w b o [v,u,I J x.lost]∧BS w D v x.q∧Bm w D u x.wait
def ElBu(x:AT):Prop:=∃ v p g,AN w b o [I J x.depth,v,p,g]∧A4 w D v x.data∧Bm w D p x.put∧Bm w D g x.get
def ElBo(x:BE):Prop:=∃ v,AN w b o [.bool x.has,I U x.val,v]∧Bm w D v x.wait
def ElSe(x:BU):Prop:=∃ v,AN w b o [I J x.count,v]∧Bm w D v x.wait
def ElEv(x:C3):Prop:=∃ v,AN w b o [.bool x.up,v]∧Bm w D v x.wait
def K4(x:CV):Prop:=∃ nm,AN w b o [.string nm,I U x.kind,.bool x.o,I J x.size,I J x.depth,I J x.At]
def K3(x:Eu):Prop:=∃ nm v,AN w b o [.string nm,I J x.prio,I J x.period,I J x.Cf,v]∧Gc w D v x.code
def Ii(x:Int):Prop:=AN w b o [I J x]
def ElB(x:Int):Prop:=AN w b o [I U x]
end
def Fw:Loc 12 (fun w _ b o x=>ElPr w b o x):=fun _ _ _ _ _ _ ⟨d,e,r2,r3,h,a⟩ _ c=>⟨d,e,r2,r3,h,a.same c⟩
def FT:Loc 3 ElSa:=fun _ _ _ _ _ _ ⟨v,b,a⟩ c d=>⟨v,b.same d,a.Ag c⟩
def F0:Loc 3 ElQu:=fun _ _ _ _ _ _ ⟨v,u,d,b,c⟩ a e=>⟨v,u,d.same e,b.Ag a,c.Ag a⟩
def Fu:Loc 4 ElBu:=fun _ _ _ _ _ _ ⟨v,p,g,e,b,c,d⟩ a f=>⟨v,p,g,e.same f,b.Ag a,c.Ag a,d.Ag a⟩
def Ft:Loc 3 ElBo:=fun _ _ _ _ _ _ ⟨v,b,a⟩ c d=>⟨v,b.same d,a.Ag c⟩
def F4:Loc 2 ElSe:=fun _ _ _ _ _ _ ⟨v,b,a⟩ c d=>⟨v,b.same d,a.Ag c⟩
def Fv:Loc 2 ElEv:=fun _ _ _ _ _ _ ⟨v,b,a⟩ c d=>⟨v,b.same d,a.Ag c⟩
def Fc:Loc 6 (fun w _ b o x=>K4 w b o x):=fun _ _ _ _ _ _ ⟨v,a⟩ _ c=>⟨v,a.same c⟩
def Fb:Loc 5 K3:=fun _ _ _ _ _ _ ⟨nm,v,b,a⟩ c d=>⟨nm,v,b.same d,a.Ag c⟩
def C8:Loc 1 (fun w _ b o x=>Ii w b o x):=fun _ _ _ _ _ _ a _ c=>a.same c
def ED:Loc 1 (fun w _ b o x=>ElB w b o x):=fun _ _ _ _ _ _ a _ c=>a.same c
structure Fk where
 a:Option df
 c:Nat
 b:Nat
structure Hd where
 nm:ByteArray
 per:Int
 len:Int
 Bs:Fk
 Bt:Fk
 AB:Fk
 Ay:Fk
 pr:Fk
 sa:Fk
 qu:Fk
 bu:Fk
 bo:Fk
 se:Fk
 ev:Fk
 me:Fk
def CR(d:Ad)(h:Hd)(s:Ae):Array a1:=
 #[.string h.nm,I J h.per,I J h.len,I J d.mem,Y h.Bs.a d.semas.length h.Bs.c,I J d.events,I J d.boards,Y h.Bt.a d.bufs.length h.Bt.c,Y h.AB.a d.Ab.length h.AB.c,Y h.Ay.a d.procs.length h.Ay.c,
  Y h.pr.a s.procs.length h.pr.c,Y h.sa.a s.samples.length h.sa.c,Y h.qu.a s.queues.length h.qu.c,Y h.bu.a s.bufs.length h.bu.c,Y h.bo.a s.boards.length h.bo.c,Y h.se.a s.semas.length h.se.c,Y h.ev.a s.events.length h.ev.c,
  I U s.mode,I J s.clock,Y h.me.a s.mem.length h.me.c,.bool true]
structure PA(w:a2)(D:Nat→Prop)(g:Nat)(d:Ad)(h:Hd)(s:Ae):Prop where
 blk:w.heap[g]? =Z (T (CR d h s) 88 (0,0))
 nd:¬D g
 Bs:Am w D h.Bs.b 3 1 h.Bs.a h.Bs.c (fun w _ b o x=>Ii w b o x) d.semas
 Bt:Am w D h.Bt.b 3 1 h.Bt.a h.Bt.c (fun w _ b o x=>Ii w b o x) d.bufs
 AB:Am w D h.AB.b 62 6 h.AB.a h.AB.c (fun w _ b o x=>K4 w b o x) d.Ab
 Ay:Am w D h.Ay.b 68 5 h.Ay.a h.Ay.c K3 d.procs
 pr:Am w D h.pr.b 51 12 h.pr.a h.pr.c (fun w _ b o x=>ElPr w b o x) s.procs
 sa:Am w D h.sa.b 114 3 h.sa.a h.sa.c ElSa s.samples
 qu:Am w D h.qu.b 107 3 h.qu.a h.qu.c ElQu s.queues
 bu:Am w D h.bu.b 111 4 h.bu.a h.bu.c ElBu s.bufs
 bo:Am w D h.bo.b 103 3 h.bo.a h.bo.c ElBo s.boards
 se:Am w D h.se.b 95 2 h.se.a h.se.c ElSe s.semas
 ev:Am w D h.ev.b 99 2 h.ev.a h.ev.c ElEv s.events
 me:Am w D h.me.b 5 1 h.me.a h.me.c (fun w _ b o x=>ElB w b o x) s.mem
def Mut(g:Nat)(h:Hd):List Nat:=[g,h.pr.b,h.sa.b,h.qu.b,h.bu.b,h.bo.b,h.se.b,h.ev.b,h.me.b]
def Upd.Jy{M:List Nat}{w:a2}{b:Nat}(a:b∈M)(o:Nat)(vs:List a1):Upd M w (EK w b o vs):=
 ⟨(L1 _ _ _).1,(L1 _ _ _).2.1,(L1 _ _ _).2.2,by rw[L3];exact bK _,fun k _ c=>L2 (by rintro rfl;exact c a) _ _ _⟩
def DT{w:a2}{b c:Nat}{e f:Array a1}{t d:cx}{g i:Nat×Nat}(h:w.heap[b]? =Z (T e t g))(a:w.heap[c]? =Z (T f d i))(j:t≠d):b≠c:=by
 rintro rfl;rw[h] at a;simp only[cM,c6] at a;exact j a.2.1
structure Dv(D:Nat→Prop)(b0:Nat)(t0:cx)(w w':a2):Prop where
 kd:KeepD D w w'
 tag:∃ cs fz,w.heap[b0]? =Z (T cs t0 fz)
 oth:∀ b,b<w.heap.size→b≠b0→w'.heap[b]? =w.heap[b]?
def Am.one{w w':a2}{D:Nat→Prop}{b sz c:Nat}{t:cx}{a:Option df}{α:Type}{El:a2→(Nat→Prop)→Nat→Nat→α→Prop}{l:List α}{f:Nat}{t0:cx}(h:Am w D b t sz a c El l)(g:Loc sz El)(e:Dv D f t0 w w')(j:t≠t0):Am w' D b t sz a c El l:=
 h.Ag g e.kd fun d=>by
  obtain⟨k,i,_⟩:=h.blk d;obtain⟨m,n,d⟩:=e.tag;exact e.oth b h.lt (DT i d j)
section
variable {w w':a2} {D:Nat→Prop} {g:Nat} {d:Ad} {hd:Hd} {s:Ae}
def PA.below(h:PA w D g d hd s)(a:Bl w w'):PA w' D g d hd s:=
 ⟨(a.block _ (Aa h.blk)).trans h.blk,h.nd,h.Bs.below C8 a,h.Bt.below C8 a,h.AB.below Fc a,h.Ay.below Fb a,h.pr.below Fw a,h.sa.below FT a,h.qu.below F0 a,h.bu.below Fu a,h.bo.below Ft a,h.se.below F4 a,h.ev.below Fv a,h.me.below ED a⟩
def PA.drew(h:PA w D g d hd s):PA w.drew D g d hd s:=h.below (cp _ w).drew
def PA.drewN(h:PA w D g d hd s)(n:Nat):PA (w.drewN n) D g d hd s:=h.below ⟨rfl,rfl,rfl,bK _,fun _ _=>rfl⟩
def PA.lt(h:PA w D g d hd s):g<w.heap.size:=Aa h.blk
def PA.cell(h:PA w D g d hd s)(o:Nat):w.cell? ⟨g,o,O⟩=(CR d hd s)[o]?:=cY w _ _ _ _ _ h.blk
def PA.frozen(h:PA w D g d hd s)(o:Nat):w.frozen? ⟨g,o,O⟩=false:=by simp[cP,h.blk]
end
section
variable {w w':a2} {D:Nat→Prop} {g:Nat} {d:Ad} {hd:Hd} {s:Ae}
def PA.Jl(h:PA w D g d hd s){i:Nat}(f:i<s.procs.length):∃ c e r2 r3,s.procs[i].s.AG=[c,e,r2,r3]∧w.cell? ⟨hd.pr.b,i*12,O⟩=Z (I U s.procs[i].status)∧w.cell? ⟨hd.pr.b,i*12+1,O⟩=Z (I J s.procs[i].s.pc)∧w.cell? ⟨hd.pr.b,i*12+2,O⟩=Z (I J s.procs[i].s.left)∧
  w.cell? ⟨hd.pr.b,i*12+3,O⟩=Z (I U c)∧w.cell? ⟨hd.pr.b,i*12+4,O⟩=Z (I U e)∧w.cell? ⟨hd.pr.b,i*12+5,O⟩=Z (I U r2)∧w.cell? ⟨hd.pr.b,i*12+6,O⟩=Z (I U r3)∧
  w.cell? ⟨hd.pr.b,i*12+7,O⟩=Z (I J s.procs[i].since)∧w.cell? ⟨hd.pr.b,i*12+8,O⟩=Z (I J s.procs[i].release)∧w.cell? ⟨hd.pr.b,i*12+9,O⟩=Z (I J s.procs[i].deadline)∧w.cell? ⟨hd.pr.b,i*12+10,O⟩=Z (I U s.procs[i].why)∧w.cell? ⟨hd.pr.b,i*12+11,O⟩=Z (I J s.procs[i].on):=by
 obtain⟨c,e,r2,r3,j,a⟩:=h.pr.el i f;exact⟨c,e,r2,r3,j,a 0 _ rfl,a 1 _ rfl,a 2 _ rfl,a 3 _ rfl,a 4 _ rfl,a 5 _ rfl,a 6 _ rfl,a 7 _ rfl,a 8 _ rfl,a 9 _ rfl,a 10 _ rfl,a 11 _ rfl⟩
end
def Upd.Cc{M:List Nat}{w:a2}{b:Nat}(a:b∈M)(o:Nat)(r:List (Nat×a1)):Upd M w (setsAt w b o r):=
 ⟨(Be _ _).1,(Be _ _).2.1,(Be _ _).2.2,by rw[BO];exact bK _,fun k _ c=>AU (by rintro rfl;exact c a) _ _⟩
section
variable {w w':a2} {D:Nat→Prop} {g:Nat} {d:Ad} {hd:Hd} {s:Ae}
def PA.Y4(h:PA w D g d hd s)(e:Dv D hd.pr.b 51 w w'){l:List _}(i:l.length=s.procs.length)(j:Am w' D hd.pr.b 51 12 hd.pr.a hd.pr.c (fun w _ b o x=>ElPr w b o x) l):PA w' D g d hd {s with procs:=l}:=
 ⟨(e.oth g h.lt (by
   obtain⟨k,m,f⟩:=e.tag;exact DT h.blk f (by decide))).trans (by rw[h.blk];simp only[CR,i]),h.nd,h.Bs.one C8 e (by decide),h.Bt.one C8 e (by decide),h.AB.one Fc e (by decide),h.Ay.one Fb e (by decide),j,h.sa.one FT e (by decide),h.qu.one F0 e (by decide),h.bu.one Fu e (by decide),h.bo.one Ft e (by decide),h.se.one F4 e (by decide),h.ev.one Fv e (by decide),h.me.one ED e (by decide)⟩
def PA.XD(h:PA w D g d hd s)(c:0<s.procs.length)(f:KeepD D w w')(hoth:∀ b,b<w.heap.size→b≠hd.pr.b→w'.heap[b]? =w.heap[b]?):Dv D hd.pr.b 51 w w':=by
 obtain⟨a,e,_⟩:=h.pr.blk c;exact⟨f,⟨a,_,e⟩,hoth⟩
def PA.FY(h:PA w D g d hd s){k:Nat}(f:k<s.procs.length)(r:List (Nat×a1))(j:r.all (fun x=>decide (x.1<12))=true){c:List a1}(e:AN w hd.pr.b (k*12) c){x}(a:∀ w',AN w' hd.pr.b (k*12) (FX c r)→KeepD D w w'→ElPr w' hd.pr.b (k*12) x):
  PA (setsAt w hd.pr.b (k*12) r) D g d hd {s with procs:=s.procs.set k x}∧Upd (Mut g hd) w (setsAt w hd.pr.b (k*12) r):=
 ⟨h.Y4 (h.XD (by omega) (KeepD.Cc h.pr.nd _ _) fun b _ i=>AU i _ _) (by simp) (h.pr.Cc Fw f (fun x a=>by simpa using ck.1 j x a) e a),.Cc (by simp[Mut]) _ _⟩
def PA.Y6(h:PA w D g d hd s)(e:Dv D hd.sa.b 114 w w'){l:List _}(i:l.length=s.samples.length)(j:Am w' D hd.sa.b 114 3 hd.sa.a hd.sa.c ElSa l):PA w' D g d hd {s with samples:=l}:=
 ⟨(e.oth g h.lt (by
   obtain⟨k,m,f⟩:=e.tag;exact DT h.blk f (by decide))).trans (by rw[h.blk];simp only[CR,i]),h.nd,h.Bs.one C8 e (by decide),h.Bt.one C8 e (by decide),h.AB.one Fc e (by decide),h.Ay.one Fb e (by decide),h.pr.one Fw e (by decide),j,h.qu.one F0 e (by decide),h.bu.one Fu e (by decide),h.bo.one Ft e (by decide),h.se.one F4 e (by decide),h.ev.one Fv e (by decide),h.me.one ED e (by decide)⟩
def PA.XF(h:PA w D g d hd s)(c:0<s.samples.length)(f:KeepD D w w')(hoth:∀ b,b<w.heap.size→b≠hd.sa.b→w'.heap[b]? =w.heap[b]?):Dv D hd.sa.b 114 w w':=by
 obtain⟨a,e,_⟩:=h.sa.blk c;exact⟨f,⟨a,_,e⟩,hoth⟩
def PA.Lt(h:PA w D g d hd s){k:Nat}(f:k<s.samples.length)(r:List (Nat×a1))(j:r.all (fun x=>decide (x.1<3))=true){c:List a1}(e:AN w hd.sa.b (k*3) c){x}(a:∀ w',AN w' hd.sa.b (k*3) (FX c r)→KeepD D w w'→ElSa w' D hd.sa.b (k*3) x):
  PA (setsAt w hd.sa.b (k*3) r) D g d hd {s with samples:=s.samples.set k x}∧Upd (Mut g hd) w (setsAt w hd.sa.b (k*3) r):=
 ⟨h.Y6 (h.XF (by omega) (KeepD.Cc h.sa.nd _ _) fun b _ i=>AU i _ _) (by simp) (h.sa.Cc FT f (fun x a=>by simpa using ck.1 j x a) e a),.Cc (by simp[Mut]) _ _⟩
def PA.Y5(h:PA w D g d hd s)(e:Dv D hd.qu.b 107 w w'){l:List _}(i:l.length=s.queues.length)(j:Am w' D hd.qu.b 107 3 hd.qu.a hd.qu.c ElQu l):PA w' D g d hd {s with queues:=l}:=
 ⟨(e.oth g h.lt (by
   obtain⟨k,m,f⟩:=e.tag;exact DT h.blk f (by decide))).trans (by rw[h.blk];simp only[CR,i]),h.nd,h.Bs.one C8 e (by decide),h.Bt.one C8 e (by decide),h.AB.one Fc e (by decide),h.Ay.one Fb e (by decide),h.pr.one Fw e (by decide),h.sa.one FT e (by decide),j,h.bu.one Fu e (by decide),h.bo.one Ft e (by decide),h.se.one F4 e (by decide),h.ev.one Fv e (by decide),h.me.one ED e (by decide)⟩
def PA.XE(h:PA w D g d hd s)(c:0<s.queues.length)(f:KeepD D w w')(hoth:∀ b,b<w.heap.size→b≠hd.qu.b→w'.heap[b]? =w.heap[b]?):Dv D hd.qu.b 107 w w':=by
 obtain⟨a,e,_⟩:=h.qu.blk c;exact⟨f,⟨a,_,e⟩,hoth⟩
def PA.Jv(h:PA w D g d hd s){k:Nat}(f:k<s.queues.length)(r:List (Nat×a1))(j:r.all (fun x=>decide (x.1<3))=true){c:List a1}(e:AN w hd.qu.b (k*3) c){x}(a:∀ w',AN w' hd.qu.b (k*3) (FX c r)→KeepD D w w'→ElQu w' D hd.qu.b (k*3) x):
  PA (setsAt w hd.qu.b (k*3) r) D g d hd {s with queues:=s.queues.set k x}∧Upd (Mut g hd) w (setsAt w hd.qu.b (k*3) r):=
 ⟨h.Y5 (h.XE (by omega) (KeepD.Cc h.qu.nd _ _) fun b _ i=>AU i _ _) (by simp) (h.qu.Cc F0 f (fun x a=>by simpa using ck.1 j x a) e a),.Cc (by simp[Mut]) _ _⟩
def PA.Y2(h:PA w D g d hd s)(e:Dv D hd.bu.b 111 w w'){l:List _}(i:l.length=s.bufs.length)(j:Am w' D hd.bu.b 111 4 hd.bu.a hd.bu.c ElBu l):PA w' D g d hd {s with bufs:=l}:=
 ⟨(e.oth g h.lt (by
   obtain⟨k,m,f⟩:=e.tag;exact DT h.blk f (by decide))).trans (by rw[h.blk];simp only[CR,i]),h.nd,h.Bs.one C8 e (by decide),h.Bt.one C8 e (by decide),h.AB.one Fc e (by decide),h.Ay.one Fb e (by decide),h.pr.one Fw e (by decide),h.sa.one FT e (by decide),h.qu.one F0 e (by decide),j,h.bo.one Ft e (by decide),h.se.one F4 e (by decide),h.ev.one Fv e (by decide),h.me.one ED e (by decide)⟩
def PA.XB(h:PA w D g d hd s)(c:0<s.bufs.length)(f:KeepD D w w')(hoth:∀ b,b<w.heap.size→b≠hd.bu.b→w'.heap[b]? =w.heap[b]?):Dv D hd.bu.b 111 w w':=by
 obtain⟨a,e,_⟩:=h.bu.blk c;exact⟨f,⟨a,_,e⟩,hoth⟩
def PA.Kr(h:PA w D g d hd s){k:Nat}(f:k<s.bufs.length)(r:List (Nat×a1))(j:r.all (fun x=>decide (x.1<4))=true){c:List a1}(e:AN w hd.bu.b (k*4) c){x}(a:∀ w',AN w' hd.bu.b (k*4) (FX c r)→KeepD D w w'→ElBu w' D hd.bu.b (k*4) x):
  PA (setsAt w hd.bu.b (k*4) r) D g d hd {s with bufs:=s.bufs.set k x}∧Upd (Mut g hd) w (setsAt w hd.bu.b (k*4) r):=
 ⟨h.Y2 (h.XB (by omega) (KeepD.Cc h.bu.nd _ _) fun b _ i=>AU i _ _) (by simp) (h.bu.Cc Fu f (fun x a=>by simpa using ck.1 j x a) e a),.Cc (by simp[Mut]) _ _⟩
def PA.Y1(h:PA w D g d hd s)(e:Dv D hd.bo.b 103 w w'){l:List _}(i:l.length=s.boards.length)(j:Am w' D hd.bo.b 103 3 hd.bo.a hd.bo.c ElBo l):PA w' D g d hd {s with boards:=l}:=
 ⟨(e.oth g h.lt (by
   obtain⟨k,m,f⟩:=e.tag;exact DT h.blk f (by decide))).trans (by rw[h.blk];simp only[CR,i]),h.nd,h.Bs.one C8 e (by decide),h.Bt.one C8 e (by decide),h.AB.one Fc e (by decide),h.Ay.one Fb e (by decide),h.pr.one Fw e (by decide),h.sa.one FT e (by decide),h.qu.one F0 e (by decide),h.bu.one Fu e (by decide),j,h.se.one F4 e (by decide),h.ev.one Fv e (by decide),h.me.one ED e (by decide)⟩
def PA.XA(h:PA w D g d hd s)(c:0<s.boards.length)(f:KeepD D w w')(hoth:∀ b,b<w.heap.size→b≠hd.bo.b→w'.heap[b]? =w.heap[b]?):Dv D hd.bo.b 103 w w':=by
 obtain⟨a,e,_⟩:=h.bo.blk c;exact⟨f,⟨a,_,e⟩,hoth⟩
def PA.Kq(h:PA w D g d hd s){k:Nat}(f:k<s.boards.length)(r:List (Nat×a1))(j:r.all (fun x=>decide (x.1<3))=true){c:List a1}(e:AN w hd.bo.b (k*3) c){x}(a:∀ w',AN w' hd.bo.b (k*3) (FX c r)→KeepD D w w'→ElBo w' D hd.bo.b (k*3) x):
  PA (setsAt w hd.bo.b (k*3) r) D g d hd {s with boards:=s.boards.set k x}∧Upd (Mut g hd) w (setsAt w hd.bo.b (k*3) r):=
 ⟨h.Y1 (h.XA (by omega) (KeepD.Cc h.bo.nd _ _) fun b _ i=>AU i _ _) (by simp) (h.bo.Cc Ft f (fun x a=>by simpa using ck.1 j x a) e a),.Cc (by simp[Mut]) _ _⟩
def PA.Y7(h:PA w D g d hd s)(e:Dv D hd.se.b 95 w w'){l:List _}(i:l.length=s.semas.length)(j:Am w' D hd.se.b 95 2 hd.se.a hd.se.c ElSe l):PA w' D g d hd {s with semas:=l}:=
 ⟨(e.oth g h.lt (by
   obtain⟨k,m,f⟩:=e.tag;exact DT h.blk f (by decide))).trans (by rw[h.blk];simp only[CR,i]),h.nd,h.Bs.one C8 e (by decide),h.Bt.one C8 e (by decide),h.AB.one Fc e (by decide),h.Ay.one Fb e (by decide),h.pr.one Fw e (by decide),h.sa.one FT e (by decide),h.qu.one F0 e (by decide),h.bu.one Fu e (by decide),h.bo.one Ft e (by decide),j,h.ev.one Fv e (by decide),h.me.one ED e (by decide)⟩
def PA.XG(h:PA w D g d hd s)(c:0<s.semas.length)(f:KeepD D w w')(hoth:∀ b,b<w.heap.size→b≠hd.se.b→w'.heap[b]? =w.heap[b]?):Dv D hd.se.b 95 w w':=by
 obtain⟨a,e,_⟩:=h.se.blk c;exact⟨f,⟨a,_,e⟩,hoth⟩
def PA.Nl(h:PA w D g d hd s){k:Nat}(f:k<s.semas.length)(r:List (Nat×a1))(j:r.all (fun x=>decide (x.1<2))=true){c:List a1}(e:AN w hd.se.b (k*2) c){x}(a:∀ w',AN w' hd.se.b (k*2) (FX c r)→KeepD D w w'→ElSe w' D hd.se.b (k*2) x):
  PA (setsAt w hd.se.b (k*2) r) D g d hd {s with semas:=s.semas.set k x}∧Upd (Mut g hd) w (setsAt w hd.se.b (k*2) r):=
 ⟨h.Y7 (h.XG (by omega) (KeepD.Cc h.se.nd _ _) fun b _ i=>AU i _ _) (by simp) (h.se.Cc F4 f (fun x a=>by simpa using ck.1 j x a) e a),.Cc (by simp[Mut]) _ _⟩
def PA.Y3(h:PA w D g d hd s)(e:Dv D hd.ev.b 99 w w'){l:List _}(i:l.length=s.events.length)(j:Am w' D hd.ev.b 99 2 hd.ev.a hd.ev.c ElEv l):PA w' D g d hd {s with events:=l}:=
 ⟨(e.oth g h.lt (by
   obtain⟨k,m,f⟩:=e.tag;exact DT h.blk f (by decide))).trans (by rw[h.blk];simp only[CR,i]),h.nd,h.Bs.one C8 e (by decide),h.Bt.one C8 e (by decide),h.AB.one Fc e (by decide),h.Ay.one Fb e (by decide),h.pr.one Fw e (by decide),h.sa.one FT e (by decide),h.qu.one F0 e (by decide),h.bu.one Fu e (by decide),h.bo.one Ft e (by decide),h.se.one F4 e (by decide),j,h.me.one ED e (by decide)⟩
def PA.XC(h:PA w D g d hd s)(c:0<s.events.length)(f:KeepD D w w')(hoth:∀ b,b<w.heap.size→b≠hd.ev.b→w'.heap[b]? =w.heap[b]?):Dv D hd.ev.b 99 w w':=by
 obtain⟨a,e,_⟩:=h.ev.blk c;exact⟨f,⟨a,_,e⟩,hoth⟩
def PA.Ls(h:PA w D g d hd s){k:Nat}(f:k<s.events.length)(r:List (Nat×a1))(j:r.all (fun x=>decide (x.1<2))=true){c:List a1}(e:AN w hd.ev.b (k*2) c){x}(a:∀ w',AN w' hd.ev.b (k*2) (FX c r)→KeepD D w w'→ElEv w' D hd.ev.b (k*2) x):
  PA (setsAt w hd.ev.b (k*2) r) D g d hd {s with events:=s.events.set k x}∧Upd (Mut g hd) w (setsAt w hd.ev.b (k*2) r):=
 ⟨h.Y3 (h.XC (by omega) (KeepD.Cc h.ev.nd _ _) fun b _ i=>AU i _ _) (by simp) (h.ev.Cc Fv f (fun x a=>by simpa using ck.1 j x a) e a),.Cc (by simp[Mut]) _ _⟩
def PA.Qo(h:PA w D g d hd s)(e:Dv D hd.me.b 5 w w'){l:List _}(i:l.length=s.mem.length)(j:Am w' D hd.me.b 5 1 hd.me.a hd.me.c (fun w _ b o x=>ElB w b o x) l):PA w' D g d hd {s with mem:=l}:=
 ⟨(e.oth g h.lt (by
   obtain⟨k,m,f⟩:=e.tag;exact DT h.blk f (by decide))).trans (by rw[h.blk];simp only[CR,i]),h.nd,h.Bs.one C8 e (by decide),h.Bt.one C8 e (by decide),h.AB.one Fc e (by decide),h.Ay.one Fb e (by decide),h.pr.one Fw e (by decide),h.sa.one FT e (by decide),h.qu.one F0 e (by decide),h.bu.one Fu e (by decide),h.bo.one Ft e (by decide),h.se.one F4 e (by decide),h.ev.one Fv e (by decide),j⟩
def PA.P9(h:PA w D g d hd s)(c:0<s.mem.length)(f:KeepD D w w')(hoth:∀ b,b<w.heap.size→b≠hd.me.b→w'.heap[b]? =w.heap[b]?):Dv D hd.me.b 5 w w':=by
 obtain⟨a,e,_⟩:=h.me.blk c;exact⟨f,⟨a,_,e⟩,hoth⟩
def PA.YO(h:PA w D g d hd s){k:Nat}(f:k<s.mem.length)(r:List (Nat×a1))(j:r.all (fun x=>decide (x.1<1))=true){c:List a1}(e:AN w hd.me.b (k*1) c){x}(a:∀ w',AN w' hd.me.b (k*1) (FX c r)→KeepD D w w'→ElB w' hd.me.b (k*1) x):
  PA (setsAt w hd.me.b (k*1) r) D g d hd {s with mem:=s.mem.set k x}∧Upd (Mut g hd) w (setsAt w hd.me.b (k*1) r):=
 ⟨h.Qo (h.P9 (by omega) (KeepD.Cc h.me.nd _ _) fun b _ i=>AU i _ _) (by simp) (h.me.Cc ED f (fun x a=>by simpa using ck.1 j x a) e a),.Cc (by simp[Mut]) _ _⟩
end
section
variable {w w':a2} {D:Nat→Prop} {g:Nat} {d:Ad} {hd:Hd} {s:Ae}
def PA.Q2(h:PA w D g d hd s)(a:0<d.Ab.length):w.cell? ⟨g,8,O⟩=Z (Y (Z ⟨hd.AB.b,0,O⟩) d.Ab.length hd.AB.c):=by
 have c:=h.cell 8;simp only[CR,h.AB.ptr a] at c;simpa using c
def PA.GW(h:PA w D g d hd s)(a:0<d.procs.length):w.cell? ⟨g,9,O⟩=Z (Y (Z ⟨hd.Ay.b,0,O⟩) d.procs.length hd.Ay.c):=by
 have c:=h.cell 9;simp only[CR,h.Ay.ptr a] at c;simpa using c
def PA.FC(h:PA w D g d hd s)(a:0<s.procs.length):w.cell? ⟨g,10,O⟩=Z (Y (Z ⟨hd.pr.b,0,O⟩) s.procs.length hd.pr.c):=by
 have c:=h.cell 10;simp only[CR,h.pr.ptr a] at c;simpa using c
def PA.Ic(h:PA w D g d hd s)(a:0<s.samples.length):w.cell? ⟨g,11,O⟩=Z (Y (Z ⟨hd.sa.b,0,O⟩) s.samples.length hd.sa.c):=by
 have c:=h.cell 11;simp only[CR,h.sa.ptr a] at c;simpa using c
def PA.Ib(h:PA w D g d hd s)(a:0<s.queues.length):w.cell? ⟨g,12,O⟩=Z (Y (Z ⟨hd.qu.b,0,O⟩) s.queues.length hd.qu.c):=by
 have c:=h.cell 12;simp only[CR,h.qu.ptr a] at c;simpa using c
def PA.I8(h:PA w D g d hd s)(a:0<s.bufs.length):w.cell? ⟨g,13,O⟩=Z (Y (Z ⟨hd.bu.b,0,O⟩) s.bufs.length hd.bu.c):=by
 have c:=h.cell 13;simp only[CR,h.bu.ptr a] at c;simpa using c
def PA.I7(h:PA w D g d hd s)(a:0<s.boards.length):w.cell? ⟨g,14,O⟩=Z (Y (Z ⟨hd.bo.b,0,O⟩) s.boards.length hd.bo.c):=by
 have c:=h.cell 14;simp only[CR,h.bo.ptr a] at c;simpa using c
def PA.Lw(h:PA w D g d hd s)(a:0<s.semas.length):w.cell? ⟨g,15,O⟩=Z (Y (Z ⟨hd.se.b,0,O⟩) s.semas.length hd.se.c):=by
 have c:=h.cell 15;simp only[CR,h.se.ptr a] at c;simpa using c
def PA.Ku(h:PA w D g d hd s)(a:0<s.events.length):w.cell? ⟨g,16,O⟩=Z (Y (Z ⟨hd.ev.b,0,O⟩) s.events.length hd.ev.c):=by
 have c:=h.cell 16;simp only[CR,h.ev.ptr a] at c;simpa using c
def PA.YU(h:PA w D g d hd s)(a:0<s.mem.length):w.cell? ⟨g,19,O⟩=Z (Y (Z ⟨hd.me.b,0,O⟩) s.mem.length hd.me.c):=by
 have c:=h.cell 19;simp only[CR,h.me.ptr a] at c;simpa using c
def PA.Ke(h:PA w D g d hd s):∀ b∈Mut g hd,b<w.heap.size:=by
 intro b a;simp only[Mut,cD,cJ,or_false] at a;rcases a with rfl|rfl|rfl|rfl|rfl|rfl|rfl|rfl|rfl
 ·exact h.lt
 ·exact h.pr.lt
 ·exact h.sa.lt
 ·exact h.qu.lt
 ·exact h.bu.lt
 ·exact h.bo.lt
 ·exact h.se.lt
 ·exact h.ev.lt
 ·exact h.me.lt
def JB(w:a2)(a g:Nat)(kind:Int)(k:Nat)(b:Int)(c:a1)(i:Nat)(now:Int):Prop:=
 w.heap[a]? =Z (T #[G (Z ⟨g,0,O⟩),I U kind,I J k,I J b,c,I J i,I J now] 154 (0,0))
def JB.below{a:Nat}{kind:Int}{k:Nat}{b:Int}{c:a1}{i:Nat}{now:Int}(h:JB w a g kind k b c i now)(e:Bl w w'):JB w' a g kind k b c i now:=(e.block _ (Aa h)).trans h
def JB.BG{a:Nat}{kind:Int}{k:Nat}{b:Int}{c:a1}{i:Nat}{now:Int}{M:List Nat}(h:JB w a g kind k b c i now)(f:Upd M w w')(e:a∉M):JB w' a g kind k b c i now:=(f.block _ (Aa h) e).trans h
def JB.cells{a:Nat}{kind:Int}{k:Nat}{b:Int}{c:a1}{i:Nat}{now:Int}(h:JB w a g kind k b c i now):
  w.cell? ⟨a,0,O⟩=Z (G (Z ⟨g,0,O⟩))∧w.cell? ⟨a,1,O⟩=Z (I U kind)∧w.cell? ⟨a,2,O⟩=Z (I J k)∧w.cell? ⟨a,3,O⟩=Z (I J b)∧w.cell? ⟨a,4,O⟩=Z c∧w.cell? ⟨a,5,O⟩=Z (I J i)∧w.cell? ⟨a,6,O⟩=Z (I J now):=
 ⟨Cr h,Cr h,Cr h,Cr h,Cr h,Cr h,Cr h⟩
end
def AL(g:Nat)(h:Hd):List Nat:=[g,h.Bs.b,h.Bt.b,h.AB.b,h.Ay.b,h.pr.b,h.sa.b,h.qu.b,h.bu.b,h.bo.b,h.se.b,h.ev.b,h.me.b]
section
variable {w w':a2} {D D':Nat→Prop} {g:Nat} {d:Ad} {hd:Hd} {s:Ae}
def PA.Ei(h:PA w D g d hd s)(c:KeepD D w w')(a:∀ b∈AL g hd,w'.heap[b]? =w.heap[b]?):PA w' D g d hd s:=
 ⟨(a g (by simp[AL])).trans h.blk,h.nd,h.Bs.Ag C8 c fun _=>a _ (by simp[AL]),h.Bt.Ag C8 c fun _=>a _ (by simp[AL]),h.AB.Ag Fc c fun _=>a _ (by simp[AL]),h.Ay.Ag Fb c fun _=>a _ (by simp[AL]),
  h.pr.Ag Fw c fun _=>a _ (by simp[AL]),h.sa.Ag FT c fun _=>a _ (by simp[AL]),h.qu.Ag F0 c fun _=>a _ (by simp[AL]),h.bu.Ag Fu c fun _=>a _ (by simp[AL]),h.bo.Ag Ft c fun _=>a _ (by simp[AL]),h.se.Ag F4 c fun _=>a _ (by simp[AL]),h.ev.Ag Fv c fun _=>a _ (by simp[AL]),h.me.Ag ED c fun _=>a _ (by simp[AL])⟩
def PA.K8(h:PA w D g d hd s):∀ b∈AL g hd,b<w.heap.size:=fun b a=>by
 simp only[AL,cD,cJ,or_false] at a;rcases a with rfl|rfl|rfl|rfl|rfl|rfl|rfl|rfl|rfl|rfl|rfl|rfl|rfl
 ·exact h.lt
 ·exact h.Bs.lt
 ·exact h.Bt.lt
 ·exact h.AB.lt
 ·exact h.Ay.lt
 ·exact h.pr.lt
 ·exact h.sa.lt
 ·exact h.qu.lt
 ·exact h.bu.lt
 ·exact h.bo.lt
 ·exact h.se.lt
 ·exact h.ev.lt
 ·exact h.me.lt
def GQ:∀ b∈Mut g hd,b∈AL g hd:=fun b a=>by
 simp only[Mut,cD,cJ,or_false] at a;rcases a with rfl|rfl|rfl|rfl|rfl|rfl|rfl|rfl|rfl<;>simp[AL]
def PA.agree(h:PA w D g d hd s){n:Nat}(j:n≤w.heap.size)(i:w.heap.size≤w'.heap.size)(e:∀ b,D b→b<n)(c:∀ b∈AL g hd,b<n)(a:∀ b,b<n→w'.heap[b]? =w.heap[b]?):PA w' D g d hd s:=
 h.Ei ⟨i,fun b hd _=>a b (e b hd)⟩ fun b f=>a b (c b f)
def KU{B sz n:Nat}{v:a1}{q:List a1}(h:Sl w B sz v n q)(hd:Ct D v)(l:∀ b,b<w.heap.size→D b→D' b):Ct D' v:=fun a m c p e=>by
 obtain⟨r,cap,f,_,_,_,k⟩:=h;subst p;simp only[bY] at f;obtain⟨rfl,rfl,rfl⟩:=f;obtain⟨b,o,i,_,j,_⟩:=k e;cases i;exact l _ j (hd _ _ _ rfl e)
def Bm.swap{v:a1}{l:List Wt}(h:Bm w D v l)(a:∀ b,b<w.heap.size→D b→D' b):Bm w D' v l:=⟨h.1,KU h.1 h.2 a⟩
def A4.swap{v:a1}{l:List Int}(h:A4 w D v l)(a:∀ b,b<w.heap.size→D b→D' b):A4 w D' v l:=⟨h.1,KU h.1 h.2 a⟩
def Gc.swap{v:a1}{l:List Ai}(h:Gc w D v l)(a:∀ b,b<w.heap.size→D b→D' b):Gc w D' v l:=⟨h.1,KU h.1 h.2 a⟩
def BS.swap{v:a1}{q:List (List Int)}(h:BS w D v q)(c:∀ b,b<w.heap.size→D b→D' b):BS w D' v q:=by
 obtain⟨vs,a,e,f⟩:=h;exact⟨vs,a,KU a e c,fun i u x j k=>(f i u x j k).swap c⟩
def Am.swap{b sz c:Nat}{t:cx}{a:Option df}{α:Type}{El:a2→(Nat→Prop)→Nat→Nat→α→Prop}{l:List α}(h:Am w D b t sz a c El l)(i:∀ b,b<w.heap.size→D' b→D b)(e:∀ b o x,El w D b o x→El w D' b o x):Am w D' b t sz a c El l:=
 ⟨h.cap,h.nil,h.ptr,fun hd=>h.nd (i _ h.lt hd),h.lt,h.blk,fun k f=>e _ _ _ (h.el k f)⟩
def PA.swap(h:PA w D g d hd s)(l:∀ b,b<w.heap.size→(D b↔D' b)):PA w D' g d hd s:=
 have i:∀ b,b<w.heap.size→D b→D' b:=fun b j=>(l b j).1;have a:∀ b,b<w.heap.size→D' b→D b:=fun b j=>(l b j).2
 ⟨h.blk,fun hd=>h.nd (a _ h.lt hd),h.Bs.swap a fun _ _ _ e=>e,h.Bt.swap a fun _ _ _ e=>e,h.AB.swap a fun _ _ _ e=>e,h.Ay.swap a fun _ _ _ ⟨nm,v,c,f⟩=>⟨nm,v,c,f.swap i⟩,
  h.pr.swap a fun _ _ _ e=>e,h.sa.swap a fun _ _ _ ⟨v,c,f⟩=>⟨v,c,f.swap i⟩,h.qu.swap a fun _ _ _ ⟨v,u,c,f,k⟩=>⟨v,u,c,f.swap i,k.swap i⟩,h.bu.swap a fun _ _ _ ⟨v,p,q,c,f,k,m⟩=>⟨v,p,q,c,f.swap i,k.swap i,m.swap i⟩,
  h.bo.swap a fun _ _ _ ⟨v,c,f⟩=>⟨v,c,f.swap i⟩,h.se.swap a fun _ _ _ ⟨v,c,f⟩=>⟨v,c,f.swap i⟩,h.ev.swap a fun _ _ _ ⟨v,c,f⟩=>⟨v,c,f.swap i⟩,h.me.swap a fun _ _ _ e=>e⟩
def PA.cut(h:PA w D g d hd s):PA w (fun b=>D b∧b<w.heap.size) g d hd s:=h.swap fun b a=>by simp[a]
def PA.more(h:PA w D g d hd s):PA w (fun b=>D b∨w.heap.size≤b) g d hd s:=h.swap fun b a=>by
 have:¬w.heap.size≤b:=by omega
 simp[this]
end
def Hn(l:List CG):List a1:=l.flatMap fun x=> [I J x.proc,I U x.fault,I J x.code]
def RU(l:List CG)(x:CG):Hn (l++ [x])=Hn l++ [I J x.proc,I U x.fault,I J x.code]:=by simp[Hn]
def Ve:(prog.info? 76).map (fun i=>(i.zero,i.size,i.bytes))=Z (Z (.agg #[I J 0,I U 0,I J 0]),3,24):=by kernel_rfl
def BF(w:a2)(B:Nat)(v:a1)(l:List CG):Prop:=w.ownsRow B 76 3 v l.length (Hn l)
def BF.nil(w:a2)(B:Nat):BF w B (Y O 0 0) []:=⟨by simp[Hn],.inl ⟨rfl,rfl⟩⟩
def BF.snoc{W:a2}{B q:Nat}{v:a1}{l:List CG}{x:CG}(h:BF W B v l)(k:B≤W.heap.size)(y:l.length≤1000)(m:W.heap[q]? =Z (T #[I J x.proc,I U x.fault,I J x.code] 76 (0,0)))(e:cx):
  ∃ a c w',(Builtin.append_ #[41,41] e #[v,Y (Z ⟨q,0,O⟩) 1 1]).run prog W=.ok (Y a (l.length+1) c) w'∧BF w' B (Y a (l.length+1) c) (l++ [x])∧W.grownBy w' v.ownBlock:=by
 obtain⟨t,n,p,r,s⟩:=info_parts Ve;have o:∀ j u,([I J x.proc,I U x.fault,I J x.code]:List a1)[j]? =Z u→W.cell? ((⟨q,0,O⟩:df).add j)=Z u:=by
  intro j u b;rw[Cu,cY W _ _ _ _ _ m]
  match j,b with
  |0,b=>simpa using b
  |1,b=>simpa using b
  |2,b=>simpa using b
 obtain⟨w,w',f,d,i,_,_⟩:=run_append_own_at (P:=prog) W B 41 e 76 t (.agg #[I J 0,I U 0,I J 0]) 3 24 underlying41 n p r s rfl (by decide) v l.length (Hn l) h ⟨q,0,O⟩ 1 1 [I J x.proc,I U x.fault,I J x.code] rfl o (by
  intro u b;simp at b;rcases b with rfl|rfl|rfl<;>rfl) (by unfold maxLen;omega) (by omega) k
 have g:BF w' B w (l++ [x]):=by
  unfold BF;rw[List.length_append,RU];exact d
 obtain⟨a,c,rfl⟩:=Bq d;exact⟨a,c,w',f,g,i⟩
def BF.low{w:a2}{B b:Nat}{v:a1}{l:List CG}(h:BF w B v l)(a:v.ownBlock=Z b):B≤b:=by
 rcases h.2 with ⟨rfl,_⟩|⟨q,cap,cur,rfl,c,_⟩
 ·cases a
 ·injection a with a;show B≤b;rw[←a];exact c
def BF.Ag{w w':a2}{B:Nat}{v:a1}{l:List CG}(h:BF w B v l)(e:∀ b,B≤b→b<w.heap.size→w'.heap[b]? =w.heap[b]?):BF w' B v l:=by
 refine⟨h.1,?_⟩;rcases h.2 with d|⟨q,cap,cur,g,a,c,f⟩
 ·exact .inl d
 ·exact .inr ⟨q,cap,cur,g,a,(e q a (Aa c)).trans c,f⟩
def BF.shape{w:a2}{B:Nat}{v:a1}{l:List CG}(h:BF w B v l):∃ a c,v=Y a l.length c:=Bq h
def getD_at{α:Type}[Inhabited α](l:List α)(k:Nat)(a:k<l.length):l.getD k default=l[k]:=by
 rw[cF,ca a];rfl
def PA.Ys{w:a2}{D:Nat→Prop}{g:Nat}{d:Ad}{a:Hd}{s:Ae}{i:Nat}(h:PA w D g d a s)(c:i<s.procs.length)(t:Int):
  PA ((((w.setCell ⟨a.pr.b,i*12,O⟩ (I U 2)).setCell ⟨a.pr.b,i*12+7,O⟩ (I J t)).setCell ⟨a.pr.b,i*12+10,O⟩ (I U 0)).setCell ⟨a.pr.b,i*12+11,O⟩ (I J 0)) D g d a (En i t s)∧
  Upd (Mut g a) w ((((w.setCell ⟨a.pr.b,i*12,O⟩ (I U 2)).setCell ⟨a.pr.b,i*12+7,O⟩ (I J t)).setCell ⟨a.pr.b,i*12+10,O⟩ (I U 0)).setCell ⟨a.pr.b,i*12+11,O⟩ (I J 0)):=by
 obtain⟨k,l,r2,r3,j,e⟩:=h.pr.el i c;rw[En,getD_at _ _ c];exact h.FY c [(0,I U 2),(7,I J t),(10,I U 0),(11,I J 0)] rfl e (x:=readyR t s.procs[i]) fun w' f _=>⟨k,l,r2,r3,j,f⟩
def Qk(w:a2)(D:Nat→Prop)(g:Nat)(d:Ad)(a:Hd)(s:Ae)(i:Nat)(t:Int)(h:PA w D g d a s)(b:i<s.procs.length)(v:s.procs.length≤6):
  cm prog 71 #[G (Z ⟨g,0,O⟩),I J i,I J t] w fun e w'=>e=.returned (.tuple #[])∧PA w' D g d a (En i t s)∧Upd (Mut g a) w w':=by
 have r:=h.FC (by omega);obtain⟨y,z,r2,r3,c,A,f,j,k,l,m,n,E,p,q,B,C⟩:=h.Jl b;have f0:=h.pr.frozen (by omega) (i*12);have f1:=h.pr.frozen (by omega) (i*12+7);have f2:=h.pr.frozen (by omega) (i*12+10);have f3:=h.pr.frozen (by omega) (i*12+11);have u:=h.pr.cap;have x:(i:Int)<(s.procs.length:Int):=by omega
 have H:=HH h;clear h c f j k l m n p q;go_enter func71,ntmps71;go_wp2_with fail
 go_end0
 exact⟨rfl,H.o.Ys b t⟩
def Jm(w:a2)(D:Nat→Prop)(g:Nat)(d:Ad)(j:Hd)(s:Ae)(kind:Int)(k:Nat)(b:Int)(data:List Int)(c:Nat)(z:a1)(i:Nat)(now:Int)(h:PA w D g d j s)(ok:Ah d s)(a:JB w c g kind k b z i now)(n:∀ q,w.heap.size≤q→D q)(l:i<d.procs.length):
  cm prog 116 #[G (Z ⟨c,0,O⟩)] w fun e w'=>e=.returned (I J (d.procs.getD i default).prio)∧Bl w w':=by
 obtain⟨u,H,L,M,N,x,P⟩:=a.cells;have m:c<w.heap.size:=Aa a;have t:0<d.procs.length:=by omega
 have y:=h.GW t;have r:=h.lt;have V:=qC y r;have C:=h.Ay.cap;have p:=h.Ay.lt;obtain⟨nm,v,f,_⟩:=h.Ay.el i l;have A:w.cell? ⟨j.Ay.b,i*5+1,O⟩=Z (I J d.procs[i].prio):=f 1 _ rfl;have E:(i:Int)<(d.procs.length:Int):=by omega
 rw[getD_at _ _ l];have Q:=qC u m;have R:=qC x m;have S:=qC A p;have B:=HH h;clear h a f n ok;go_enter func116,ntmps116;go_upto_region 1 with (fail);refine BQ 16 [] trivial ?_
 iterate 16 (refine AK rfl ?_;intro K hK;go_big_quiet_op;go_big_quiet_on)
 refine BN ?_;intro W o F;simp only[cE,cN,cQ];go_wp2_with fail;go_ret;exact⟨rfl,o⟩
def Ho:EG 116:=fun _ _=>by kernel_rfl
def TI:EG 118:=fun _ _=>by kernel_rfl
def Wn(w:a2)(D:Nat→Prop)(g:Nat)(d:Ad)(j:Hd)(s:Ae)(kind:Int)(k:Nat)(b:Int)(data:List Int)(n:Nat)(vd:a1)(i:Nat)(now:Int)(h:PA w D g d j s)(ok:Ah d s)(B:JB w n g kind k b vd i now)(M:∀ q,w.heap.size≤q→D q)(r:k<s.semas.length)(hi:i<d.procs.length):
  cm prog 79 #[G (Z ⟨n,0,O⟩)] w fun e w'=>e=.returned (.bool (J4 d i (⟨kind,k,b,data⟩:Ac) s).2)∧PA w' D g d j (J4 d i (⟨kind,k,b,data⟩:Ac) s).1∧Upd (Mut g j) w w':=by
 obtain⟨j0,j1,j2,j3,j4,j5,j6⟩:=B.cells;have P:n<w.heap.size:=Aa B;have af:0<s.semas.length:=by omega
 have an:=h.Lw af;have aI:=h.lt;have aX:=qC an aI;have aS:=h.se.cap;have ac:=h.se.lt;have h6:=ok.ok.procs;generalize Q:(d.procs.getD i default).prio=p;have az:Hq (∀ W,Bl w W→cm prog 116 #[G (Z ⟨n,0,O⟩)] W fun e w'=>e=.returned (I J p)∧Bl W w'):=fun W a=>by
  have:=Jm W D g d j s kind k b data n vd i now (h.below a) ok (B.below a) (fun q R=>M q (cL a.size R)) hi;rwa [Q] at this
 obtain⟨v,hc,S⟩:=h.se.el k r;obtain⟨y0,y1⟩:=cc2 hc;have aY:=qC y0 ac;have aZ:=qC y1 ac;obtain⟨F,L,rfl,_,_,_⟩:=S.1.open_;have aa:=(ok.se _ (bZ r));obtain⟨m,l',o,l,X⟩:∃ m l' o l,Eb s.semas[k].count s.semas[k].wait i p=(m,l',o,l):=⟨_,_,_,_,rfl⟩;have HC:Hq (∀ W,Bl w W→cm prog 118 #[.agg #[I J s.semas[k].count,.slice F s.semas[k].wait.length L],I J i,I J p] W (IK W (I J m) l' (.bool o) (I J l))):=fun W a=>by
  have:=Z2 s.semas[k].count i p (.slice F s.semas[k].wait.length L) s.semas[k].wait W (S.1.below a) (aa.wf h6) (by have:=aa.len;omega);rwa [X] at this
 have HE:Hq (J4 d i (⟨kind,k,b,data⟩:Ac) s=({s with semas:=s.semas.set k ⟨m,l'⟩},o)):=by
  show J4 d i (⟨kind,k,b,data⟩:Ac) s=_;simp only[J4,Ia,prioA,ch,getD_at _ _ r,Q,X]
 clear X S aa;have aT:(k:Int)<(s.semas.length:Int):=by omega
 obtain⟨H,ay⟩:=H2 h M;have aU:=qC j0 P;have aV:=qC j2 P;have aW:=qC j5 P;clear h B M ok hc Q j0 j1 j2 j3 j4 j5 j6 an y0 y1;go_enter func79,ntmps79;go_upto_region 1 with (fail);refine AS 42 [40] [37,38,41] [(33,fun v _=>v=I J p),(34,fun v w'=>∃ c c2,v=.tuple #[.agg #[I J m,Y c l'.length c2],.bool o,I J l]∧Aq w' w.heap.size (Y c l'.length c2) l')] ⟨Ch,(fun v w1 w2 ⟨c,c2,e,h⟩ a=>⟨c,c2,e,h.below a⟩),trivial⟩ ?_
 iterate 33 (refine An rfl rfl rfl ?_;intro K hK;go_big_quiet_op;go_big_quiet_on)
 refine A9 rfl rfl (fun w' a hA=>?_) ?_
 ·refine AD (f:=116) (al:=[G (Z ⟨n,0,O⟩)]) rfl rfl rfl Ho ?_;exact(az.o w' a).mono fun e w2 h=>⟨_,h.1,h.2,rfl⟩
 intro v w' a V;obtain rfl:=V;clear a w';simp only[Au,a6,bX,bO];refine A9 rfl rfl (fun w' a hA=>?_) ?_
 ·refine AD (f:=118) (al:=[.agg #[I J s.semas[k].count,.slice F s.semas[k].wait.length L],I J i,I J p]) rfl rfl rfl TI ?_;exact(HC.o w' a).mono fun e w2 h=>by
   obtain⟨u,he,hf,aD⟩:=h;obtain⟨c,c2,hu⟩:=Bc hf;subst hu;exact⟨_,he,aD,_,_,rfl,hf.mono a.size⟩
 intro v w' a V;obtain⟨c,c2,rfl,aG⟩:=V;clear a aG w';simp only[Au,a6,bX,bO]
 iterate 2 (refine An rfl rfl rfl ?_;intro K hK;go_big_quiet_op;go_big_quiet_on)
 iterate 2 (refine Bi rfl rfl rfl ?_;intro K hK;go_big_quiet_op;go_big_quiet_on)
 iterate 1 (refine An rfl rfl rfl ?_;intro K hK;go_big_quiet_op;go_big_quiet_on)
 refine AH rfl ?_
 iterate 1 (refine Bi rfl rfl rfl ?_;intro K hK;go_big_quiet_op;go_big_quiet_on)
 refine AR ?_;intro t N ai;have z:=H.o.below N;have ah:=ai 34 _ (by decide) rfl;have C:∀ o,t.frozen? ⟨j.se.b,o,O⟩=false:=z.se.frozen af;obtain⟨v9,A,_⟩:=z.se.el k r;have z0:t.cell? ⟨j.se.b,k*2,O⟩=Z _:=A 0 _ rfl;have f0:=C (k*2);have z1:t.cell? ⟨j.se.b,k*2+1,O⟩=Z _:=A 1 _ rfl;have f1:=C (k*2+1);obtain⟨H9,ax,au⟩:=H3 z A N;have aA:Hq (∃ E c3,cU #[.agg #[I J m,Y c l'.length c2],.bool o,I J l]=.tuple #[.agg #[I J m,Y E l'.length c3],.bool o,I J l]∧Aq t w.heap.size (Y E l'.length c3) l'):=ah;clear z A N ah ai C;refine AI (w':=((t.setCell ⟨j.se.b,k*2,O⟩ (I J m)).setCell ⟨j.se.b,k*2+1,O⟩ (Y c l'.length c2))) (by simp[execOp,go_sem,z0,f0,z1,f1]) ?_;unfold A7;go_wp2_with fail;go_ret;refine⟨A8 (by rw[HE.o]),?_⟩;have hp:=H9.o.Nl r [(0,I J m),(1,Y c l'.length c2)] rfl ax.o (x:=⟨m,l'⟩) fun w' aE aK=>⟨_,aE,by
   obtain⟨E,c3,y,aH⟩:=aA.o;injection y with y;simp only[cz,cu,ct,bY,true_and,and_true] at y;obtain⟨rfl,rfl⟩:=y;exact(Al.CZ aH.1 fun q R _=>ay.o q R).Ag aK⟩
 rw[HE.o];exact⟨hp.1,(Upd.below au.o).trans hp.2⟩
def TF:EG 122:=fun _ _=>by kernel_rfl
def Wm(w:a2)(D:Nat→Prop)(g:Nat)(d:Ad)(j:Hd)(s:Ae)(kind:Int)(k:Nat)(b:Int)(data:List Int)(m:Nat)(vd:a1)(i:Nat)(now:Int)(h:PA w D g d j s)(ok:Ah d s)(A:JB w m g kind k b vd i now)(L:∀ q,w.heap.size≤q→D q)(p:k<s.events.length)(hi:i<d.procs.length):
  cm prog 83 #[G (Z ⟨m,0,O⟩)] w fun e w'=>e=.returned (.bool (J2 d i (⟨kind,k,b,data⟩:Ac) s).2)∧PA w' D g d j (J2 d i (⟨kind,k,b,data⟩:Ac) s).1∧Upd (Mut g j) w w':=by
 obtain⟨j0,j1,j2,j3,j4,j5,j6⟩:=A.cells;have N:m<w.heap.size:=Aa A;have ae:0<s.events.length:=by omega
 have am:=h.Ku ae;have aH:=h.lt;have aW:=qC am aH;have aR:=h.ev.cap;have ab:=h.ev.lt;have h6:=ok.ok.procs;generalize P:(d.procs.getD i default).prio=n;have ay:Hq (∀ W,Bl w W→cm prog 116 #[G (Z ⟨m,0,O⟩)] W fun e w'=>e=.returned (I J n)∧Bl W w'):=fun W a=>by
  have:=Jm W D g d j s kind k b data m vd i now (h.below a) ok (A.below a) (fun q Q=>L q (cL a.size Q)) hi;rwa [P] at this
 obtain⟨v,hc,R⟩:=h.ev.el k p;obtain⟨y0,y1⟩:=cc2 hc;have aX:=qC y0 ab;have aY:=qC y1 ab;obtain⟨E,F,rfl,_,_,_⟩:=R.1.open_;have X:=(ok.ev _ (bZ p));obtain⟨l',o,l,V⟩:∃ l' o l,Es s.events[k].up s.events[k].wait i n=(l',o,l):=⟨_,_,_,rfl⟩;have HC:Hq (∀ W,Bl w W→cm prog 122 #[.agg #[.bool s.events[k].up,.slice E s.events[k].wait.length F],I J i,I J n] W (IK W (.bool s.events[k].up) l' (.bool o) (I J l))):=fun W a=>by
  have:=Zf s.events[k].up i n (.slice E s.events[k].wait.length F) s.events[k].wait W (R.1.below a) (X.wf h6) (by have:=X.len;omega);rwa [V] at this
 have HE:Hq (J2 d i (⟨kind,k,b,data⟩:Ac) s=({s with events:=s.events.set k ⟨s.events[k].up,l'⟩},o)):=by
  show J2 d i (⟨kind,k,b,data⟩:Ac) s=_;simp only[J2,EW,prioA,ch,getD_at _ _ p,P,V]
 clear V R X;have aS:(k:Int)<(s.events.length:Int):=by omega
 obtain⟨H,ax⟩:=H2 h L;have aT:=qC j0 N;have aU:=qC j2 N;have aV:=qC j5 N;clear h A L ok hc P j0 j1 j2 j3 j4 j5 j6 am y0 y1;go_enter func83,ntmps83;go_upto_region 1 with (fail);refine AS 42 [40] [37,38,41] [(33,fun v _=>v=I J n),(34,fun v w'=>∃ c c2,v=.tuple #[.agg #[.bool s.events[k].up,Y c l'.length c2],.bool o,I J l]∧Aq w' w.heap.size (Y c l'.length c2) l')] ⟨Ch,(fun v w1 w2 ⟨c,c2,e,h⟩ a=>⟨c,c2,e,h.below a⟩),trivial⟩ ?_
 iterate 33 (refine An rfl rfl rfl ?_;intro K hK;go_big_quiet_op;go_big_quiet_on)
 refine A9 rfl rfl (fun w' a hA=>?_) ?_
 ·refine AD (f:=116) (al:=[G (Z ⟨m,0,O⟩)]) rfl rfl rfl Ho ?_;exact(ay.o w' a).mono fun e w2 h=>⟨_,h.1,h.2,rfl⟩
 intro v w' a S;obtain rfl:=S;clear a w';simp only[Au,a6,bX,bO];refine A9 rfl rfl (fun w' a hA=>?_) ?_
 ·refine AD (f:=122) (al:=[.agg #[.bool s.events[k].up,.slice E s.events[k].wait.length F],I J i,I J n]) rfl rfl rfl TF ?_;exact(HC.o w' a).mono fun e w2 h=>by
   obtain⟨u,he,hf,aC⟩:=h;obtain⟨c,c2,hu⟩:=Bc hf;subst hu;exact⟨_,he,aC,_,_,rfl,hf.mono a.size⟩
 intro v w' a S;obtain⟨c,c2,rfl,aF⟩:=S;clear a aF w';simp only[Au,a6,bX,bO]
 iterate 2 (refine An rfl rfl rfl ?_;intro K hK;go_big_quiet_op;go_big_quiet_on)
 iterate 2 (refine Bi rfl rfl rfl ?_;intro K hK;go_big_quiet_op;go_big_quiet_on)
 iterate 1 (refine An rfl rfl rfl ?_;intro K hK;go_big_quiet_op;go_big_quiet_on)
 refine AH rfl ?_
 iterate 1 (refine Bi rfl rfl rfl ?_;intro K hK;go_big_quiet_op;go_big_quiet_on)
 refine AR ?_;intro r M ah;have y:=H.o.below M;have ag:=ah 34 _ (by decide) rfl;have B:∀ o,r.frozen? ⟨j.ev.b,o,O⟩=false:=y.ev.frozen ae;obtain⟨v9,z,_⟩:=y.ev.el k p;have z0:r.cell? ⟨j.ev.b,k*2,O⟩=Z _:=z 0 _ rfl;have f0:=B (k*2);have z1:r.cell? ⟨j.ev.b,k*2+1,O⟩=Z _:=z 1 _ rfl;have f1:=B (k*2+1);obtain⟨H9,aw,ar⟩:=H3 y z M;have az:Hq (∃ C c3,cU #[.agg #[.bool s.events[k].up,Y c l'.length c2],.bool o,I J l]=.tuple #[.agg #[.bool s.events[k].up,Y C l'.length c3],.bool o,I J l]∧Aq r w.heap.size (Y C l'.length c3) l'):=ag;clear y z M ag ah B;refine AI (w':=((r.setCell ⟨j.ev.b,k*2,O⟩ (.bool s.events[k].up)).setCell ⟨j.ev.b,k*2+1,O⟩ (Y c l'.length c2))) (by simp[execOp,go_sem,z0,f0,z1,f1]) ?_;unfold A7;go_wp2_with fail;go_ret;refine⟨A8 (by rw[HE.o]),?_⟩;have hp:=H9.o.Ls p [(0,.bool s.events[k].up),(1,Y c l'.length c2)] rfl aw.o (x:=⟨s.events[k].up,l'⟩) fun w' aD aJ=>⟨_,aD,by
   obtain⟨C,c3,t,aG⟩:=az.o;injection t with t;simp only[cz,cu,ct,bY,true_and,and_true] at t;obtain⟨rfl,rfl⟩:=t;exact(Al.CZ aG.1 fun q Q _=>ax.o q Q).Ag aJ⟩
 rw[HE.o];exact⟨hp.1,(Upd.below ar.o).trans hp.2⟩
def Tw:EG 121:=fun _ _=>by kernel_rfl
def Wb(w:a2)(D:Nat→Prop)(g:Nat)(d:Ad)(j:Hd)(s:Ae)(kind:Int)(k:Nat)(b:Int)(data:List Int)(N:Nat)(vd:a1)(i:Nat)(now:Int)(h:PA w D g d j s)(ok:Ah d s)(E:JB w N g kind k b vd i now)(P:∀ q,w.heap.size≤q→D q)(m:k<s.events.length)(hi:i<d.procs.length):
  cm prog 82 #[G (Z ⟨N,0,O⟩)] w fun e w'=>e=.returned (.bool true)∧PA w' D g d j (Kc (⟨kind,k,b,data⟩:Ac) s)∧Upd (Mut g j) w w':=by
 obtain⟨j0,j1,j2,j3,j4,j5,j6⟩:=E.cells;have V:N<w.heap.size:=Aa E;have X:0<s.events.length:=by omega
 have af:=h.Ku X;have ay:=h.lt;have aS:=qC af ay;have aM:=h.ev.cap;have Q:=h.ev.lt;have h6:=ok.ok.procs;obtain⟨v,R,F⟩:=h.ev.el k m;obtain⟨y0,y1⟩:=cc2 R;have aT:=qC y0 Q;have aU:=qC y1 Q;obtain⟨A,B,rfl,_,_,_⟩:=F.1.open_;have M:=(ok.ev _ (bZ m));obtain⟨o,l,L⟩:∃ o l,Iz s.events[k].up s.events[k].wait=(o,l):=⟨_,_,rfl⟩;have HC:Hq (∀ W,Bl w W→cm prog 121 #[.agg #[.bool s.events[k].up,.slice A s.events[k].wait.length B]] W (NL W (.bool o) s.events[k].wait (I J l))):=fun W c=>by
  have:=Xk s.events[k].up (.slice A s.events[k].wait.length B) s.events[k].wait W (F.1.below c) (M.wf h6) (by have:=M.len;omega);rwa [L] at this
 have HE:Hq (Kc (⟨kind,k,b,data⟩:Ac) s={s with events:=s.events.set k ⟨o,s.events[k].wait⟩}):=by
  show Kc (⟨kind,k,b,data⟩:Ac) s=_;simp only[Kc,EW,ch,getD_at _ _ m,L]
 clear L F M;have aP:(k:Int)<(s.events.length:Int):=by omega
 obtain⟨H,am⟩:=H2 h P;have aQ:=qC j0 V;have aR:=qC j2 V;clear h E P ok R j0 j1 j2 j3 j4 j5 j6 af y0 y1;go_enter func82,ntmps82;go_upto_region 1 with (fail);refine AS 34 [33] [31] [(28,fun v w'=>∃ a c2,v=.tuple #[.agg #[.bool o,.slice a s.events[k].wait.length c2],I J l]∧Aq w' w.heap.size (.slice a s.events[k].wait.length c2) s.events[k].wait)] ⟨(fun v w1 w2 ⟨a,c2,e,h⟩ c=>⟨a,c2,e,h.below c⟩),trivial⟩ ?_
 iterate 28 (refine An rfl rfl rfl ?_;intro K hK;go_big_quiet_op;go_big_quiet_on)
 refine A9 rfl rfl (fun w' c hA=>?_) ?_
 ·refine AD (f:=121) (al:=[.agg #[.bool s.events[k].up,.slice A s.events[k].wait.length B]]) rfl rfl rfl Tw ?_;exact(HC.o w' c).mono fun e w2 h=>by
   obtain⟨u,he,S,aq⟩:=h;obtain⟨a,c2,hu⟩:=Bc S;subst hu;exact⟨_,he,aq,_,_,rfl,S.mono c.size⟩
 intro v w' c hv;obtain⟨a,c2,rfl,aw⟩:=hv;clear c aw w';simp only[Au,a6,bX,bO]
 iterate 2 (refine An rfl rfl rfl ?_;intro K hK;go_big_quiet_op;go_big_quiet_on)
 iterate 1 (refine Bi rfl rfl rfl ?_;intro K hK;go_big_quiet_op;go_big_quiet_on)
 iterate 1 (refine An rfl rfl rfl ?_;intro K hK;go_big_quiet_op;go_big_quiet_on)
 refine AH rfl ?_;refine AR ?_;intro n C ac;have r:=H.o.below C;have ab:=ac 28 _ (by decide) rfl;have y:∀ o,n.frozen? ⟨j.ev.b,o,O⟩=false:=r.ev.frozen X;obtain⟨v9,t,_⟩:=r.ev.el k m;have z0:n.cell? ⟨j.ev.b,k*2,O⟩=Z _:=t 0 _ rfl;have f0:=y (k*2);have z1:n.cell? ⟨j.ev.b,k*2+1,O⟩=Z _:=t 1 _ rfl;have f1:=y (k*2+1);obtain⟨H9,ak,ai⟩:=H3 r t C;have ao:Hq (∃ z c3,cU #[.agg #[.bool o,.slice a s.events[k].wait.length c2],I J l]=.tuple #[.agg #[.bool o,.slice z s.events[k].wait.length c3],I J l]∧Aq n w.heap.size (.slice z s.events[k].wait.length c3) s.events[k].wait):=ab;clear r t C ab ac y;refine AI (w':=((n.setCell ⟨j.ev.b,k*2,O⟩ (.bool o)).setCell ⟨j.ev.b,k*2+1,O⟩ (.slice a s.events[k].wait.length c2))) (by simp[execOp,go_sem,z0,f0,z1,f1]) ?_;unfold A7;go_wp2_with fail;go_ret;refine⟨rfl,?_⟩;have hp:=H9.o.Ls m [(0,.bool o),(1,.slice a s.events[k].wait.length c2)] rfl ak.o (x:=⟨o,s.events[k].wait⟩) fun w' ar az=>⟨_,ar,by
   obtain⟨z,c3,p,ax⟩:=ao.o;injection p with p;simp only[cz,cu,ct,bY,true_and,and_true] at p;obtain⟨rfl,rfl⟩:=p;exact(Al.CZ ax.1 fun q hq _=>am.o q hq).Ag az⟩
 rw[HE.o];exact⟨hp.1,(Upd.below ai.o).trans hp.2⟩
def Tk:EG 127:=fun _ _=>by kernel_rfl
def Wp(w:a2)(D:Nat→Prop)(g:Nat)(d:Ad)(a:Hd)(s:Ae)(kind:Int)(k:Nat)(b:Int)(data:List Int)(Q:Nat)(vd:a1)(i:Nat)(now:Int)(h:PA w D g d a s)(ok:Ah d s)(L:JB w Q g kind k b vd i now)(R:∀ q,w.heap.size≤q→D q)(p:k<s.boards.length)(hi:i<d.procs.length):
  cm prog 88 #[G (Z ⟨Q,0,O⟩)] w fun e w'=>e=.returned (.bool true)∧PA w' D g d a (Ky (⟨kind,k,b,data⟩:Ac) s)∧Upd (Mut g a) w w':=by
 obtain⟨j0,j1,j2,j3,j4,j5,j6⟩:=L.cells;have X:Q<w.heap.size:=Aa L;have aa:0<s.boards.length:=by omega
 have ag:=h.I7 aa;have aA:=h.lt;have aV:=qC ag aA;have aP:=h.bo.cap;have F:=h.bo.lt;have h6:=ok.ok.procs;obtain⟨v,S,M⟩:=h.bo.el k p;obtain⟨y0,y1,y2⟩:=EO S;have aW:=qC y0 F;have aX:=qC y1 F;have aY:=qC y2 F;obtain⟨B,C,rfl,_,_,_⟩:=M.1.open_;have P:=(ok.bo _ (bZ p));obtain⟨o,z,l,N⟩:∃ o z l,FN s.boards[k].has s.boards[k].val s.boards[k].wait=(o,z,l):=⟨_,_,_,rfl⟩;have HC:Hq (∀ W,Bl w W→cm prog 127 #[.agg #[.bool s.boards[k].has,I U s.boards[k].val,.slice B s.boards[k].wait.length C]] W (NG W o z s.boards[k].wait (I J l))):=fun W j=>by
  have:=RZ s.boards[k].has s.boards[k].val (.slice B s.boards[k].wait.length C) s.boards[k].wait W (M.1.below j) (P.wf h6) (by have:=P.len;omega);rwa [N] at this
 have HE:Hq (Ky (⟨kind,k,b,data⟩:Ac) s={s with boards:=s.boards.set k ⟨o,z,s.boards[k].wait⟩}):=by
  show Ky (⟨kind,k,b,data⟩:Ac) s=_;simp only[Ky,boA,ch,getD_at _ _ p,N]
 clear N M P;have aS:(k:Int)<(s.boards.length:Int):=by omega
 obtain⟨H,ao⟩:=H2 h R;have aT:=qC j0 X;have aU:=qC j2 X;clear h L R ok S j0 j1 j2 j3 j4 j5 j6 ag y0 y1 y2;go_enter func88,ntmps88;go_upto_region 1 with (fail);refine AS 34 [33] [31] [(28,fun v w'=>∃ c c2,v=.tuple #[.agg #[.bool o,I U z,.slice c s.boards[k].wait.length c2],I J l]∧Aq w' w.heap.size (.slice c s.boards[k].wait.length c2) s.boards[k].wait)] ⟨(fun v w1 w2 ⟨c,c2,e,h⟩ j=>⟨c,c2,e,h.below j⟩),trivial⟩ ?_
 iterate 28 (refine An rfl rfl rfl ?_;intro K hK;go_big_quiet_op;go_big_quiet_on)
 refine A9 rfl rfl (fun w' j hA=>?_) ?_
 ·refine AD (f:=127) (al:=[.agg #[.bool s.boards[k].has,I U s.boards[k].val,.slice B s.boards[k].wait.length C]]) rfl rfl rfl Tk ?_;exact(HC.o w' j).mono fun e w2 h=>by
   obtain⟨u,he,V,au⟩:=h;obtain⟨c,c2,hu⟩:=Bc V.fr;subst hu;exact⟨_,he,au,_,_,rfl,V.fr.mono j.size⟩
 intro v w' j hv;obtain⟨c,c2,rfl,ay⟩:=hv;clear j ay w';simp only[Au,a6,bX,bO]
 iterate 2 (refine An rfl rfl rfl ?_;intro K hK;go_big_quiet_op;go_big_quiet_on)
 iterate 1 (refine Bi rfl rfl rfl ?_;intro K hK;go_big_quiet_op;go_big_quiet_on)
 iterate 1 (refine An rfl rfl rfl ?_;intro K hK;go_big_quiet_op;go_big_quiet_on)
 refine AH rfl ?_;refine AR ?_;intro m E ad;have y:=H.o.below E;have ac:=ad 28 _ (by decide) rfl;have r:∀ o,m.frozen? ⟨a.bo.b,o,O⟩=false:=y.bo.frozen aa;obtain⟨v9,n,_⟩:=y.bo.el k p;have z0:m.cell? ⟨a.bo.b,k*3,O⟩=Z _:=n 0 _ rfl;have f0:=r (k*3);have z1:m.cell? ⟨a.bo.b,k*3+1,O⟩=Z _:=n 1 _ rfl;have f1:=r (k*3+1);have z2:m.cell? ⟨a.bo.b,k*3+2,O⟩=Z _:=n 2 _ rfl;have f2:=r (k*3+2);obtain⟨H9,an,ak⟩:=H3 y n E;have aq:Hq (∃ A c3,cU #[.agg #[.bool o,I U z,.slice c s.boards[k].wait.length c2],I J l]=.tuple #[.agg #[.bool o,I U z,.slice A s.boards[k].wait.length c3],I J l]∧Aq m w.heap.size (.slice A s.boards[k].wait.length c3) s.boards[k].wait):=ac;clear y n E ac ad r;refine AI (w':=(((m.setCell ⟨a.bo.b,k*3,O⟩ (.bool o)).setCell ⟨a.bo.b,k*3+1,O⟩ (I U z)).setCell ⟨a.bo.b,k*3+2,O⟩ (.slice c s.boards[k].wait.length c2))) (by simp[execOp,go_sem,z0,f0,z1,f1,z2,f2]) ?_;unfold A7;go_wp2_with fail;go_ret;refine⟨rfl,?_⟩;have hp:=H9.o.Kq p [(0,.bool o),(1,I U z),(2,.slice c s.boards[k].wait.length c2)] rfl an.o (x:=⟨o,z,s.boards[k].wait⟩) fun w' aw aB=>⟨_,aw,by
   obtain⟨A,c3,t,az⟩:=aq.o;injection t with t;simp only[cz,cu,ct,bY,true_and,and_true] at t;obtain⟨rfl,rfl⟩:=t;exact(Al.CZ az.1 fun q hq _=>ao.o q hq).Ag aB⟩
 rw[HE.o];exact⟨hp.1,(Upd.below ak.o).trans hp.2⟩
def K5(B:Nat)(w:a2):Prop:=∀ k,k<26→∃ a c,w.cell? ⟨2,k,O⟩=Z (Y a (opsOf (k:Int)).length c)∧(opsOf (k:Int)).length≤c∧(∀ p b d,Value.slice a (opsOf (k:Int)).length c=Y (Z p) b d→0<b→p.block<B)∧Af U w 0 (Y a (opsOf (k:Int)).length c) (opsOf (k:Int))
def BZ(k:Nat):Nat:=match k with
 |1=>256
 |2=>257
 |3=>250
 |4=>258
 |5=>259
 |6=>260
 |7=>261
 |8=>262
 |9=>263
 |10=>264
 |11=>265
 |12=>266
 |13=>267
 |14=>268
 |15=>269
 |16=>270
 |17=>271
 |18=>272
 |19=>273
 |20=>274
 |21=>275
 |22=>276
 |23=>277
 |24=>278
 |25=>279
 | _=>0
def LF(w:a2):Prop:=∀ k,1≤k→k<26→w.cell? ⟨1,k,O⟩=Z (.func (.func (BZ k)) #[] #[])
def LD(w:a2):Prop:=AN w 0 0 [I U 1,I J 0,I J 0,I U 0,I U 0,I U 0,I U 0,I J 0,I J (-1),I J (-1),I U 0,I J 0]
structure Gl(B:Nat)(w:a2):Prop where
 hb:16≤B
 hw:B≤w.heap.size
 ops:K5 B w
 ins:LF w
 BC:LD w
def Gl.Ag{B:Nat}{w w':a2}(h:Gl B w)(i:w.heap.size≤w'.heap.size)(d:∀ k,k<B→w'.heap[k]? =w.heap[k]?):Gl B w':=by
 have v:=h.hb;refine⟨h.hb,cL h.hw i,fun k o=>?_,fun k e f=>(Gh (d _ (by omega)) _).trans (h.ins k e f),fun j u r=>(Gh (d _ (by omega)) _).trans (h.BC j u r)⟩;obtain⟨a,c,e,f,g,m⟩:=h.ops k o;refine⟨a,c,(Gh (d _ (by omega)) _).trans e,f,g,?_⟩;refine I6 (D:=fun b=>b<B) m (fun p t l s q=>g p t l s q) ⟨i,fun b n _=>d b n⟩
def Gl.below{B:Nat}{w w':a2}(h:Gl B w)(a:Bl w w'):Gl B w':=h.Ag a.size fun k b=>a.block k (cG b h.hw)
def Gl.BG{B:Nat}{M:List Nat}{w w':a2}(h:Gl B w)(a:Upd M w w')(c:∀ b∈M,B≤b):Gl B w':=h.Ag a.size fun k d=>a.block k (cG d h.hw) (fun e=>by have:=c k e;omega)
def Dt(o x c:Int)(a b:Bool)(d:decide (Cp o≤x)=a)(e:decide (x≤De o x c)=b):Aw o x c=(a && b):=by rw[Aw,d,e]
def IV(o x a:Int)(w:a2)(d:1≤o)(f:o≤7)(g:0≤a)(h:a≤1000000):
  cm prog 180 #[I U o,I J x,I J a] w fun e w'=>e=.returned (.bool (Aw o x a))∧w=w':=by
 rcases(show o=1∨o=2∨o=3∨o=4∨o=5∨o=6∨o=7 by omega) with rfl|rfl|rfl|rfl|rfl|rfl|rfl
 ·by_cases c:1≤x
  ·by_cases b:x≤2000
   ·rw[Dt 1 x a true true (decide_eq_true (by simp[Cp];omega)) (decide_eq_true (by simp[De];omega))];go_enter func180,ntmps180;go_wp2_with fail;go_ret;exact⟨A8 (by first|rfl|simp),rfl⟩
   ·rw[Dt 1 x a true false (decide_eq_true (by simp[Cp];omega)) (decide_eq_false (by simp[De];omega))];go_enter func180,ntmps180;go_wp2_with fail;go_ret;exact⟨A8 (by first|rfl|simp),rfl⟩
  ·rw[Dt 1 x a false _ (decide_eq_false (by simp[Cp];omega)) rfl];go_enter func180,ntmps180;go_wp2_with fail;go_ret;exact⟨A8 (by first|rfl|simp),rfl⟩
 ·by_cases c:0≤x
  ·by_cases b:x≤3
   ·rw[Dt 2 x a true true (decide_eq_true (by simp[Cp];omega)) (decide_eq_true (by simp[De];omega))];go_enter func180,ntmps180;go_wp2_with fail;go_ret;exact⟨A8 (by first|rfl|simp),rfl⟩
   ·rw[Dt 2 x a true false (decide_eq_true (by simp[Cp];omega)) (decide_eq_false (by simp[De];omega))];go_enter func180,ntmps180;go_wp2_with fail;go_ret;exact⟨A8 (by first|rfl|simp),rfl⟩
  ·rw[Dt 2 x a false _ (decide_eq_false (by simp[Cp];omega)) rfl];go_enter func180,ntmps180;go_wp2_with fail;go_ret;exact⟨A8 (by first|rfl|simp),rfl⟩
 ·by_cases c:0≤x
  ·by_cases b:x≤255
   ·rw[Dt 3 x a true true (decide_eq_true (by simp[Cp];omega)) (decide_eq_true (by simp[De];omega))];go_enter func180,ntmps180;go_wp2_with fail;go_ret;exact⟨A8 (by first|rfl|simp),rfl⟩
   ·rw[Dt 3 x a true false (decide_eq_true (by simp[Cp];omega)) (decide_eq_false (by simp[De];omega))];go_enter func180,ntmps180;go_wp2_with fail;go_ret;exact⟨A8 (by first|rfl|simp),rfl⟩
  ·rw[Dt 3 x a false _ (decide_eq_false (by simp[Cp];omega)) rfl];go_enter func180,ntmps180;go_wp2_with fail;go_ret;exact⟨A8 (by first|rfl|simp),rfl⟩
 ·by_cases c:0≤x
  ·by_cases b:x≤4095
   ·rw[Dt 4 x a true true (decide_eq_true (by simp[Cp];omega)) (decide_eq_true (by simp[De];omega))];go_enter func180,ntmps180;go_wp2_with fail;go_ret;exact⟨A8 (by first|rfl|simp),rfl⟩
   ·rw[Dt 4 x a true false (decide_eq_true (by simp[Cp];omega)) (decide_eq_false (by simp[De];omega))];go_enter func180,ntmps180;go_wp2_with fail;go_ret;exact⟨A8 (by first|rfl|simp),rfl⟩
  ·rw[Dt 4 x a false _ (decide_eq_false (by simp[Cp];omega)) rfl];go_enter func180,ntmps180;go_wp2_with fail;go_ret;exact⟨A8 (by first|rfl|simp),rfl⟩
 ·by_cases c:1≤x
  ·by_cases b:x≤64
   ·rw[Dt 5 x a true true (decide_eq_true (by simp[Cp];omega)) (decide_eq_true (by simp[De];omega))];go_enter func180,ntmps180;go_wp2_with fail;go_ret;exact⟨A8 (by first|rfl|simp),rfl⟩
   ·rw[Dt 5 x a true false (decide_eq_true (by simp[Cp];omega)) (decide_eq_false (by simp[De];omega))];go_enter func180,ntmps180;go_wp2_with fail;go_ret;exact⟨A8 (by first|rfl|simp),rfl⟩
  ·rw[Dt 5 x a false _ (decide_eq_false (by simp[Cp];omega)) rfl];go_enter func180,ntmps180;go_wp2_with fail;go_ret;exact⟨A8 (by first|rfl|simp),rfl⟩
 ·by_cases c:0≤x
  ·by_cases b:x≤x
   ·rw[Dt 6 x a true true (decide_eq_true (by simp[Cp];omega)) (decide_eq_true (by simp[De]))];go_enter func180,ntmps180;go_wp2_with fail;go_ret;exact⟨A8 (by first|rfl|simp),rfl⟩
   ·exact absurd (c8 x) b
  ·rw[Dt 6 x a false _ (decide_eq_false (by simp[Cp];omega)) rfl];go_enter func180,ntmps180;go_wp2_with fail;go_ret;exact⟨A8 (by first|rfl|simp),rfl⟩
 ·by_cases c:0≤x
  ·by_cases b:x≤a-1
   ·rw[Dt 7 x a true true (decide_eq_true (by simp[Cp];omega)) (decide_eq_true (by simp[De];omega))];go_enter func180,ntmps180;go_wp2_with fail;go_ret;exact⟨A8 (by first|rfl|simp),rfl⟩
   ·rw[Dt 7 x a true false (decide_eq_true (by simp[Cp];omega)) (decide_eq_false (by simp[De];omega))];go_enter func180,ntmps180;go_wp2_with fail;go_ret;exact⟨A8 (by first|rfl|simp),rfl⟩
  ·rw[Dt 7 x a false _ (decide_eq_false (by simp[Cp];omega)) rfl];go_enter func180,ntmps180;go_wp2_with fail;go_ret;exact⟨A8 (by first|rfl|simp),rfl⟩
def XO(a:Int):∀ o∈opsOf a,1≤o∧o≤7:=by
 unfold opsOf;split<;>decide
def XN(a:Int):(opsOf a).length≤3:=by
 unfold opsOf;split<;>decide
def GR(x:Ai)(a:Int)(k:Nat):Prop:=∀ j,j<k→∀ o,(opsOf x.op)[j]? =Z o→Aw o (Dy x j) a=true
def Zk{x:Ai}{c:Int}(d:1≤x.op)(e:x.op≤25)(h:GR x c (opsOf x.op).length):Bb x c=true:=by
 simp only[Bb,cA,decide_eq_true_eq,ck];refine⟨⟨d,e⟩,fun p f=>?_⟩;obtain⟨_,a,b⟩:=List.mem_zipIdx f;simp only[cT,Nat.sub_zero] at a b;exact h p.2 a p.1 (by rw[b];exact ca a)
def QI{x:Ai}{b:Int}{k:Nat}{o:Int}(a:(opsOf x.op)[k]? =Z o)(h:Aw o (Dy x k) b=false):Bb x b=false:=by
 have c:=(cq.1 a).1;simp only[Bb,c0];right;rw[List.all_eq_false];refine⟨(o,k),?_,by simp[h]⟩;rw[List.mem_zipIdx_iff_getElem?];exact a
def Zn(x:Ai)(d:Int)(w:a2)(h:x.op<1∨25<x.op)(f:0≤x.op)(g:x.op≤255):
  cm prog 146 #[.agg #[I U x.op,I J x.a,I J x.b,I J x.c],I J d] w fun e w'=>e=.returned (.bool (Bb x d))∧Bl w w':=by
 rw[show Bb x d=false by
  simp only[Bb,c0,decide_eq_false_iff_not];left;omega]
 by_cases i:x.op<1
 ·go_enter func146,ntmps146;go_wp2_with fail;go_ret;exact⟨rfl,(cp _ w).alloc (bK _) _⟩
 ·have j:25<x.op:=by omega
  go_enter func146,ntmps146;go_wp2_with fail;go_ret;exact⟨rfl,(cp _ w).alloc (bK _) _⟩
def Zm(B k:Nat)(c d f:Int)(a:Int)(w:a2)(F:Gl B w)(h1:1≤k)(h2:k≤25)(u:0≤a)(x:a≤1000000):
  cm prog 146 #[.agg #[I U k,I J c,I J d,I J f],I J a] w fun e w'=>e=.returned (.bool (Bb ⟨k,c,d,f⟩ a))∧Bl w w':=by
 obtain⟨ao,co,hc,ay,C,Q⟩:=F.ops k (by omega);have aq:=F.hw;have an:=F.hb;have aw:=XN k;have K:Hq (GR ⟨k,c,d,f⟩ a (opsOf k).length→Bb ⟨k,c,d,f⟩ a=true):=fun h=>Zk (by simp;omega) (by simp;omega) h;have L:Hq (∀ i o,(opsOf k)[i]? =Z o→Aw o (Dy ⟨k,c,d,f⟩ i) a=false→Bb ⟨k,c,d,f⟩ a=false):=fun i o h h'=>QI h h'
 have X:Hq (GR ⟨k,c,d,f⟩ a 0):=fun j z=>absurd z (by omega);have aa:Hq (∀ i o,(opsOf k)[i]? =Z o→GR ⟨k,c,d,f⟩ a i→Aw o (Dy ⟨k,c,d,f⟩ i) a=true→GR ⟨k,c,d,f⟩ a (i+1)):=fun i o ho ht g j z o' D=>by
  by_cases e:j=i
  ·subst e;rw[show (opsOf (Ai.mk k c d f).op)[j]? =Z o from ho] at D;injection D with D;rw[←D];exact g
  ·exact ht j (by omega) o' D
 have az:(1:Int)≤(k:Int):=by omega
 have aA:(k:Int)≤25:=by omega
 have R:Hq (∀ j (z:j<(opsOf k).length),∃ b y,ao=Z ⟨b,y,O⟩∧b<w.heap.size∧w.cell? ⟨b,y+j,O⟩=Z (I U (opsOf k)[j])):=fun j z=>by
  obtain⟨a',c',P,_,_,hp⟩:=Q.open_;simp only[bY] at P;obtain⟨rfl,_,rfl⟩:=P;obtain⟨b,y,ha,_,M,af⟩:=hp (by omega);exact⟨b,y,ha,M,af j z⟩
 have S:=HH (XO k);generalize Bb ⟨k,c,d,f⟩ a=V at K L ⊢;clear C Q h1 F;generalize opsOf (k:Int)=l at*;have aB:(2:Nat)<w.heap.size:=by omega
 go_enter func146,ntmps146;go_wp2_with fail
 go_loop [28] (fun v=>∃ i:Nat,i≤l.length∧v=I J i∧Hq (GR ⟨k,c,d,f⟩ a i)) (fun v=>l.length-(db v).toNat)
 case atStart=>exact⟨0,cB _,rfl,X.o⟩
 case round=>
  obtain⟨i,hi,rfl,A⟩:=hrel;by_cases C:i<l.length
  ·obtain⟨b,y,rfl,M,N⟩:=R.o i C;have ai:=S.o l[i] (bZ C);have H:l[i]? =Z l[i]:=ca C;obtain⟨p,n⟩:=H2 (L.o i l[i] H) (aa.o i l[i] H A.o);have ax:(i:Int)<(l.length:Int):=by omega
   have au:(i:Int)<(co:Int):=by omega
   clear H;generalize l[i]=o at*;obtain⟨s,t⟩:=ai;rcases(show i=0∨i=1∨i=2 by omega) with rfl|rfl|rfl
   ·replace N:w.cell? ⟨b,y,O⟩=Z (I U o):=N;replace p:Hq (Aw o c a=false→V=false):=p;replace n:Hq (Aw o c a=true→GR ⟨k,c,d,f⟩ a (0+1)):=n;cases g:Aw o c a with
    |true=>
     have m:∀ W,cm prog 180 #[I U o,I J c,I J a] W fun e w'=>e=.returned (.bool true)∧W=w':=fun W=>by
      have:=IV o c a W s t u x;rwa [g] at this
     obtain⟨r,q⟩:=H2 (n.o g) m;clear g n p m;go_wp2_with (go_at_call 180;refine(q.o _).mono ?_;rintro e E ⟨rfl,rfl⟩)
     go_round
     case rel=>exact⟨0+1,by omega,by go_num,r.o⟩
     case measure=>simp[db];omega
    |false=>
     have m:∀ W,cm prog 180 #[I U o,I J c,I J a] W fun e w'=>e=.returned (.bool false)∧W=w':=fun W=>by
      have:=IV o c a W s t u x;rwa [g] at this
     obtain⟨r,q⟩:=H2 (p.o g) m;clear g n p m;go_wp2_with (go_at_call 180;refine(q.o _).mono ?_;rintro e E ⟨rfl,rfl⟩);go_ret;exact⟨A8 r.o.symm,((cp _ w).alloc (bK _) _).alloc (by simp) _⟩
   ·replace p:Hq (Aw o d a=false→V=false):=p;replace n:Hq (Aw o d a=true→GR ⟨k,c,d,f⟩ a (1+1)):=n;cases g:Aw o d a with
    |true=>
     have m:∀ W,cm prog 180 #[I U o,I J d,I J a] W fun e w'=>e=.returned (.bool true)∧W=w':=fun W=>by
      have:=IV o d a W s t u x;rwa [g] at this
     obtain⟨r,q⟩:=H2 (n.o g) m;clear g n p m;go_wp2_with (go_at_call 180;refine(q.o _).mono ?_;rintro e E ⟨rfl,rfl⟩)
     go_round
     case rel=>exact⟨1+1,by omega,by go_num,r.o⟩
     case measure=>simp[db];omega
    |false=>
     have m:∀ W,cm prog 180 #[I U o,I J d,I J a] W fun e w'=>e=.returned (.bool false)∧W=w':=fun W=>by
      have:=IV o d a W s t u x;rwa [g] at this
     obtain⟨r,q⟩:=H2 (p.o g) m;clear g n p m;go_wp2_with (go_at_call 180;refine(q.o _).mono ?_;rintro e E ⟨rfl,rfl⟩);go_ret;exact⟨A8 r.o.symm,((cp _ w).alloc (bK _) _).alloc (by simp) _⟩
   ·replace p:Hq (Aw o f a=false→V=false):=p;replace n:Hq (Aw o f a=true→GR ⟨k,c,d,f⟩ a (2+1)):=n;cases g:Aw o f a with
    |true=>
     have m:∀ W,cm prog 180 #[I U o,I J f,I J a] W fun e w'=>e=.returned (.bool true)∧W=w':=fun W=>by
      have:=IV o f a W s t u x;rwa [g] at this
     obtain⟨r,q⟩:=H2 (n.o g) m;clear g n p m;go_wp2_with (go_at_call 180;refine(q.o _).mono ?_;rintro e E ⟨rfl,rfl⟩)
     go_round
     case rel=>exact⟨2+1,by omega,by go_num,r.o⟩
     case measure=>simp[db];omega
    |false=>
     have m:∀ W,cm prog 180 #[I U o,I J f,I J a] W fun e w'=>e=.returned (.bool false)∧W=w':=fun W=>by
      have:=IV o f a W s t u x;rwa [g] at this
     obtain⟨r,q⟩:=H2 (p.o g) m;clear g n p m;go_wp2_with (go_at_call 180;refine(q.o _).mono ?_;rintro e E ⟨rfl,rfl⟩);go_ret;exact⟨A8 r.o.symm,((cp _ w).alloc (bK _) _).alloc (by simp) _⟩
  ·obtain rfl:i=l.length:=by omega
   go_wp2;go_ret;exact⟨A8 (K.o A.o).symm,((cp _ w).alloc (bK _) _).alloc (by simp) _⟩
def Zl(B:Nat)(x:Ai)(d:Int)(w:a2)(g:Gl B w)(i:0≤x.op)(j:x.op≤255)(l:0≤d)(m:d≤1000000):
  cm prog 146 #[.agg #[I U x.op,I J x.a,I J x.b,I J x.c],I J d] w fun e w'=>e=.returned (.bool (Bb x d))∧Bl w w':=by
 by_cases h:x.op<1∨25<x.op
 ·exact Zn x d w h i j
 ·obtain⟨k,f⟩:∃ k:Nat,x.op=(k:Int):=⟨x.op.toNat,by omega⟩;obtain⟨q,n,o,p⟩:=x;simp only at f h;subst f;exact Zm B k n o p d w g (by omega) (by omega) l m
def FJ(l:List Ai):Prop:=l.length≤24∧∀ x∈l,0≤x.op∧x.op≤255
def JP(l:List Ai)(k i:Nat)(d:k<l.length)(e:i<4):(EP l)[k*4+i]? =([I U l[k].op,I J l[k].a,I J l[k].b,I J l[k].c]:List a1)[i]?:=by
 induction l generalizing k with
 |nil=>simp at d
 |cons x l f=>
  cases k with
  |zero=>
   simp only[EP,c9,Nat.zero_mul,cT,List.getElem_cons_zero];rw[List.getElem?_append_left (by simpa using e)]
  |succ k=>
   simp only[EP,c9,List.getElem_cons_succ];rw[List.getElem?_append_right (by simp;omega)];have:=f k (by simpa using d);rw[show (k+1)*4+i-([Value.int U x.op,I J x.a,I J x.b,I J x.c]:List a1).length=k*4+i by simp;omega];exact this
def DG.open_{w:a2}{v:a1}{l:List Ai}(h:DG w v l):∃ (f:Option df) (cap:Nat),v=Y f l.length cap∧l.length≤cap∧
  ∀ k (e:k<l.length),∃ b d,f=Z ⟨b,d,O⟩∧b<w.heap.size∧w.cell? ⟨b,d+k*4,O⟩=Z (I U l[k].op)∧w.cell? ⟨b,d+k*4+1,O⟩=Z (I J l[k].a)∧w.cell? ⟨b,d+k*4+2,O⟩=Z (I J l[k].b)∧w.cell? ⟨b,d+k*4+3,O⟩=Z (I J l[k].c):=by
 obtain⟨f,cap,o,m,p,_,n⟩:=h;refine⟨f,cap,o,m,fun k e=>?_⟩;obtain⟨b,d,i,_,j,g⟩:=n (by omega);refine⟨b,d,i,j,?_,?_,?_,?_⟩
 ·exact g (k*4) _ (by have:=JP l k 0 e (by omega);simpa using this)
 ·exact g (k*4+1) _ (by have:=JP l k 1 e (by omega);simpa using this)
 ·exact g (k*4+2) _ (by have:=JP l k 2 e (by omega);simpa using this)
 ·exact g (k*4+3) _ (by have:=JP l k 3 e (by omega);simpa using this)
def DG.below{w w':a2}{v:a1}{l:List Ai}(h:DG w v l)(a:Bl w w'):DG w' v l:=Sl.below h a
def GH(r:Option Ai):a1:=match r with|none=>.tuple #[.agg #[I U 0,I J 0,I J 0,I J 0],.bool false]|some x=>.tuple #[.agg #[I U x.op,I J x.a,I J x.b,I J x.c],.bool true]
def NZ{l:List Ai}{i:Int}(h:i<0∨(l.length:Int)≤i):CM l i=O:=by
 unfold CM;rcases h with h|h
 ·rw[if_pos h]
 ·by_cases a:i<0
  ·rw[if_pos a]
  ·rw[if_neg a,List.getElem?_eq_none (by omega)]
def RA{l:List Ai}{k:Nat}(a:k<l.length):CM l (k:Int)=if Bb l[k] l.length then Z l[k] else O:=by
 unfold CM;rw[if_neg (by omega),ch,ca a]
def Hl(B:Nat)(v:a1)(l:List Ai)(i:Int)(w:a2)(q:Gl B w)(h:DG w v l)(n:FJ l):
  cm prog 114 #[v,I J i] w fun e w'=>e=.returned (GH (CM l i))∧Bl w w':=by
 obtain⟨X,cap,rfl,ac,r⟩:=h.open_;have ab:=n.1;by_cases M:i<0
 ·rw[NZ (.inl M)];clear r h n q;go_enter func114,ntmps114;go_wp2_with fail;refine cr (v:=.tuple #[.agg #[I U 0,I J 0,I J 0,I J 0],.bool false]) (by simp[cK,results114,go_sem]) rfl ?_;exact⟨rfl,(cp _ w).alloc (bK _) _⟩
 ·by_cases N:(l.length:Int)≤i
  ·rw[NZ (.inr N)];clear r h n q;go_enter func114,ntmps114;go_wp2_with fail;refine cr (v:=.tuple #[.agg #[I U 0,I J 0,I J 0,I J 0],.bool false]) (by simp[cK,results114,go_sem]) rfl ?_;exact⟨rfl,(cp _ w).alloc (bK _) _⟩
  ·obtain⟨k,rfl⟩:∃ k:Nat,i=(k:Int):=⟨i.toNat,by omega⟩;have z:k<l.length:=by omega
   have aa:(k:Int)<(l.length:Int):=by omega
   obtain⟨b,ad,rfl,j,t,c1,c2,c3⟩:=r k z;obtain⟨Q,R⟩:=n.2 l[k] (bZ z);have m:=Zl B l[k] l.length (w.alloc (T #[I U 0,I J 0,I J 0,I J 0] 64)) (q.below (cp _ w|>.alloc (bK _) _)) Q R (by omega) (by omega);rw[RA z];generalize l[k]=x at*;cases u:Bb x l.length with
   |true=>
    rw[u] at m;have y:=HH m;clear m u r h n q;go_enter func114,ntmps114;go_wp2_with fail;refine y.o.mono ?_;rintro e s ⟨rfl,f⟩;have g:=f.block w.heap.size (by simp);rw[cw] at g;have P:w.heap.size<s.heap.size:=by have:=f.size;simp at this;omega
    have d:=HH (((cp _ w).alloc (bK _) (T #[I U 0,I J 0,I J 0,I J 0] 64)).trans (f.mono (by simp)));have k0:=(d.o.cell (p:=⟨b,_,O⟩) j).trans t;have S:=(d.o.cell (p:=⟨b,_,O⟩) j).trans c1;have V:=(d.o.cell (p:=⟨b,_,O⟩) j).trans c2;have W:=(d.o.cell (p:=⟨b,_,O⟩) j).trans c3;obtain⟨A,C,D,E⟩:=r4 g;have f0:∀ o,s.frozen? ⟨w.heap.size,o,O⟩=false:=fun o=>by simp[cP,g]
    have F:=f0 0;have H:=f0 1;have K:=f0 2;have L:=f0 3;clear g f t c1 c2 c3 f0;go_wp2_with fail;refine cr (v:=.tuple #[.agg #[I U x.op,I J x.a,I J x.b,I J x.c],.bool true]) (by simp[cK,results114,go_sem,A,C,D,E]) rfl ?_;exact⟨rfl,(((d.o.setCell (p:=⟨w.heap.size,0,O⟩) (bK _) _).setCell (p:=⟨w.heap.size,1,O⟩) (bK _) _).setCell (p:=⟨w.heap.size,2,O⟩) (bK _) _).setCell (p:=⟨w.heap.size,3,O⟩) (bK _) _⟩
   |false=>
    rw[u] at m;have y:=HH m;clear m u r h n q;go_enter func114,ntmps114;go_wp2_with fail;refine y.o.mono ?_;rintro e s ⟨rfl,f⟩;have g:=f.block w.heap.size (by simp);rw[cw] at g;have P:w.heap.size<s.heap.size:=by have:=f.size;simp at this;omega
    have d:=HH (((cp _ w).alloc (bK _) (T #[I U 0,I J 0,I J 0,I J 0] 64)).trans (f.mono (by simp)));have k0:=(d.o.cell (p:=⟨b,_,O⟩) j).trans t;have S:=(d.o.cell (p:=⟨b,_,O⟩) j).trans c1;have V:=(d.o.cell (p:=⟨b,_,O⟩) j).trans c2;have W:=(d.o.cell (p:=⟨b,_,O⟩) j).trans c3;obtain⟨A,C,D,E⟩:=r4 g;have f0:∀ o,s.frozen? ⟨w.heap.size,o,O⟩=false:=fun o=>by simp[cP,g]
    have F:=f0 0;have H:=f0 1;have K:=f0 2;have L:=f0 3;clear g f t c1 c2 c3 f0;go_wp2_with fail;refine cr (v:=.tuple #[.agg #[I U 0,I J 0,I J 0,I J 0],.bool false]) (by simp[cK,results114,go_sem,A,C,D,E]) rfl ?_;exact⟨rfl,(((d.o.setCell (p:=⟨w.heap.size,0,O⟩) (bK _) _).setCell (p:=⟨w.heap.size,1,O⟩) (bK _) _).setCell (p:=⟨w.heap.size,2,O⟩) (bK _) _).setCell (p:=⟨w.heap.size,3,O⟩) (bK _) _⟩
def DE(s:St):a1:=.agg #[I J s.pc,I J s.left,I U (s.AG.getD 0 0),I U (s.AG.getD 1 0),I U (s.AG.getD 2 0),I U (s.AG.getD 3 0)]
def AV{x:Ai}{a:Int}(h:Bb x a=true)(i:Nat)(o:Int)(c:(opsOf x.op)[i]? =Z o):Aw o (Dy x i) a=true:=by
 cases b:Aw o (Dy x i) a with
 |true=>rfl
 |false=>
  rw[QI c b] at h;cases h
def C0{x a:Int}(h:Aw 2 x a=true):0≤x∧x≤3:=by
 simp[Aw,Cp,De] at h;exact h
def Ip{l:List Ai}{i:Int}{x:Ai}(h:CM l i=Z x):Bb x l.length=true∧0≤i∧i<(l.length:Int)∧x∈l:=by
 unfold CM at h;split at h
 ·cases h
 ·rename_i c;split at h
  ·cases h
  ·rename_i y a;have d:=(cq.1 a).1;split at h
   ·rename_i b;injection h with h;subst h;exact⟨b,by omega,by omega,List.mem_of_getElem? a⟩
   ·cases h
def Dd(x:Ai)(s:St)(data:List Int):St:=if x.op=8∨x.op=15∨x.op=17 then
   let a:=D2 s x.b (data.headD 0)
   if x.op=8 then D2 a x.c ((data.length:Int)%256) else a
  else s
def Mt{l:List Ai}{s:St}{data:List Int}(h:CM l (s.pc-1)=O):DS l s data=s:=by simp[DS,h]
def Mu{l:List Ai}{s:St}{data:List Int}{x:Ai}(h:CM l (s.pc-1)=Z x):DS l s data=Dd x s data:=by simp[DS,Dd,h]
def IP{w W:a2}(h:Bl w W)(o:Nat)(v:a1):Bl w (W.setCell ⟨w.heap.size,o,O⟩ v):=h.setCell (p:=⟨w.heap.size,o,O⟩) (bK _) _
def IQ{w W:a2}(h:Bl w W)(o:Nat)(v:a1):Bl w (W.setCell ⟨w.heap.size+1,o,O⟩ v):=h.setCell (p:=⟨w.heap.size+1,o,O⟩) (Nat.le_succ _) _
def IM{w W:a2}(h:Bl w W)(o:Obj):Bl w (W.alloc o):=h.alloc h.size _
def IN{w W:a2}(h:Bl w W):Bl w W.drew:=h.drew
def Hb(w:a2)(r:St)(e:Ending)(w':a2):Prop:=e=.returned (DE r)∧Bl w w'
def FQ(w:a2)(b a c d r2 r3:Int):a2:=(w.alloc (T #[I J b,I J a,I U c,I U d,I U r2,I U r3] 49)).alloc (T #[I J 0,I J 0,I U 0,I U 0,I U 0,I U 0] 49)
def EZ(w:a2)(b a c d r2 r3:Int):Bl w (FQ w b a c d r2 r3):=((cp _ w).alloc (bK _) _).alloc (by simp) _
def UN(w:a2)(b a c d r2 r3:Int):(FQ w b a c d r2 r3).heap.size=w.heap.size+2:=by simp[FQ]
def IZ{w e:a2}{b a c d r2 r3:Int}(f:Below (FQ w b a c d r2 r3).heap.size (FQ w b a c d r2 r3) e):
  e.heap[w.heap.size]? =Z (T #[I J b,I J a,I U c,I U d,I U r2,I U r3] 49 (0,0))∧e.heap[w.heap.size+1]? =Z (T #[I J 0,I J 0,I U 0,I U 0,I U 0,I U 0] 49 (0,0))∧Hq (Bl w e):=by
 have g:=UN w b a c d r2 r3;refine⟨(f.block _ (by omega)).trans ((Below.heap_alloc _ _ _ (by simp)).trans (cw w _)),(f.block _ (by omega)).trans ?_,(EZ ..).trans (f.mono (by omega))⟩;have:=cw (w.alloc (T #[I J b,I J a,I U c,I U d,I U r2,I U r3] 49)) (T #[I J 0,I J 0,I U 0,I U 0,I U 0,I U 0] 49);rw[show (w.alloc (T #[I J b,I J a,I U c,I U d,I U r2,I U r3] 49)).heap.size=w.heap.size+1 by simp] at this;exact this
def UG(B:Nat)(i t:a1)(l:List Ai)(a d f g r2 r3:Int)(w:a2)(j:Gl B w)(h:DG w i l)(n:FJ l)(X:-1≤a)(aa:a≤1000000)(m:CM l (a-1)=O):
  cm prog 130 #[i,.agg #[I J a,I J d,I U f,I U g,I U r2,I U r3],t] w (Hb w ⟨a,d,[f,g,r2,r3]⟩):=by
 have c:=Hl B i l (a-1) (FQ w a d f g r2 r3) (j.below (EZ ..)) (h.below (EZ ..)) n;obtain⟨D,E,rfl,_,_⟩:=h.open_;rw[m] at c;simp only[GH] at c;have r:=HH c;clear c m h n j;go_enter func130,ntmps130;go_wp2_with fail;refine r.o.mono ?_;rintro e p ⟨rfl,k⟩;obtain⟨g0,b,q⟩:=IZ k;have ab:w.heap.size<p.heap.size:=Aa g0;have s:w.heap.size+1<p.heap.size:=Aa b;obtain⟨y0,y1,y2,y3,y4,y5⟩:=r6 g0;obtain⟨u,x,y,z,A,C⟩:=r6 b;obtain⟨P,Q,R,S,V,W⟩:=f6 g0;obtain⟨F,H,K,L,M,N⟩:=f6 b;clear g0 b k;go_wp2_with fail;refine cr (v:=DE ⟨a,d,[f,g,r2,r3]⟩) (by simp[cK,results130,go_sem,s,u,x,y,z,A,C,DE]) rfl ⟨rfl,?_⟩
 (repeat(first|with_reducible exact q.o|with_reducible refine IQ ?_ _ _|with_reducible refine IP ?_ _ _|with_reducible refine IM ?_ _|with_reducible refine IN ?_))
def UH(B:Nat)(m z:a1)(l:List Ai)(a d f g r2 r3:Int)(w:a2)(n:Gl B w)(h:DG w m l)(r:FJ l)(ah:-1≤a)(ai:a≤1000000)(x:Ai)(q:CM l (a-1)=Z x)(k:x.op≠8)(i:x.op≠15)(j:x.op≠17):
  cm prog 130 #[m,.agg #[I J a,I J d,I U f,I U g,I U r2,I U r3],z] w (Hb w ⟨a,d,[f,g,r2,r3]⟩):=by
 have c:=Hl B m l (a-1) (FQ w a d f g r2 r3) (n.below (EZ ..)) (h.below (EZ ..)) r;obtain⟨K,L,rfl,_,_⟩:=h.open_;rw[q] at c;simp only[GH] at c;have u:=HH c;have P:(x.op==8)=false:=by simpa using k
 have M:(x.op==15)=false:=by simpa using i
 have N:(x.op==17)=false:=by simpa using j
 have n8:(x.op !=8)=true:=by simpa using k
 have ak:(x.op !=15)=true:=by simpa using i
 have al:(x.op !=17)=true:=by simpa using j
 clear c q h r n k i j;go_enter func130,ntmps130;go_wp2_with fail;refine u.o.mono ?_;rintro e s ⟨rfl,p⟩;obtain⟨g0,b,t⟩:=IZ p;have aj:w.heap.size<s.heap.size:=Aa g0;have y:w.heap.size+1<s.heap.size:=Aa b;obtain⟨y0,y1,y2,y3,y4,y5⟩:=r6 g0;obtain⟨A,C,D,E,F,H⟩:=r6 b;obtain⟨aa,ab,ad,ae,af,ag⟩:=f6 g0;obtain⟨Q,R,S,V,W,X⟩:=f6 b;clear g0 b p;go_wp2_with fail;refine cr (v:=DE ⟨a,d,[f,g,r2,r3]⟩) (by simp[cK,results130,go_sem,y,A,C,D,E,F,H,DE]) rfl ⟨rfl,?_⟩
 (repeat(first|with_reducible exact t.o|with_reducible refine IQ ?_ _ _|with_reducible refine IP ?_ _ _|with_reducible refine IM ?_ _|with_reducible refine IN ?_))
def UE(B:Nat)(p z:a1)(l:List Ai)(a g i j r2 r3:Int)(w:a2)(q:Gl B w)(h:DG w p l)(u:FJ l)(ap:-1≤a)(aq:a≤1000000)(x:Ai)(k:CM l (a-1)=Z x)(n:x.op=15∨x.op=17)(t:Af U w 0 z []):
  cm prog 130 #[p,.agg #[I J a,I J g,I U i,I U j,I U r2,I U r3],z] w (Hb w (Dd x ⟨a,g,[i,j,r2,r3]⟩ [])):=by
 have y:=(Ip k).1;have m:=C0 (AV y 1 2 (by rcases n with h|h<;>rw[h]<;>rfl));simp only[Dy] at m;have d:=Hl B p l (a-1) (FQ w a g i j r2 r3) (q.below (EZ ..)) (h.below (EZ ..)) u;obtain⟨V,X,rfl,_,_⟩:=h.open_;rw[k] at d;simp only[GH] at d;obtain⟨H,R,b,S⟩:=x;simp only at n m;obtain⟨W,cd,rfl,_,_,_⟩:=t.open_;simp only[dc];have D:=HH d;obtain⟨r,f⟩:=ex (Dd ⟨H,R,b,S⟩ ⟨a,g,[i,j,r2,r3]⟩ []);rw[←f];have f:=HH f;clear d k h u q t y;have F:b=0∨b=1∨b=2∨b=3:=by omega
 clear m;rcases n with rfl|rfl<;>rcases F with rfl|rfl|rfl|rfl
 all_goals
  go_enter func130,ntmps130;go_wp2_with fail;refine D.o.mono ?_;rintro e A ⟨rfl,s⟩;obtain⟨g0,c,C⟩:=IZ s;have ar:w.heap.size<A.heap.size:=Aa g0;have E:w.heap.size+1<A.heap.size:=Aa c;obtain⟨y0,y1,y2,y3,y4,y5⟩:=r6 g0;obtain⟨K,L,M,N,P,Q⟩:=r6 c;obtain⟨aj,ak,al,am,an,ao⟩:=f6 g0;obtain⟨ab,ae,af,ag,ah,ai⟩:=f6 c;clear g0 c s;go_wp2_with fail;refine cr (v:=DE r) (by rw[f.o];simp[cK,results130,go_sem,E,K,L,M,N,P,Q,Dd,DE,D2]) rfl ⟨rfl,?_⟩
  (repeat(first|with_reducible exact C.o|with_reducible refine IQ ?_ _ _|with_reducible refine IP ?_ _ _|with_reducible refine IM ?_ _|with_reducible refine IN ?_))
def UD(B:Nat)(C S:a1)(l:List Ai)(a j n q r2 r3:Int)(w:a2)(F:Gl B w)(h:DG w C l)(N:FJ l)(aN:-1≤a)(aO:a≤1000000)(x:Ai)(z:Int)(m:List Int)(s:CM l (a-1)=Z x)(y:x.op=15∨x.op=17)(u:Af U w 0 S (z::m))(hm:m.length≤1000000):
  cm prog 130 #[C,.agg #[I J a,I J j,I U n,I U q,I U r2,I U r3],S] w (Hb w (Dd x ⟨a,j,[n,q,r2,r3]⟩ (z::m))):=by
 have Q:=(Ip s).1;have t:=C0 (AV Q 1 2 (by rcases y with h|h<;>rw[h]<;>rfl));simp only[Dy] at t;have i:=Hl B C l (a-1) (FQ w a j n q r2 r3) (F.below (EZ ..)) (h.below (EZ ..)) N;obtain⟨ac,cc,rfl,_,_⟩:=h.open_;rw[s] at i;simp only[GH] at i;obtain⟨op,xa,f,xc⟩:=x;simp only at y t;obtain⟨k,b⟩:=ex (z::m);have aJ:k.length≤1000001:=by rw[b];simpa using hm
 have M:1≤k.length:=by rw[b];simp
 rw[←b] at u ⊢;obtain⟨ad,W,rfl,aH,_,P⟩:=u.open_;obtain⟨c,R,rfl,_,X,L⟩:=P M;have A:=L 0 M;have af:w.cell? ⟨c,R,O⟩=Z (I U z):=by
  have e:k[0]=z:=by simp[b]
  rw[e] at A;exact A
 have aK:(0:Int)<(k.length:Int):=by omega
 have aI:(0:Int)<(W:Int):=by omega
 have H:=HH b;have aL:c≠w.heap.size:=by omega
 have aM:c≠w.heap.size+1:=by omega
 have V:=HH i;obtain⟨r,d⟩:=ex (Dd ⟨op,xa,f,xc⟩ ⟨a,j,[n,q,r2,r3]⟩ k);rw[←d];rw[H.o] at d;have d:=HH d;clear i s h N F u Q L P A b;have ae:f=0∨f=1∨f=2∨f=3:=by omega
 clear t;rcases y with rfl|rfl<;>rcases ae with rfl|rfl|rfl|rfl
 all_goals
  go_enter func130,ntmps130;go_wp2_with fail;refine V.o.mono ?_;rintro e D ⟨rfl,K⟩;obtain⟨g0,g,E⟩:=IZ K;have aP:w.heap.size<D.heap.size:=Aa g0;have ab:w.heap.size+1<D.heap.size:=Aa g;obtain⟨y0,y1,y2,y3,y4,y5⟩:=r6 g0;obtain⟨x0,x1,x2,x3,x4,x5⟩:=r6 g;obtain⟨aA,aB,aC,aD,aE,aF⟩:=f6 g0;obtain⟨au,av,aw,ax,ay,az⟩:=f6 g;clear g0 g K;have yd:=(E.o.cell (p:=⟨c,R,O⟩) X).trans af;have aG:c<D.heap.size:=by omega
  go_wp2_with fail
  go_region
  all_goals go_wp2_with fail
  refine cr (v:=DE r) (by rw[d.o];simp[cK,results130,go_sem,ab,x0,x1,x2,x3,x4,x5,Dd,DE,D2];try rw[H.o];try simp) rfl ⟨rfl,?_⟩
  (repeat(first|with_reducible exact E.o|with_reducible refine IQ ?_ _ _|with_reducible refine IP ?_ _ _|with_reducible refine IM ?_ _|with_reducible refine IN ?_))
def UC(B:Nat)(t C:a1)(l:List Ai)(a j k m r2 r3:Int)(w:a2)(u:Gl B w)(h:DG w t l)(A:FJ l)(aq:-1≤a)(ar:a≤1000000)(x:Ai)(n:CM l (a-1)=Z x)(g:x.op=8)(z:Af U w 0 C []):
  cm prog 130 #[t,.agg #[I J a,I J j,I U k,I U m,I U r2,I U r3],C] w (Hb w (Dd x ⟨a,j,[k,m,r2,r3]⟩ [])):=by
 have s:=(Ip n).1;have p:=C0 (AV s 1 2 (by rw[g];rfl));simp only[Dy] at p;have q:=C0 (AV s 2 2 (by rw[g];rfl));simp only[Dy] at q;have f:=Hl B t l (a-1) (FQ w a j k m r2 r3) (u.below (EZ ..)) (h.below (EZ ..)) A;obtain⟨W,cc,rfl,_,_⟩:=h.open_;rw[n] at f;simp only[GH] at f;obtain⟨op,V,b,c⟩:=x;simp only at g p q;subst g;obtain⟨X,cd,rfl,_,_,_⟩:=z.open_;simp only[dc];have F:=HH f;obtain⟨r,i⟩:=ex (Dd ⟨8,V,b,c⟩ ⟨a,j,[k,m,r2,r3]⟩ []);rw[←i];have i:=HH i;clear f n h A u z s;have K:b=0∨b=1∨b=2∨b=3:=by omega
 have L:c=0∨c=1∨c=2∨c=3:=by omega
 clear q p;rcases K with rfl|rfl|rfl|rfl<;>rcases L with rfl|rfl|rfl|rfl
 all_goals
  go_enter func130,ntmps130;go_wp2_with fail;refine F.o.mono ?_;rintro e D ⟨rfl,y⟩;obtain⟨g0,d,E⟩:=IZ y;have au:w.heap.size<D.heap.size:=Aa g0;have H:w.heap.size+1<D.heap.size:=Aa d;obtain⟨y0,y1,y2,y3,y4,y5⟩:=r6 g0;obtain⟨M,N,P,Q,R,S⟩:=r6 d;obtain⟨ak,al,am,an,ao,ap⟩:=f6 g0;obtain⟨ae,af,ag,ah,ai,aj⟩:=f6 d;clear g0 d y;go_wp2_with fail;refine cr (v:=DE r) (by rw[i.o];simp[cK,results130,go_sem,H,M,N,P,Q,R,S,Dd,DE,D2]) rfl ⟨rfl,?_⟩
  (repeat(first|with_reducible exact E.o|with_reducible refine IQ ?_ _ _|with_reducible refine IP ?_ _ _|with_reducible refine IM ?_ _|with_reducible refine IN ?_))
def UB(B:Nat)(L vd:a1)(l:List Ai)(c u y A r2 r3:Int)(w:a2)(N:Gl B w)(h:DG w L l)(V:FJ l)(aU:-1≤c)(aV:c≤1000000)(x:Ai)(z:Int)(m:List Int)(C:CM l (c-1)=Z x)(t:x.op=8)(F:Af U w 0 vd (z::m))(hm:m.length≤1000000):
  cm prog 130 #[L,.agg #[I J c,I J u,I U y,I U A,I U r2,I U r3],vd] w (Hb w (Dd x ⟨c,u,[y,A,r2,r3]⟩ (z::m))):=by
 have H:=(Ip C).1;have D:=C0 (AV H 1 2 (by rw[t];rfl));simp only[Dy] at D;have E:=C0 (AV H 2 2 (by rw[t];rfl));simp only[Dy] at E;have s:=Hl B L l (c-1) (FQ w c u y A r2 r3) (N.below (EZ ..)) (h.below (EZ ..)) V;obtain⟨ac,cc,rfl,_,_⟩:=h.open_;rw[C] at s;simp only[GH] at s;obtain⟨op,xa,j,n⟩:=x;simp only at t D E;subst t;obtain⟨k,f⟩:=ex (z::m);have aQ:k.length≤1000001:=by rw[f];simpa using hm
 have S:1≤k.length:=by rw[f];simp
 rw[←f] at F ⊢;obtain⟨ad,cd,rfl,aO,_,W⟩:=F.open_;obtain⟨g,X,rfl,_,af,R⟩:=W S;have K:=R 0 S;have ak:w.cell? ⟨g,X,O⟩=Z (I U z):=by
  have e:k[0]=z:=by simp[f]
  rw[e] at K;exact K
 have aR:(0:Int)<(k.length:Int):=by omega
 have aP:(0:Int)<(cd:Int):=by omega
 have P:=HH f;have aS:g≠w.heap.size:=by omega
 have aT:g≠w.heap.size+1:=by omega
 have HA:=HH s;obtain⟨r,i⟩:=ex (Dd ⟨8,xa,j,n⟩ ⟨c,u,[y,A,r2,r3]⟩ k);rw[←i];rw[P.o] at i;have i:=HH i;clear s C h V N F H R W K f;have ai:j=0∨j=1∨j=2∨j=3:=by omega
 have aj:n=0∨n=1∨n=2∨n=3:=by omega
 clear E D;rcases ai with rfl|rfl|rfl|rfl<;>rcases aj with rfl|rfl|rfl|rfl
 all_goals
  go_enter func130,ntmps130;go_wp2_with fail;refine HA.o.mono ?_;rintro e d ⟨rfl,Q⟩;obtain⟨g0,q,M⟩:=IZ Q;have a0:w.heap.size<d.heap.size:=Aa g0;have ah:w.heap.size+1<d.heap.size:=Aa q;obtain⟨y0,y1,y2,y3,y4,y5⟩:=r6 g0;obtain⟨x0,x1,x2,x3,x4,x5⟩:=r6 q;obtain⟨aH,aI,aJ,aK,aL,aM⟩:=f6 g0;obtain⟨aB,aC,aD,aE,aF,aG⟩:=f6 q;clear g0 q Q;have yd:=(M.o.cell (p:=⟨g,X,O⟩) af).trans ak;have aN:g<d.heap.size:=by omega
  go_wp2_with fail;have aW:∀ a b,((d.setCell ⟨w.heap.size,2,O⟩ a).setCell ⟨w.heap.size,2,O⟩ b).cell? ⟨w.heap.size,2,O⟩=Z b:=fun a b=>b7 _ _ _ (b7 _ _ _ y2);have aX:∀ a b,((d.setCell ⟨w.heap.size,3,O⟩ a).setCell ⟨w.heap.size,3,O⟩ b).cell? ⟨w.heap.size,3,O⟩=Z b:=fun a b=>b7 _ _ _ (b7 _ _ _ y3);have aY:∀ a b,((d.setCell ⟨w.heap.size,4,O⟩ a).setCell ⟨w.heap.size,4,O⟩ b).cell? ⟨w.heap.size,4,O⟩=Z b:=fun a b=>b7 _ _ _ (b7 _ _ _ y4);have aZ:∀ a b,((d.setCell ⟨w.heap.size,5,O⟩ a).setCell ⟨w.heap.size,5,O⟩ b).cell? ⟨w.heap.size,5,O⟩=Z b:=fun a b=>b7 _ _ _ (b7 _ _ _ y5)
  go_region
  all_goals go_wp2_with fail
  refine cr (v:=DE r) (by rw[i.o];simp[cK,results130,go_sem,ah,x0,x1,x2,x3,x4,x5,Dd,DE,D2];try rw[P.o];try simp) rfl ⟨rfl,?_⟩
  (repeat(first|with_reducible exact M.o|with_reducible refine IQ ?_ _ _|with_reducible refine IP ?_ _ _|with_reducible refine IM ?_ _|with_reducible refine IN ?_))
def UF(B:Nat)(k n:a1)(l:List Ai)(s:St)(data:List Int)(w:a2)(o:Gl B w)(h:DG w k l)(p:FJ l)(q:-1≤s.pc)(r:s.pc≤1000000)(D:s.AG.length=4)(u:Af U w 0 n data)(C:data.length≤1000000):
  cm prog 130 #[k,DE s,n] w (Hb w (DS l s data)):=by
 obtain⟨g,i,R⟩:=s;obtain⟨e,f,r2,r3,rfl⟩:∃ e f r2 r3,R=[e,f,r2,r3]:=by
  match R,D with
  | [a,b,c,d],_=>exact⟨a,b,c,d,rfl⟩
 cases j:CM l (g-1) with
 |none=>
  rw[Mt (s:=⟨g,i,[e,f,r2,r3]⟩) j];exact UG B k n l g i e f r2 r3 w o h p q r j
 |some x=>
  rw[Mu (s:=⟨g,i,[e,f,r2,r3]⟩) j];by_cases t:x.op=8
  ·cases data with
   |nil=>exact UC B k n l g i e f r2 r3 w o h p q r x j t u
   |cons z m=>exact UB B k n l g i e f r2 r3 w o h p q r x z m j t u (by simp at C;omega)
  ·by_cases v:x.op=15∨x.op=17
   ·cases data with
    |nil=>exact UE B k n l g i e f r2 r3 w o h p q r x j v u
    |cons z m=>exact UD B k n l g i e f r2 r3 w o h p q r x z m j v u (by simp at C;omega)
   ·obtain⟨y,A⟩:=not_or.1 v;rw[show Dd x ⟨g,i,[e,f,r2,r3]⟩ data=⟨g,i,[e,f,r2,r3]⟩ by simp[Dd,t,y,A]];exact UH B k n l g i e f r2 r3 w o h p q r x j t y A
def NM(g:Nat)(a:Hd)(b:Nat):Prop:=b∉Mut g a
def KeepD.nm{g:Nat}{a:Hd}{w w':a2}(h:Upd (Mut g a) w w'):KeepD (NM g a) w w':=⟨h.size,fun b c d=>h.block b d c⟩
def PA.P2{w:a2}{D:Nat→Prop}{g:Nat}{d:Ad}{c:Hd}{s:Ae}(h:PA w D g d c s):∀ b,D b→NM g c b:=fun b a e=>by
 simp only[Mut,cD,cJ,or_false] at e;rcases e with rfl|rfl|rfl|rfl|rfl|rfl|rfl|rfl|rfl
 ·exact h.nd a
 ·exact h.pr.nd a
 ·exact h.sa.nd a
 ·exact h.qu.nd a
 ·exact h.bu.nd a
 ·exact h.bo.nd a
 ·exact h.se.nd a
 ·exact h.ev.nd a
 ·exact h.me.nd a
def U0{l:List Ai}{s:St}{data:List Int}(h:s.AG.length=4):(DS l s data).AG.length=4:=by
 cases a:CM l (s.pc-1) with
 |none=>rw[Mt a];exact h
 |some x=>
  rw[Mu a];unfold Dd;split
  ·split<;>simp[D2,h]
  ·exact h
def Xa{R:List Int}(h:R.length=4):R=[R.getD 0 0,R.getD 1 0,R.getD 2 0,R.getD 3 0]:=by
 match R,h with
 | [a,b,c,d],_=>rfl
def Ta:EG 130:=fun _ _=>by kernel_rfl
def Iu(B:Nat)(w:a2)(D:Nat→Prop)(g:Nat)(d:Ad)(a:Hd)(s:Ae)(i:Nat)(vd:a1)(data:List Int)(R:Gl B w)(h:PA w D g d a s)(ok:Ah d s)(N:i<d.procs.length)(Q:Af U w 0 vd data)(aL:data.length≤1000):
  cm prog 94 #[G (Z ⟨g,0,O⟩),I J i,vd] w fun e w'=>e=.returned (.tuple #[])∧PA w' D g d a (Co d i data s)∧Upd (Mut g a) w w':=by
 have r:i<s.procs.length:=by have:=ok.procs;omega
 have ae:0<s.procs.length:=by omega
 have ai:=h.FC ae;have ab:=h.lt;have aP:=qC ai ab;have aJ:=h.pr.cap;have q:=h.pr.lt;have ay:0<d.procs.length:=by omega
 have ah:=h.GW ay;have aO:=qC ah ab;have aI:=h.Ay.cap;have aw:=h.Ay.lt;obtain⟨y,z,r2,r3,ag,p⟩:=h.pr.el i r;obtain⟨nm,vc,aa,M⟩:=h.Ay.el i N;have t:=ok.pr s.procs[i] (bZ r);have P:=ok.ok.pc d.procs[i] (bZ N);have yc:w.cell? ⟨a.Ay.b,i*5+4,O⟩=Z vc:=aa 4 _ rfl;have y0:w.cell? ⟨a.pr.b,i*12+1,O⟩=Z (I J s.procs[i].s.pc):=p 1 _ rfl;have y1:w.cell? ⟨a.pr.b,i*12+2,O⟩=Z (I J s.procs[i].s.left):=p 2 _ rfl;have y2:w.cell? ⟨a.pr.b,i*12+3,O⟩=Z (I U y):=p 3 _ rfl;have y3:w.cell? ⟨a.pr.b,i*12+4,O⟩=Z (I U z):=p 4 _ rfl;have y4:w.cell? ⟨a.pr.b,i*12+5,O⟩=Z (I U r2):=p 5 _ rfl;have y5:w.cell? ⟨a.pr.b,i*12+6,O⟩=Z (I U r3):=p 6 _ rfl;have aQ:=qC y0 q;have aR:=qC y1 q;have aS:=qC y2 q;have aT:=qC y3 q;have aU:=qC y4 q;have aV:=qC y5 q;obtain⟨A,E,rfl,_,_⟩:=M.1.open_;have aW:=qC yc aw;obtain⟨C,F,rfl,_,_,_⟩:=Q.open_;have S:Hq (∀ W,Bl w W→cm prog 130 #[.slice A d.procs[i].code.length E,.agg #[I J s.procs[i].s.pc,I J s.procs[i].s.left,I U y,I U z,I U r2,I U r3],Y C data.length F] W (Hb W (DS d.procs[i].code s.procs[i].s data))):=fun W m=>by
  have:=UF B (.slice A d.procs[i].code.length E) (Y C data.length F) d.procs[i].code s.procs[i].s data W (R.below m) (M.1.below m) ⟨P.len,P.ops⟩ (by have:=t.pc;omega) (by have:=t.pc;omega) t.AG (Q.below m) (by omega);have e:DE s.procs[i].s=.agg #[I J s.procs[i].s.pc,I J s.procs[i].s.left,I U y,I U z,I U r2,I U r3]:=by
   unfold DE;rw[ag];rfl
  rwa [e] at this
 have X:=HH (U0 (l:=d.procs[i].code) (data:=data) t.AG);have V:Hq (Co d i data s={s with procs:=s.procs.set i {s.procs[i] with s:=DS d.procs[i].code s.procs[i].s data}}):=by
  show Co d i data s=_;rw[Co,getD_at _ _ r,Hp,getD_at _ _ N]
 have aM:(i:Int)<(s.procs.length:Int):=by omega
 have aN:(i:Int)<(d.procs.length:Int):=by omega
 have H:=HH h;generalize DS d.procs[i].code s.procs[i].s data=n at S X V;clear h ok p aa M t P Q ag R ai ah yc y0 y1 y2 y3 y4 y5;rw[V.o];go_enter func94,ntmps94;refine AS 29 [28] [] [(25,fun v _=>v=.agg #[I J n.pc,I J n.left,I U (n.AG.getD 0 0),I U (n.AG.getD 1 0),I U (n.AG.getD 2 0),I U (n.AG.getD 3 0)])] ⟨Ch,trivial⟩ ?_
 iterate 25 (refine An rfl rfl rfl ?_;intro K hK;go_big_quiet_op;go_big_quiet_on)
 refine A9 rfl rfl (fun w' m hA=>?_) ?_
 ·refine AD (f:=130) (al:=[.slice A d.procs[i].code.length E,.agg #[I J s.procs[i].s.pc,I J s.procs[i].s.left,I U y,I U z,I U r2,I U r3],Y C data.length F]) rfl rfl rfl Ta ?_;exact(S.o w' m).mono fun e w2 h=>⟨_,h.1,h.2,rfl⟩
 intro v w' m hv;obtain rfl:=hv;clear m w';simp only[Au,a6,bX,bO]
 iterate 2 (refine An rfl rfl rfl ?_;intro K hK;go_big_quiet_op;go_big_quiet_on)
 refine AH rfl ?_;refine AR ?_;intro j L aA;clear aA;have u:=H.o.below L;have k:∀ o,j.frozen? ⟨a.pr.b,o,O⟩=false:=u.pr.frozen ae;obtain⟨t0,t1,t2,t3,_,c⟩:=u.pr.el i r;have z0:j.cell? ⟨a.pr.b,i*12+1,O⟩=Z _:=c 1 _ rfl;have f0:=k (i*12+1);have z1:j.cell? ⟨a.pr.b,i*12+2,O⟩=Z _:=c 2 _ rfl;have f1:=k (i*12+2);have z2:j.cell? ⟨a.pr.b,i*12+3,O⟩=Z _:=c 3 _ rfl;have f2:=k (i*12+3);have z3:j.cell? ⟨a.pr.b,i*12+4,O⟩=Z _:=c 4 _ rfl;have f3:=k (i*12+4);have z4:j.cell? ⟨a.pr.b,i*12+5,O⟩=Z _:=c 5 _ rfl;have f4:=k (i*12+5);have z5:j.cell? ⟨a.pr.b,i*12+6,O⟩=Z _:=c 6 _ rfl;have f5:=k (i*12+6);obtain⟨H9,av,au⟩:=H3 u c L;clear u c L k;refine AI (w':=((((((j.setCell ⟨a.pr.b,i*12+1,O⟩ (I J n.pc)).setCell ⟨a.pr.b,i*12+2,O⟩ (I J n.left)).setCell ⟨a.pr.b,i*12+3,O⟩ (I U (n.AG.getD 0 0))).setCell ⟨a.pr.b,i*12+4,O⟩ (I U (n.AG.getD 1 0))).setCell ⟨a.pr.b,i*12+5,O⟩ (I U (n.AG.getD 2 0))).setCell ⟨a.pr.b,i*12+6,O⟩ (I U (n.AG.getD 3 0)))) (by simp[execOp,go_sem,z0,f0,z1,f1,z2,f2,z3,f3,z4,f4,z5,f5]) ?_;unfold A7;go_wp2_with fail
 go_end0
 have hp:=H9.o.FY r [(1,I J n.pc),(2,I J n.left),(3,I U (n.AG.getD 0 0)),(4,I U (n.AG.getD 1 0)),(5,I U (n.AG.getD 2 0)),(6,I U (n.AG.getD 3 0))] rfl av.o (x:={s.procs[i] with s:=n}) fun w' ax _=>⟨_,_,_,_,Xa X.o,ax⟩;exact⟨rfl,hp.1,(Upd.below au.o).trans hp.2⟩
def Ah.G4{d:Ad}{s:Ae}(h:Ah d s)(i:Nat){x:BA}(b:D5 x):Ah d {s with procs:=s.procs.set i x}:=
 {h with
  procs:=by simpa using h.procs
  pr:=fun y a=>by
   rcases cH a with a|rfl
   ·exact h.pr y a
   ·exact b}
def D5.ready{x:BA}(h:D5 x){t:Int}(a:0≤t)(b:t≤4294967296):D5 (readyR t x):=
 {h with since:=⟨a,b⟩}
def Le{l:List Int}(h:Bf l)(i:Nat){v:Int}(b:0≤v∧v≤255):Bf (l.set i v):=fun z a=>by
 rcases cH a with a|rfl
 ·exact h z a
 ·exact b
def X9{l:List Int}(h:Bf l):0≤l.headD 0∧l.headD 0≤255:=by
 cases l with
 |nil=>decide
 |cons x l=>exact h x (cb ..)
def UA{x:Ai}{s:St}{data:List Int}(e:Bf data)(a:s.AG.length=4)(d:Bf s.AG):(Dd x s data).AG.length=4∧Bf (Dd x s data).AG∧(Dd x s data).pc=s.pc∧(Dd x s data).left=s.left:=by
 unfold Dd;split
 ·have c:Bf (s.AG.set x.b.toNat (data.headD 0)):=Le d _ (X9 e);split
  ·refine⟨by simp[D2,a],?_,rfl,rfl⟩;exact Le c _ (by omega)
  ·exact⟨by simp[D2,a],c,rfl,rfl⟩
 ·exact⟨a,d,rfl,rfl⟩
def U6{l:List Ai}{s:St}{data:List Int}(d:Bf data)(a:s.AG.length=4)(c:Bf s.AG):(DS l s data).AG.length=4∧Bf (DS l s data).AG∧(DS l s data).pc=s.pc∧(DS l s data).left=s.left:=by
 cases b:CM l (s.pc-1) with
 |none=>rw[Mt b];exact⟨a,c,rfl,rfl⟩
 |some x=>rw[Mu b];exact UA d a c
def D5.Fq{d:Ad}{i:Nat}{x:BA}{data:List Int}(h:D5 x)(f:Bf data):D5 (Hp d i data x):=by
 obtain⟨a,b,c,e⟩:=U6 (l:=(d.procs.getD i default).code) f h.AG h.bytes;exact⟨a,b,by unfold Hp;rw[c];exact h.pc,by unfold Hp;rw[e];exact h.left,h.since,h.release,h.deadline⟩
def Ah.at_{d:Ad}{s:Ae}(h:Ah d s){i:Nat}(a:i<s.procs.length):D5 (s.procs.getD i default):=by
 rw[cF,ca a];exact h.pr _ (bZ a)
def Ah.Fq{d:Ad}{s:Ae}(h:Ah d s){i:Nat}(b:i<s.procs.length){data:List Int}(a:Bf data):Ah d (Co d i data s):=h.G4 i ((h.at_ b).Fq a)
def Ah.ready{d:Ad}{s:Ae}(h:Ah d s){i:Nat}(c:i<s.procs.length){t:Int}(a:0≤t)(b:t≤4294967296):Ah d (En i t s):=h.G4 i ((h.at_ c).ready a b)
def KP{d:Ad}{s:Ae}{i:Nat}{data:List Int}:(Co d i data s).procs.length=s.procs.length:=by simp[Co]
def Yt{s:Ae}{i:Nat}{t:Int}:(En i t s).procs.length=s.procs.length:=by simp[En]
def Ah.CT{d:Ad}{s:Ae}(h:Ah d s){i:Int}(e:i<(s.procs.length:Int)){data:List Int}(c:Bf data){t:Int}(a:0≤t)(b:t≤4294967296):Ah d (CT d t data s i):=by
 unfold Go.Proofs.YtiepijihpgijbaaGreatDoor.CT;split
 ·exact(h.Fq (by omega) c).ready (by rw[KP];omega) a b
 ·exact h
def L8{d:Ad}{s:Ae}{i t:Int}{data:List Int}:(CT d t data s i).procs.length=s.procs.length:=by
 unfold CT;split
 ·rw[Yt,KP]
 ·rfl
def Ah.IF{d:Ad}{data:List Int}(e:Bf data){t:Int}(a:0≤t)(b:t≤4294967296):∀ (l:List Int) {s:Ae},Ah d s→(∀ i∈l,i<(s.procs.length:Int))→Ah d (wakeP d t data l s)∧(wakeP d t data l s).procs.length=s.procs.length
 | [],s,h,_=>⟨h,rfl⟩
 |i::l,s,h,f=>by
  have c:=Ah.IF e a b l (h.CT (f i (cb ..)) e a b) (fun j g=>by rw[L8];exact f j (cn _ g));exact⟨c.1,c.2.trans L8⟩
def Z9{d:Ad}{t:Int}{data l:List Int}{i:Int}{s:Ae}:wakeP d t data (l++ [i]) s=CT d t data (wakeP d t data l s) i:=by
 simp[wakeP,List.foldl_append]
def Fj(w:a2)(D:Nat→Prop)(v:a1)(l:List Int):Prop:=Af J w 0 v l∧Ct D v
def Fj.Ag{w w':a2}{D:Nat→Prop}{v:a1}{l:List Int}(h:Fj w D v l)(a:KeepD D w w'):Fj w' D v l:=⟨I6 h.1 h.2 a,h.2⟩
def Fj.below{w w':a2}{D:Nat→Prop}{v:a1}{l:List Int}(h:Fj w D v l)(a:Bl w w'):Fj w' D v l:=h.Ag (.C9 a)
def A4.below{w w':a2}{D:Nat→Prop}{v:a1}{l:List Int}(h:A4 w D v l)(a:Bl w w'):A4 w' D v l:=h.Ag (.C9 a)
def IG(B:Nat)(w:a2)(D:Nat→Prop)(g:Nat)(d:Ad)(a:Hd)(s:Ae)(t:Int)(N vl:a1)(data l:List Int)(P:Gl B w)(S:∀ b∈Mut g a,B≤b)(h:PA w D g d a s)(ok:Ah d s)
  (hr:A4 w (NM g a) N data) (C:Fj w (NM g a) vl l) (aA:data.length≤1000) (V:Bf data) (aP:l.length≤1000) (ab:∀ i∈l,i<(s.procs.length:Int)) (aC:0≤t) (aD:t≤4294967296):
  cm prog 50 #[G (Z ⟨g,0,O⟩),I J t,N,vl] w fun e w'=>e=.returned (.tuple #[])∧PA w' D g d a (wakeP d t data l s)∧Upd (Mut g a) w w':=by
 obtain⟨al,cl,rfl,aO,_,_⟩:=C.1.open_;obtain⟨HG,HM,H0,HR,HL,HB,Q,aq⟩:=H8 P S h hr C V ab ok;have h6:s.procs.length≤6:=by have:=ok.procs;have:=ok.ok.procs;omega
 have ac:d.procs.length=s.procs.length:=ok.procs.symm;have ar:=HH ac;clear P S h hr C V ab ok ac;go_enter func50,ntmps50;go_wp2_with fail
 go_loopw [9,12] (fun _ v wr=>∃ k:Nat,k≤l.length∧v=I J k∧Hq (PA wr D g d a (wakeP d t data (l.take k) s)∧Upd (Mut g a) w wr)) (fun _ v _=>l.length-(db v).toNat)
 case atStart=>exact⟨0,cB _,rfl,H0.o,Upd.refl _ _⟩
 case round=>
  obtain⟨k,hk,rfl,A⟩:=hrel;by_cases F:k<l.length
  ·obtain⟨n,c⟩:=A.o;have aN:(k:Int)<(l.length:Int):=by omega
   have aK:(k:Int)<(cl:Int):=by omega
   have E:=HL.o.Ag (KeepD.nm c);obtain⟨a',c',X,_,_,H⟩:=E.1.open_;simp only[bY] at X;obtain⟨rfl,_,rfl⟩:=X;obtain⟨bl,ol,rfl,_,aJ,x⟩:=H (by omega);have yk:=x k F;have aa:=Q.o l[k] (bZ F);have f:=(Ah.IF HB.o aC aD (l.take k) aq.o (fun j hj=>Q.o j (List.mem_of_mem_take hj)));have L:wakeP d t data (l.take (k+1)) s=CT d t data (wakeP d t data (l.take k) s) l[k]:=by
    rw[List.take_succ_eq_append_getElem F,Z9]
   have u:=HG.o.BG c HM.o;have K:=(HR.o.Ag (KeepD.nm c)).1;have R:=HH L;by_cases M:0≤l[k]
   ·obtain⟨i,y⟩:∃ i:Nat,l[k]=(i:Int):=⟨l[k].toNat,by omega⟩;have hid:i<d.procs.length:=by rw[ar.o];omega
    have m:CT d t data (wakeP d t data (l.take k) s) l[k]=En i t (Co d i data (wakeP d t data (l.take k) s)):=by
     rw[CT,if_pos M,y,ch]
    have HC:=HH (Iu B wr D g d a _ i N data u n f.1 hid K aA);have ak:Hq (∀ W,PA W D g d a (Co d i data (wakeP d t data (l.take k) s))→cm prog 71 #[G (Z ⟨g,0,O⟩),I J i,I J t] W fun e w'=>e=.returned (.tuple #[])∧PA w' D g d a (En i t (Co d i data (wakeP d t data (l.take k) s)))∧Upd (Mut g a) W w'):=fun W hW=>
     Qk W D g d a _ i t hW (by rw[KP,f.2];omega) (by rw[KP,f.2];exact h6)
    have HU:=HH c;rw[y] at yk;have aL:(0:Int)≤(i:Int):=by omega
    have r:=HH m;clear n c E H x f L u K m aa A M y hid;go_wp2_with fail;refine HC.o.mono ?_;rintro e w1 ⟨rfl,p1,u1⟩;obtain⟨am,aw⟩:=H2 (ak.o w1 p1) (HU.o.trans u1);clear p1 u1;go_wp2_with fail;refine am.o.mono ?_;rintro e w2 ⟨rfl,p2,u2⟩;obtain⟨p,q⟩:=H2 p2 (aw.o.trans u2);clear p2 u2;go_wp2_with fail
    go_roundw
    case rel=>exact⟨k+1,by omega,by go_num,by rw[R.o,r.o];exact p.o,q.o⟩
    case measure=>simp[db];omega
   ·have m:CT d t data (wakeP d t data (l.take k) s) l[k]=wakeP d t data (l.take k) s:=by
     rw[CT,if_neg M]
    obtain⟨r,p,q⟩:=H3 m n c;generalize l[k]=z at*;clear n c E H x f L u K m aa A;go_wp2_with fail
    go_roundw
    case rel=>exact⟨k+1,by omega,by go_num,by rw[R.o,r.o];exact p.o,q.o⟩
    case measure=>simp[db];omega
  ·obtain rfl:k=l.length:=by omega
   go_wp2_with fail
   go_end0
   have:=A.o;rw[List.take_length] at this;exact⟨rfl,this⟩
def Bz.tail{n:Nat}{x:Wt}{l:List Wt}(h:Bz n (x::l)):Bz n l:=⟨by have:=h.1;simp at this;exact this.2,fun y a=>h.2 y (cn _ a)⟩
def Bz.nil(n:Nat):Bz n []:=⟨by simp,fun x a=>by cases a⟩
def Bz.leave{n:Nat}{l:List Wt}(h:Bz n l)(p:Int):Bz n (leaveW l p):=by
 refine⟨?_,fun y a=>h.2 y (List.mem_filter.1 a).1⟩;have:(leaveW l p).map (·.proc)=(l.map (·.proc)).filter fun q=>!decide (q=p):=by
  simp[leaveW,List.filter_map];rfl
 rw[this];exact h.1.filter _
def M9(l:List Wt)(i:Nat)(x:Wt):(D9 l i x).Perm (x::l):=by
 unfold D9;have:=List.perm_middle (a:=x) (l₁:=l.take i) (l₂:=l.drop i);simpa using this
def Bz.enter{n:Nat}{l:List Wt}(h:Bz n l){x:Wt}(c:0≤x.proc)(d:x.proc<(n:Int))(i:∀ y∈l,y.proc≠x.proc):Bz n (Cl l x):=by
 have b:=M9 l (l.findIdx fun y=>decide (y.prio<x.prio)) x;refine⟨?_,fun y a=>?_⟩
 ·have f:=(b.map (·.proc)).nodup_iff;refine f.2 ?_;simp only[List.map_cons,List.nodup_cons];refine⟨fun g=>?_,h.1⟩;obtain⟨y,a,e⟩:=cZ.1 g;exact i y a e
 ·have:=b.mem_iff.1 a;rcases cD.1 this with rfl|a
  ·exact⟨c,d⟩
  ·exact h.2 y a
def Lc{l:List Wt}{p:Int}(h:Cw l p=true):∀ y∈l,y.proc≠p:=fun y a e=>by
 simp only[Cw,cA,cI,cS] at h;have:=h.2 y a;simp[e] at this
def Qy{n:Nat}{c:Int}{l:List Wt}(h:Bz n l):(Dm c l).2.2.1<(n:Int):=by
 unfold Dm;split
 ·show(-1:Int)<n;omega
 ·split
  ·exact(h.2 _ (cb ..)).2
  ·split
   ·show(-1:Int)<n;omega
   ·show(-1:Int)<n;omega
def Qx{n:Nat}{c:Int}{l:List Wt}(h:Bz n l):Bz n (Dm c l).2.1:=by
 unfold Dm;split
 ·exact h
 ·split
  ·exact h.tail
  ·split<;>exact .nil n
def waitS_w{n:Nat}{c:Int}{l:List Wt}{p r:Int}(h:Bz n l)(a:0≤p)(b:p<(n:Int)):Bz n (Eb c l p r).2.1:=by
 unfold Eb;split
 ·exact h
 ·rename_i d;split
  ·exact h
  ·refine h.enter a b (Lc ?_);cases e:Cw l p with
   |true=>rfl
   |false=>exact absurd (.inr e) d
def untilE_w{n:Nat}{u:Bool}{l:List Wt}{p r:Int}(h:Bz n l)(a:0≤p)(b:p<(n:Int)):Bz n (Es u l p r).1:=by
 unfold Es;split
 ·exact h
 ·rename_i c;split
  ·exact h
  ·refine h.enter a b (Lc ?_);cases d:Cw l p with
   |true=>rfl
   |false=>exact absurd (.inr d) c
def Qc{n:Nat}{u:Bool}{l:List Wt}(h:Bz n l):Bz n (DC u l).2.1∧(∀ i∈(DC u l).2.2.1,i<(n:Int))∧(DC u l).2.2.1.length≤n:=by
 unfold DC;split
 ·exact⟨h,fun i a=>(by cases a),by simp⟩
 ·refine⟨.nil n,fun i a=>?_,?_⟩
  ·obtain⟨x,b,rfl⟩:=cZ.1 a;exact(h.2 x b).2
  ·have:=h.len;simpa using this
def Qt{n:Nat}{b:Bool}{x v:Int}{l:List Wt}(h:Bz n l):Bz n (Dh b x l v).2.2.1∧(∀ i∈(Dh b x l v).2.2.2.1,i<(n:Int))∧(Dh b x l v).2.2.2.1.length≤n:=by
 unfold Dh;split
 ·exact⟨h,fun i a=>(by cases a),by simp⟩
 ·refine⟨.nil n,fun i a=>?_,?_⟩
  ·obtain⟨x,c,rfl⟩:=cZ.1 a;exact(h.2 x c).2
  ·have:=h.len;simpa using this
def Pv{n:Nat}{b:Bool}{x:Int}{l:List Wt}{p r:Int}(h:Bz n l)(a:0≤p)(c:p<(n:Int)):Bz n (lookBd b x l p r).1:=by
 unfold lookBd;split
 ·exact h
 ·rename_i d;split
  ·exact h
  ·refine h.enter a c (Lc ?_);cases e:Cw l p with
   |true=>rfl
   |false=>exact absurd (.inr e) d
def Hc.PU{n:Nat}{x:AT}(h:Hc n x){q r v:Int}(j:0≤q)(k:q<(n:Int))(i:0≤v∧v≤255):
  Hc n ⟨x.depth,(Cb x.depth x.data x.put x.get q r v).1,(Cb x.depth x.data x.put x.get q r v).2.1,(Cb x.depth x.data x.put x.get q r v).2.2.1⟩∧(Cb x.depth x.data x.put x.get q r v).2.2.2.2.1<(n:Int):=by
 by_cases a:(Ci x.depth x.data x.put x.get && CQ x.put x.get q)=false
 ·rw[PW a];exact⟨h,by show(-1:Int)<n;omega⟩
 ·have a:(Ci x.depth x.data x.put x.get && CQ x.put x.get q)=true:=by simpa using a
  have l:∀ y∈x.put++x.get,y.proc≠q:=fun y b e=>by
   simp only[cA,CQ,cI,cS] at a;have:=a.2.2 y b;simp[e] at this
  have o:x.depth≤16:=by
   simp only[cA,Ci,decide_eq_true_eq] at a;omega
  cases c:x.get with
  |cons y m=>
   have f:=h.get;rw[c] at f;rw[←c,Qb a c];exact⟨⟨h.len,h.bytes,h.put,f.tail,h.ID⟩,(f.2 y (cb ..)).2⟩
  |nil=>
   rw[←c];by_cases g:(x.data.length:Int)<x.depth
   ·rw[PY a c g];refine⟨⟨by simp;omega,fun z d=>?_,h.put,.nil n,h.ID⟩,by show(-1:Int)<n;omega⟩;rcases cV.1 d with d|d
    ·exact h.bytes z d
    ·simp at d;subst d;exact i
   ·rw[Qa a c g];refine⟨⟨h.len,h.bytes,h.put.enter j k (fun y b=>l y (List.mem_append_left _ b)),.nil n,fun y b=>?_⟩,by show(-1:Int)<n;omega⟩;have:=(M9 x.put (x.put.findIdx fun y=>decide (y.prio<r)) ⟨q,r,v⟩).mem_iff.1 b;rcases cD.1 this with rfl|b
    ·exact i
    ·exact h.ID y b
def Hc.OG{n:Nat}{x:AT}(h:Hc n x){q r:Int}(l:0≤q)(o:q<(n:Int)):
  Hc n ⟨x.depth,(getBu x.depth x.data x.put x.get q r).1,(getBu x.depth x.data x.put x.get q r).2.1,(getBu x.depth x.data x.put x.get q r).2.2.1⟩∧(getBu x.depth x.data x.put x.get q r).2.2.2.2.2.1<(n:Int)∧0≤(getBu x.depth x.data x.put x.get q r).2.2.2.1∧(getBu x.depth x.data x.put x.get q r).2.2.2.1≤255:=by
 by_cases b:(Ci x.depth x.data x.put x.get && CQ x.put x.get q)=false
 ·rw[OI b];exact⟨h,by show(-1:Int)<n;omega,c8 0,by show(0:Int)≤255;decide⟩
 ·have b:(Ci x.depth x.data x.put x.get && CQ x.put x.get q)=true:=by simpa using b
  have p:∀ y∈x.put++x.get,y.proc≠q:=fun y c e=>by
   simp only[cA,CQ,cI,cS] at b;have:=b.2.2 y c;simp[e] at this
  cases d:x.data with
  |nil=>
   rw[←d,OL b d];exact⟨⟨by simp,fun z s=>(by cases s),h.put,h.get.enter l o (fun y c=>p y (List.mem_append_right _ c)),h.ID⟩,by show(-1:Int)<n;omega,c8 0,by show(0:Int)≤255;decide⟩
  |cons y t=>
   have k:=h.len;have g:=h.bytes;rw[d] at k g;have c:=g y (cb ..);cases f:x.put with
   |cons z m=>
    have i:=h.put;have j:=h.ID;rw[f] at i j;rw[←d,←f,OM b d f];refine⟨⟨by simp at k ⊢;omega,fun u a=>?_,i.tail,h.get,fun u a=>j u (cn _ a)⟩,(i.2 z (cb ..)).2,c.1,c.2⟩;rcases cV.1 a with a|a
    ·exact g u (cn _ a)
    ·simp at a;subst a;exact j z (cb ..)
   |nil=>
    rw[←d,←f,OJ b d f];exact⟨⟨by simp at k ⊢;omega,fun u a=>g u (cn _ a),.nil n,h.get,fun u a=>by cases a⟩,by show(-1:Int)<n;omega,c.1,c.2⟩
def FK.Ng{n:Nat}{x:AO}(h:FK n x){k s d r:Int}{m:List Int}(f:m.length≤64∧Bf m):
  FK n ⟨(sendQ k s d r x.q x.wait x.lost m).1,(sendQ k s d r x.q x.wait x.lost m).2.1,(sendQ k s d r x.q x.wait x.lost m).2.2.1⟩∧(sendQ k s d r x.q x.wait x.lost m).2.2.2.1<(n:Int):=by
 unfold sendQ;split
 ·exact⟨h,by show(-1:Int)<n;omega⟩
 ·rename_i e;split
  ·exact⟨h,by show(-1:Int)<n;omega⟩
  ·split
   ·rename_i y l g;have b:=h.wait;rw[g] at b;exact⟨⟨h.len,h.msg,b.tail⟩,(b.2 y (cb ..)).2⟩
   ·split
    ·exact⟨⟨h.len,h.msg,.nil n⟩,by show(-1:Int)<n;omega⟩
    ·rename_i j;have c:BP k s d r x.q x.wait x.lost=true:=by
      cases c:BP k s d r x.q x.wait x.lost with
      |true=>rfl
      |false=>exact absurd (.inl c) e
     have i:(x.q.length:Int)<16:=by
      simp only[BP,Fm,Ey,cA,cI,Bool.or_eq_false_iff,decide_eq_false_iff_not] at c;omega
     refine⟨⟨by simp;omega,fun z a=>?_,.nil n⟩,by show(-1:Int)<n;omega⟩;rcases cV.1 a with a|a
     ·exact h.msg z a
     ·simp at a;subst a;exact f
def FK.Ql{n:Nat}{x:AO}(h:FK n x){k s d r p u:Int}(f:0≤p)(g:p<(n:Int)):
  FK n ⟨(recvQ k s d r x.q x.wait x.lost p u).1,(recvQ k s d r x.q x.wait x.lost p u).2.1,x.lost⟩∧(recvQ k s d r x.q x.wait x.lost p u).2.2.1.length≤64∧Bf (recvQ k s d r x.q x.wait x.lost p u).2.2.1:=by
 unfold recvQ;split
 ·exact⟨h,by simp,fun z a=>by cases a⟩
 ·rename_i i;split
  ·rename_i m t l;have b:=h.msg;have c:=h.len;rw[l] at b c;have e:=b m (cb ..);exact⟨⟨by simp at c ⊢;omega,fun z a=>b z (cn _ a),h.wait⟩,e.1,e.2⟩
  ·refine⟨⟨by simp,fun z a=>(by cases a),h.wait.enter f g (Lc ?_)⟩,by simp,fun z a=>by cases a⟩;cases j:Cw x.wait p with
   |true=>rfl
   |false=>exact absurd (.inr j) i
def mem_set{α:Type}{P:α→Prop}{l:List α}(h:∀ x∈l,P x)(i:Nat){v:α}(b:P v):∀ x∈l.set i v,P x:=fun x a=>by
 rcases cH a with a|rfl
 ·exact h x a
 ·exact b
def Ah.Nk{d:Ad}{s:Ae}(h:Ah d s)(k:Nat){x:BU}(a:Bz d.procs.length x.wait):Ah d {s with semas:=s.semas.set k x}:={h with semas:=by simpa using h.semas,se:=mem_set h.se k a}
def Ah.Lq{d:Ad}{s:Ae}(h:Ah d s)(k:Nat){x:C3}(a:Bz d.procs.length x.wait):Ah d {s with events:=s.events.set k x}:={h with events:=by simpa using h.events,ev:=mem_set h.ev k a}
def Ah.Km{d:Ad}{s:Ae}(h:Ah d s)(k:Nat){x:BE}(a:Bz d.procs.length x.wait):Ah d {s with boards:=s.boards.set k x}:={h with boards:=by simpa using h.boards,bo:=mem_set h.bo k a}
def Ah.Lp{d:Ad}{s:Ae}(h:Ah d s)(k:Nat){x:AT}(a:Hc d.procs.length x):Ah d {s with bufs:=s.bufs.set k x}:={h with bufs:=by simpa using h.bufs,bu:=mem_set h.bu k a}
def Ah.Ko{d:Ad}{s:Ae}(h:Ah d s)(k:Nat){x:AO}(a:FK d.procs.length x):Ah d {s with queues:=s.queues.set k x}:={h with queues:=by simpa using h.queues,qu:=mem_set h.qu k a}
def Ah.Nj{d:Ad}{s:Ae}(h:Ah d s)(k:Nat){x:Ee}(a:K6 x):Ah d {s with samples:=s.samples.set k x}:={h with samples:=by simpa using h.samples,sa:=mem_set h.sa k a}
def Bh(B:Nat)(zc:Array a1)(a:cx)(v:a1)(w:a2):Prop:=∃ q,B≤q∧v=G (Z ⟨q,0,O⟩)∧w.heap[q]? =Z (T zc a (0,0))
def Bh.AX{B:Nat}{zc:Array a1}{b:cx}:DO (Bh B zc b):=fun _ _ _ ⟨q,c,d,a⟩ e=>⟨q,c,d,(e.block _ (Aa a)).trans a⟩
def Bh.at_{B q:Nat}{zc:Array a1}{b:cx}{w:a2}(h:Bh B zc b (G (Z ⟨q,0,O⟩)) w):B≤q∧w.heap[q]? =Z (T zc b (0,0)):=by
 obtain⟨e,c,a,d⟩:=h;injection a with a;injection a with a;injection a with a;subst a;exact⟨c,d⟩
def Er(a:Array a1):List (Nat×a1)→Array a1
 | []=>a
 |x::r=>Er (a.setIfInBounds x.1 x.2) r
def Di{q:Nat}{b:cx}:∀ (r:List (Nat×a1)) {w:a2} {a:Array a1},w.heap[q]? =Z (T a b (0,0))→(setsAt w q 0 r).heap[q]? =Z (T (Er a r) b (0,0))
 | [],_,_,h=>h
 |x::r,w,a,h=>by
  have:=Di r (cC w q (0+x.1) _ _ x.2 h);rw[cT] at this;rw[setsAt,cT];exact this
def DH{q B:Nat}(b:B≤q){w W:a2}(h:Below B w W)(r:List (Nat×a1)):Below B w (setsAt W q 0 r):=
 ⟨(Be r W).1.trans h.os,(Be r W).2.1.trans h.tape,(Be r W).2.2.trans h.output,by rw[BO];exact h.size,fun k a=>(AU (by omega) r W).trans (h.block k a)⟩
def MA{q:Nat}{B:Nat}(w:a2)(r:List (Nat×a1)):KeepD (fun b=>B≤b∧b≠q) w (setsAt w q 0 r):=⟨by rw[BO];exact bK _,fun b a _=>AU a.2 r w⟩
def E9{w:a2}{B q sz n:Nat}{t f:cx}{v:a1}{x:List a1}{i:Array a1}{j:Nat×Nat}(h:Ty w B t sz v n x)(d:w.heap[q]? =Z (T i f j))(s:f≠t):Ct (fun b=>B≤b∧b≠q) v:=fun a m c u E=>by
 obtain⟨y,cap,g,A,C,D,r⟩:=h;subst u;simp only[bY] at g;obtain⟨rfl,rfl,rfl⟩:=g;obtain⟨b,o,z,l,k,p,_⟩:=r (by omega);cases l;exact⟨k,fun e=>by
  subst e;rw[p] at d;simp only[cM,c6] at d;exact s d.2.1.symm⟩
def OS{w:a2}{B q:Nat}{v:a1}{l:List Wt}{i:cx}{d:Array a1}(h:Aq w B v l)(r:w.heap[q]? =Z (T d i (0,0)))(x:d.size≤2):Ct (fun b=>B≤b∧b≠q) v:=fun a m c s f=>by
 obtain⟨t,cap,g,_,_,p⟩:=h.1.open_;subst s;simp only[bY] at g;obtain⟨rfl,rfl,rfl⟩:=g;obtain⟨b,o,k,j,u,n⟩:=p f;cases k;refine⟨j,fun e=>?_⟩;replace e:b=q:=e;subst e;have:=(n 0 f).2.2;rw[Cr r] at this;have:=(cW.1 this).1;omega
def Gb{w W:a2}{D:Nat→Prop}{q:Nat}{v:a1}{l:List Wt}{r:List (Nat×a1)}(h:Al W 0 v l)(d:Ct (fun b=>w.heap.size≤b∧b≠q) v)(a:∀ b,w.heap.size≤b→D b):Bm (setsAt W q 0 r) D v l:=
 (Bm.Ag ⟨h,d⟩ (MA W r)).mono fun b c=>a b c.1
def Ny{w W:a2}{D:Nat→Prop}{q:Nat}{v:a1}{l:List Int}{r:List (Nat×a1)}(h:Af U W 0 v l)(d:Ct (fun b=>w.heap.size≤b∧b≠q) v)(a:∀ b,w.heap.size≤b→D b):A4 (setsAt W q 0 r) D v l:=
 (A4.Ag ⟨h,d⟩ (MA W r)).mono fun b c=>a b c.1
def QL{w W:a2}{D:Nat→Prop}{q:Nat}{v:a1}{l:List Int}{r:List (Nat×a1)}(h:Af J W 0 v l)(e:Ct (fun b=>w.heap.size≤b∧b≠q) v)(c:∀ b,w.heap.size≤b→D b):Fj (setsAt W q 0 r) D v l:=by
 have a:=Fj.Ag ⟨h,e⟩ (MA W r);exact⟨a.1,a.2.mono fun b d=>c b d.1⟩
def One(B:Nat)(x:a1)(a:cx)(v:a1)(w:a2):Prop:=∃ q,B≤q∧v=Y (Z ⟨q,0,O⟩) 1 1∧w.heap[q]? =Z (T #[x] a (0,0))
def One.AX{B:Nat}{x:a1}{b:cx}:DO (One B x b):=fun _ _ _ ⟨q,c,d,a⟩ e=>⟨q,c,d,(e.block _ (Aa a)).trans a⟩
def One.sl{B:Nat}{x:a1}{f:cx}{v:a1}{w:a2}(h:One B x f v w){D:Nat→Prop}(i:∀ b,B≤b→D b):Sl w 0 1 v 1 [x]∧Ct D v:=by
 obtain⟨q,g,rfl,e⟩:=h;refine⟨⟨_,1,rfl,bK _,by simp,by simp,fun _=>⟨q,0,rfl,cB _,Aa e,fun j u d=>?_⟩⟩,fun a n c k _=>?_⟩
 ·rw[Cr e]
  match j,d with
  |0,d=>simpa using d
 ·cases k;exact i q g
def EF{w:a2}{D:Nat→Prop}{g:Nat}{d:Ad}{a:Hd}{s:Ae}(h:PA w D g d a s){b:Nat}(e:w.heap.size≤b):NM g a b:=fun c=>by
 have:=h.Ke b c;omega
def TD:EG 119:=fun _ _=>by kernel_rfl
def Wj(B:Nat)(w:a2)(D:Nat→Prop)(g:Nat)(d:Ad)(j:Hd)(s:Ae)(kind:Int)(k:Nat)(b:Int)(data:List Int)(P:Nat)(vd:a1)(i:Nat)(now:Int)(aP:Gl B w)(hM:∀ q∈Mut g j,B≤q)(h:PA w D g d j s)(ok:Ah d s)(hj:JB w P g kind k b vd i now)(aZ:P∉Mut g j)(hD:∀ q,w.heap.size≤q→D q)(br:0≤now)(bs:now≤4294967296)(V:k<s.semas.length)(hi:i<d.procs.length):
  cm prog 80 #[G (Z ⟨P,0,O⟩)] w fun e w'=>e=.returned (.bool true)∧PA w' D g d j (Kt d now (⟨kind,k,b,data⟩:Ac) s)∧Upd (Mut g j) w w':=by
 obtain⟨C,j1,F,j3,j4,j5,N⟩:=hj.cells;have p:P<w.heap.size:=Aa hj;have ah:=qC C p;have aN:=qC F p;have aJ:0<s.semas.length:=by omega
 have ai:=h.Lw aJ;have S:=h.lt;have aO:=qC ai S;have aE:=h.se.cap;have R:=h.se.lt;have h6:=ok.ok.procs;obtain⟨v,hc,hr⟩:=h.se.el k V;obtain⟨y0,y1⟩:=cc2 hc;have bA:=qC y0 R;have bB:=qC y1 R;obtain⟨av,cv,rfl,_,_,_⟩:=hr.1.open_;have ac:=(ok.se _ (bZ V));obtain⟨m,l',y,er,hw⟩:∃ m l' y er,Dm s.semas[k].count s.semas[k].wait=(m,l',y,er):=⟨_,_,_,_,rfl⟩;have HC:Hq (∀ W,Bl w W→cm prog 119 #[.agg #[I J s.semas[k].count,.slice av s.semas[k].wait.length cv]] W (IK W (I J m) l' (I J y) (I J er))):=fun W a=>by
  have:=YS s.semas[k].count (.slice av s.semas[k].wait.length cv) s.semas[k].wait W (hr.1.below a) (ac.wf h6) (by have:=ac.len;omega);rwa [hw] at this
 have HE:Hq (Kt d now (⟨kind,k,b,data⟩:Ac) s=wakeP d now [] [y] {s with semas:=s.semas.set k ⟨m,l'⟩}):=by
  show Kt d now (⟨kind,k,b,data⟩:Ac) s=_;simp only[Kt,Ia,ch,getD_at _ _ V,hw]
 have bc:Hq (Ah d {s with semas:=s.semas.set k ⟨m,l'⟩}):=ok.Nk k (by have:=Qx (c:=s.semas[k].count) ac;rw[hw] at this;exact this);have bu:y<(s.procs.length:Int):=by have:=Qy (c:=s.semas[k].count) ac;rw[hw] at this;rw[ok.procs];exact this
 clear hw hr ac;have bJ:(k:Int)<(s.semas.length:Int):=by omega
 obtain⟨H,HJ,a7,HG,HM,bb⟩:=H6 h hj hD aP hM aZ;clear h hj hD ok hc aP hM aZ C j1 F j3 j4 j5 N ai y0 y1;go_enter func80,ntmps80;go_upto_region 1 with (fail);refine AS 24 [21] [18,19,22,23] [(15,(fun v w'=>∃ l c2,v=.tuple #[.agg #[I J m,Y l l'.length c2],I J y,I J er]∧Aq w' w.heap.size (Y l l'.length c2) l')),(20,Bh w.heap.size #[I J 0,Y O 0 0] 95)] ⟨(fun v w1 w2 ⟨l,c2,e,h⟩ a=>⟨l,c2,e,h.below a⟩),Bh.AX,trivial⟩ ?_
 iterate 15 (refine An rfl rfl rfl ?_;intro K hK;go_big_quiet_op;go_big_quiet_on)
 refine A9 rfl rfl (fun w' a hA=>?_) ?_
 ·refine AD (f:=119) (al:=[.agg #[I J s.semas[k].count,.slice av s.semas[k].wait.length cv]]) rfl rfl rfl TD ?_;exact(HC.o w' a).mono fun e w2 h=>by
   obtain⟨u,he,hf,bi⟩:=h;obtain⟨l,c2,hu⟩:=Bc hf;subst hu;exact⟨_,he,bi,_,_,rfl,hf.mono a.size⟩
 intro v w' a hv;obtain⟨l,c2,rfl,bl⟩:=hv;clear a bl w';simp only[Au,a6,bX,bO]
 iterate 2 (refine An rfl rfl rfl ?_;intro K hK;go_big_quiet_op;go_big_quiet_on)
 iterate 2 (refine Bi rfl rfl rfl ?_;intro K hK;go_big_quiet_op;go_big_quiet_on)
 refine A9 rfl rfl (fun w' a hA=>?_) ?_
 ·exact EY (T #[I J 0,Y O 0 0] 95) (by simp[execOp,go_sem]) ⟨w'.heap.size,a.size,rfl,cw _ _⟩
 intro v w' a hv;obtain⟨q,X,rfl,E⟩:=hv;clear a X E w';simp only[Au,a6,bX,bO];refine AH rfl ?_
 iterate 2 (refine Bi rfl rfl rfl ?_;intro K hK;go_big_quiet_op;go_big_quiet_on)
 refine AR ?_;intro t n A;have bq:=A 15 _ (by decide) rfl;obtain⟨bo,E⟩:=Bh.at_ (A 20 _ (by decide) rfl);obtain⟨a3,c3,e3,aI⟩:=bq;injection e3 with e3;simp only[cz,cu,ct,bY,true_and,and_true] at e3;obtain⟨rfl,rfl⟩:=e3;obtain⟨z0,z1⟩:=r2 E;obtain⟨f0,f1⟩:=f2 E;obtain⟨r,aH⟩:=ex ((t.setCell ⟨q,0,O⟩ (I J m)).setCell ⟨q,1,O⟩ (Y l l'.length c2));refine AI (w':=r) (by rw[aH];simp[execOp,go_sem,z0,f0,z1,f1]) ?_;unfold A7;have ao:r=setsAt t q 0 [(0,I J m),(1,Y l l'.length c2)]:=aH;have aC:Hq (Bl w r):=by rw[ao];exact DH bo n _
 have aA:r.heap[q]? =Z (T #[I J m,Y l l'.length c2] 95 (0,0)):=by rw[ao];exact Di _ E
 have a8:Hq (Bm r D (Y l l'.length c2) l'):=by rw[ao];exact Gb aI.rd (OS aI E (by simp)) a7.o
 clear aI;clear aH ao n A E z0 f0 z1 f1 aO aE R S p bA bB ah aN;have M:=H.o.below aC.o;have aw:=HJ.o.below aC.o;have aK:q<r.heap.size:=Aa aA;obtain⟨C,j1,F,j3,j4,j5,N⟩:=aw.cells;have p:P<r.heap.size:=Aa aw;have ah:=qC C p;have aN:=qC F p;have ai:=M.Lw aJ;have S:=M.lt;have aO:=qC ai S;have aE:=M.se.cap;have R:=M.se.lt;have bx:=qC (show r.cell? ⟨q,0,O⟩=_ from Cr aA) aK;have bz:=qC (show r.cell? ⟨q,1,O⟩=_ from Cr aA) aK;obtain⟨H1,bE⟩:=H2 M aw;clear M aw C j1 F j3 j4 j5 N ai aA;go_upto_region 2 with (fail);refine AS 16 [15] [] [] trivial ?_
 iterate 15 (refine An rfl rfl rfl ?_;intro K hK;go_big_quiet_op;go_big_quiet_on)
 refine AH rfl ?_;refine AR ?_;intro t n A;clear A;have h9:=H1.o.below n;have F9:∀ o,t.frozen? ⟨j.se.b,o,O⟩=false:=h9.se.frozen aJ;obtain⟨v,ar,_⟩:=h9.se.el k V;have z0:t.cell? ⟨j.se.b,k*2,O⟩=Z _:=ar 0 _ rfl;have f0:=F9 (k*2);have z1:t.cell? ⟨j.se.b,k*2+1,O⟩=Z _:=ar 1 _ rfl;have f1:=F9 (k*2+1);have ay:=h9.Nl V [(0,I J m),(1,Y l l'.length c2)] rfl ar (x:=⟨m,l'⟩) fun w' bj bm=>⟨_,bj,(a8.o.Ag (.C9 n)).Ag bm⟩;obtain⟨L,Q⟩:=ex ((t.setCell ⟨j.se.b,k*2,O⟩ (I J m)).setCell ⟨j.se.b,k*2+1,O⟩ (Y l l'.length c2));refine AI (w':=L) (by rw[Q];simp[execOp,go_sem,z0,f0,z1,f1]) ?_;unfold A7;have am:Hq (PA L D g d j {s with semas:=s.semas.set k ⟨m,l'⟩}):=by rw[Q];exact ay.1
 have bG:Hq (Upd (Mut g j) r L):=by rw[Q];exact(Upd.below n).trans ay.2
 have aT:Hq (Upd (Mut g j) w L):=by rw[Q];exact((Upd.below aC.o).trans (Upd.below (n.mono (bK _)))).trans ay.2
 clear Q ay ar F9 h9 n z0 f0 z1 f1 aO aE R S p bx bz ah aN aK;have h2:=am.o;have ax:=HJ.o.BG aT.o bb.o;obtain⟨C,j1,F,j3,j4,j5,N⟩:=ax.cells;have p:P<L.heap.size:=Aa ax;have ah:=qC C p;have bw:=qC N p;have bF:=HH ax;clear h2 ax C j1 F j3 j4 j5 N;go_upto_region 3 with (fail);refine BQ 10 [(9,One L.heap.size (I J y) 3)] ⟨One.AX,trivial⟩ ?_
 iterate 9 (refine AK rfl ?_;intro K hK;go_big_quiet_op;go_big_quiet_on)
 refine Ca rfl (fun w' a hA=>?_) ?_
 ·exact Bn (v:=Y (Z ⟨w'.heap.size,0,O⟩) 1 1) (w':=w'.alloc (T #[I J y] 3)) (by simp[execOp,go_sem]) ⟨(cp _ _).alloc (bK _) _,⟨w'.heap.size,a.size,rfl,cw _ _⟩⟩
 intro v w' a hv;obtain⟨q3,bn,rfl,bp⟩:=hv;clear a bn bp w';simp only[Au,a6,bX,bO];refine BN ?_;intro t n A;simp only[cE,cN,cQ];have o9:=A 9 _ (by decide) rfl;have aG:=aT.o.trans (Upd.below n);obtain⟨aQ,bf⟩:=H2 (IG B t D g d j _ now (Y O 0 0) (Y (Z ⟨q3,0,O⟩) 1 1) [] [y] (HG.o.BG aG HM.o) HM.o (am.o.below n) bc.o A4.nil ⟨o9.sl (fun q X=>EF am.o X)|>.1,(o9.sl (fun q X=>EF am.o X)).2⟩ (by simp) (fun z hz=>by cases hz) (by simp) (fun z hz=>by simp at hz;subst hz;exact bu) br bs) aG;clear A n aG o9 ah bw p;go_wp2_with fail;refine aQ.o.mono ?_;rintro e w3 ⟨rfl,p3,u3⟩;obtain⟨bd,be⟩:=H2 p3 (bf.o.trans u3);clear p3 u3 aQ;go_wp2_with fail;go_ret;rw[HE.o];exact⟨rfl,bd.o,be.o⟩
def T8:EG 120:=fun _ _=>by kernel_rfl
def Wf(B:Nat)(w:a2)(D:Nat→Prop)(g:Nat)(d:Ad)(a:Hd)(s:Ae)(kind:Int)(k:Nat)(b:Int)(data:List Int)(N:Nat)(vd:a1)(i:Nat)(now:Int)(aP:Gl B w)(hM:∀ q∈Mut g a,B≤q)(h:PA w D g d a s)(ok:Ah d s)(hj:JB w N g kind k b vd i now)(a0:N∉Mut g a)(hD:∀ q,w.heap.size≤q→D q)(bB:0≤now)(bC:now≤4294967296)(X:k<s.events.length)(hi:i<d.procs.length):
  cm prog 81 #[G (Z ⟨N,0,O⟩)] w fun e w'=>e=.returned (.bool true)∧PA w' D g d a (Kk d now (⟨kind,k,b,data⟩:Ac) s)∧Upd (Mut g a) w w':=by
 obtain⟨C,j1,F,j3,j4,j5,M⟩:=hj.cells;have r:N<w.heap.size:=Aa hj;have af:=qC C r;have aN:=qC F r;have aG:0<s.events.length:=by omega
 have ag:=h.Ku aG;have V:=h.lt;have aO:=qC ag V;have aB:=h.ev.cap;have S:=h.ev.lt;have h6:=ok.ok.procs;obtain⟨v,hc,hr⟩:=h.ev.el k X;obtain⟨y0,y1⟩:=cc2 hc;have bH:=qC y0 S;have bI:=qC y1 S;obtain⟨av,cv,rfl,_,_,_⟩:=hr.1.open_;have aw:=(ok.ev _ (bZ X));obtain⟨m,l',l,er,hw⟩:∃ m l' l er,DC s.events[k].up s.events[k].wait=(m,l',l,er):=⟨_,_,_,_,rfl⟩;have HC:Hq (∀ W,Bl w W→cm prog 120 #[.agg #[.bool s.events[k].up,.slice av s.events[k].wait.length cv]] W (NO W (.bool m) l' l (I J er))):=fun W c=>by
  have:=Yp s.events[k].up (.slice av s.events[k].wait.length cv) s.events[k].wait W (hr.1.below c) (aw.wf h6) (by have:=aw.len;omega);rwa [hw] at this
 have HE:Hq (Kk d now (⟨kind,k,b,data⟩:Ac) s=wakeP d now [] l {s with events:=s.events.set k ⟨m,l'⟩}):=by
  show Kk d now (⟨kind,k,b,data⟩:Ac) s=_;simp only[Kk,EW,ch,getD_at _ _ X,hw]
 have aa:=Qc (u:=s.events[k].up) aw;rw[hw] at aa;have bi:Hq (Ah d {s with events:=s.events.set k ⟨m,l'⟩}):=ok.Lq k aa.1;have bh:Hq (∀ z∈l,z<(s.procs.length:Int)):=by rw[ok.procs];exact aa.2.1
 have bR:l.length≤6:=cL aa.2.2 h6;clear hw hr aw aa;have bQ:(k:Int)<(s.events.length:Int):=by omega
 obtain⟨H,HJ,bb,HG,HM,bf⟩:=H6 h hj hD aP hM a0;clear h hj hD ok hc aP hM a0 C j1 F j3 j4 j5 M ag y0 y1;go_enter func81,ntmps81;go_upto_region 1 with (fail);refine AS 24 [21] [18,19,22,23] [(15,(fun v w'=>∃ n c2 y c3,v=.tuple #[.agg #[.bool m,Y n l'.length c2],Y y l.length c3,I J er]∧Aq w' w.heap.size (Y n l'.length c2) l'∧OwnI w' w.heap.size (Y y l.length c3) l)),(20,Bh w.heap.size #[.bool false,Y O 0 0] 99)] ⟨(fun v w1 w2 ⟨n,c2,y,c3,e,h,h'⟩ c=>⟨n,c2,y,c3,e,h.below c,CA h' c⟩),Bh.AX,trivial⟩ ?_
 iterate 15 (refine An rfl rfl rfl ?_;intro K hK;go_big_quiet_op;go_big_quiet_on)
 refine A9 rfl rfl (fun w' c hA=>?_) ?_
 ·refine AD (f:=120) (al:=[.agg #[.bool s.events[k].up,.slice av s.events[k].wait.length cv]]) rfl rfl rfl T8 ?_;exact(HC.o w' c).mono fun e w2 h=>by
   obtain⟨u,z,he,hf,ho,bq⟩:=h;obtain⟨n,c2,hu⟩:=Bc hf;obtain⟨y,m3,c3,hz,bw⟩:=MS ho;subst hu hz bw;exact⟨_,he,bq,_,_,_,_,rfl,hf.mono c.size,Cx ho c.size⟩
 intro v w' c hv;obtain⟨n,c2,y,c3,rfl,bt,bx⟩:=hv;clear c bt bx w';simp only[Au,a6,bX,bO]
 iterate 2 (refine An rfl rfl rfl ?_;intro K hK;go_big_quiet_op;go_big_quiet_on)
 iterate 2 (refine Bi rfl rfl rfl ?_;intro K hK;go_big_quiet_op;go_big_quiet_on)
 refine A9 rfl rfl (fun w' c hA=>?_) ?_
 ·exact EY (T #[.bool false,Y O 0 0] 99) (by simp[execOp,go_sem]) ⟨w'.heap.size,c.size,rfl,cw _ _⟩
 intro v w' c hv;obtain⟨q,hq,rfl,A⟩:=hv;clear c hq A w';simp only[Au,a6,bX,bO];refine AH rfl ?_
 iterate 2 (refine Bi rfl rfl rfl ?_;intro K hK;go_big_quiet_op;go_big_quiet_on)
 refine AR ?_;intro t j E;have bA:=E 15 _ (by decide) rfl;obtain⟨bz,A⟩:=Bh.at_ (E 20 _ (by decide) rfl);obtain⟨a4,c4,a5,c5,e3,aF,aH⟩:=bA;injection e3 with e3;simp only[cz,cu,ct,bY,true_and,and_true] at e3;obtain⟨⟨rfl,rfl⟩,rfl,rfl⟩:=e3;obtain⟨z0,z1⟩:=r2 A;obtain⟨f0,f1⟩:=f2 A;obtain⟨p,aE⟩:=ex ((t.setCell ⟨q,0,O⟩ (.bool m)).setCell ⟨q,1,O⟩ (Y n l'.length c2));refine AI (w':=p) (by rw[aE];simp[execOp,go_sem,z0,f0,z1,f1]) ?_;unfold A7;have Q:p=setsAt t q 0 [(0,.bool m),(1,Y n l'.length c2)]:=aE;have az:Hq (Bl w p):=by rw[Q];exact DH bz j _
 have ax:p.heap[q]? =Z (T #[.bool m,Y n l'.length c2] 99 (0,0)):=by rw[Q];exact Di _ A
 have bc:Hq (Bm p D (Y n l'.length c2) l'):=by rw[Q];exact Gb aF.rd (OS aF A (by simp)) bb.o
 have bg:Hq (Fj p (NM g a) (Y y l.length c3) l):=by rw[Q];exact QL (aH.rd.mono (cB _)) (E9 (Ty.Bw aH) A (by decide)) (fun q hq=>EF H.o hq)
 clear aF aH;clear aE Q j E A z0 f0 z1 f1 aO aB S V r bH bI af aN;have L:=H.o.below az.o;have ap:=HJ.o.below az.o;have aJ:q<p.heap.size:=Aa ax;obtain⟨C,j1,F,j3,j4,j5,M⟩:=ap.cells;have r:N<p.heap.size:=Aa ap;have af:=qC C r;have aN:=qC F r;have ag:=L.Ku aG;have V:=L.lt;have aO:=qC ag V;have aB:=L.ev.cap;have S:=L.ev.lt;have bF:=qC (show p.cell? ⟨q,0,O⟩=_ from Cr ax) aJ;have bG:=qC (show p.cell? ⟨q,1,O⟩=_ from Cr ax) aJ;obtain⟨H1,bL⟩:=H2 L ap;clear L ap C j1 F j3 j4 j5 M ag ax;go_upto_region 2 with (fail);refine AS 16 [15] [] [] trivial ?_
 iterate 15 (refine An rfl rfl rfl ?_;intro K hK;go_big_quiet_op;go_big_quiet_on)
 refine AH rfl ?_;refine AR ?_;intro t j E;clear E;have h9:=H1.o.below j;have F9:∀ o,t.frozen? ⟨a.ev.b,o,O⟩=false:=h9.ev.frozen aG;obtain⟨v,an,_⟩:=h9.ev.el k X;have z0:t.cell? ⟨a.ev.b,k*2,O⟩=Z _:=an 0 _ rfl;have f0:=F9 (k*2);have z1:t.cell? ⟨a.ev.b,k*2+1,O⟩=Z _:=an 1 _ rfl;have f1:=F9 (k*2+1);have ar:=h9.Ls X [(0,.bool m),(1,Y n l'.length c2)] rfl an (x:=⟨m,l'⟩) fun w' br bu=>⟨_,br,(bc.o.Ag (.C9 j)).Ag bu⟩;obtain⟨P,R⟩:=ex ((t.setCell ⟨a.ev.b,k*2,O⟩ (.bool m)).setCell ⟨a.ev.b,k*2+1,O⟩ (Y n l'.length c2));refine AI (w':=P) (by rw[R];simp[execOp,go_sem,z0,f0,z1,f1]) ?_;unfold A7;have aT:Hq (PA P D g d a {s with events:=s.events.set k ⟨m,l'⟩}):=by rw[R];exact ar.1
 have bk:Hq (Upd (Mut g a) p P):=by rw[R];exact(Upd.below j).trans ar.2
 have aU:Hq (Upd (Mut g a) w P):=by rw[R];exact((Upd.below az.o).trans (Upd.below (j.mono (bK _)))).trans ar.2
 clear R ar an F9 h9 j z0 f0 z1 f1 aO aB S V r bF bG af aN aJ;have h2:=aT.o;have aq:=HJ.o.BG aU.o bf.o;obtain⟨C,j1,F,j3,j4,j5,M⟩:=aq.cells;have r:N<P.heap.size:=Aa aq;have af:=qC C r;have bE:=qC M r;have bM:=HH aq;clear h2 aq C j1 F j3 j4 j5 M;go_upto_region 3 with (fail);refine BQ 9 [] trivial ?_
 iterate 9 (refine AK rfl ?_;intro K hK;go_big_quiet_op;go_big_quiet_on)
 refine BN ?_;intro t j E;simp only[cE,cN,cQ];have aD:=aU.o.trans (Upd.below j);obtain⟨aQ,bm⟩:=H2 (IG B t D g d a _ now (Y O 0 0) (Y y l.length c3) [] l (HG.o.BG aD HM.o) HM.o (aT.o.below j) bi.o A4.nil ((bg.o.Ag (KeepD.nm bk.o)).below j) (by simp) (fun z hz=>by cases hz) (by omega) bh.o bB bC) aD;clear E j aD af bE r;go_wp2_with fail;refine aQ.o.mono ?_;rintro e w3 ⟨rfl,p3,u3⟩;obtain⟨bj,bl⟩:=H2 p3 (bm.o.trans u3);clear p3 u3 aQ;go_wp2_with fail;go_ret;rw[HE.o];exact⟨rfl,bj.o,bl.o⟩
def TC:EG 125:=fun _ _=>by kernel_rfl
def Wi(B:Nat)(w:a2)(D:Nat→Prop)(g:Nat)(d:Ad)(a:Hd)(s:Ae)(kind:Int)(k:Nat)(b:Int)(data:List Int)(R:Nat)(vd:a1)(i:Nat)(now:Int)(aV:Gl B w)(hM:∀ q∈Mut g a,B≤q)(h:PA w D g d a s)(ok:Ah d s)(hj:JB w R g kind k b vd i now)(be:R∉Mut g a)(hD:∀ q,w.heap.size≤q→D q)(bV:0≤now)(bW:now≤4294967296)(hk:k<s.boards.length)(hi:i<d.procs.length)(aL:A4 w (NM g a) vd data)(aK:0<data.length)(cf:data.length≤64)(ba:Bf data):
  cm prog 86 #[G (Z ⟨R,0,O⟩)] w fun e w'=>e=.returned (.bool true)∧PA w' D g d a (Ks d now (⟨kind,k,b,data⟩:Ac) s)∧Upd (Mut g a) w w':=by
 obtain⟨ad,cd,rfl,ce,_,bg⟩:=aL.1.open_;obtain⟨bd,od,rfl,_,bM,a9⟩:=bg aK;have yd:w.cell? ⟨bd,od,O⟩=Z (I U data[0]):=by have:=a9 0 aK;simpa using this
 have qd:=qC yd bM;have cg:(0:Int)<(data.length:Int):=by omega
 have bc:data.getD 0 0=data[0]:=by rw[cF,ca aK];rfl
 obtain⟨br,bs⟩:=H2 aL ba;clear aL ba bg a9 yd;obtain⟨E,j1,L,j3,M,j5,Q⟩:=hj.cells;have l:R<w.heap.size:=Aa hj;have aj:=qC E l;have aS:=qC L l;have aT:=qC M l;have aN:0<s.boards.length:=by omega
 have ak:=h.I7 aN;have ab:=h.lt;have aU:=qC ak ab;have aG:=h.bo.cap;have P:=h.bo.lt;have h6:=ok.ok.procs;obtain⟨v,hc,hr⟩:=h.bo.el k hk;obtain⟨y0,y1,y2⟩:=EO hc;have b4:=qC y0 P;have b5:=qC y1 P;have b6:=qC y2 P;obtain⟨av,cv,rfl,_,_,_⟩:=hr.1.open_;have aC:=(ok.bo _ (bZ hk));obtain⟨m,p,l',n,er,hw⟩:∃ m p l' n er,Dh s.boards[k].has s.boards[k].val s.boards[k].wait data[0]=(m,p,l',n,er):=⟨_,_,_,_,_,rfl⟩;have HC:Hq (∀ W,Bl w W→cm prog 125 #[.agg #[.bool s.boards[k].has,I U s.boards[k].val,.slice av s.boards[k].wait.length cv],I U data[0]] W (NI W m p l' n (I J er))):=fun W c=>by
  have:=YQ s.boards[k].has s.boards[k].val data[0] (.slice av s.boards[k].wait.length cv) s.boards[k].wait W (hr.1.below c) (aC.wf h6) (by have:=aC.len;omega);rwa [hw] at this
 have HE:Hq (Ks d now (⟨kind,k,b,data⟩:Ac) s=wakeP d now data n {s with boards:=s.boards.set k ⟨m,p,l'⟩}):=by
  show Ks d now (⟨kind,k,b,data⟩:Ac) s=_;simp only[Ks,boA,ch,getD_at _ _ hk,bc,hw]
 have ae:=Qt (b:=s.boards[k].has) (x:=s.boards[k].val) (v:=data[0]) aC;rw[hw] at ae;have bC:Hq (Ah d {s with boards:=s.boards.set k ⟨m,p,l'⟩}):=ok.Km k ae.1;have bB:Hq (∀ z∈n,z<(s.procs.length:Int)):=by rw[ok.procs];exact ae.2.1
 have cj:n.length≤6:=cL ae.2.2 h6;clear hw hr aC ae bc;have ci:(k:Int)<(s.boards.length:Int):=by omega
 obtain⟨H,HJ,bt,HG,HM,bz⟩:=H6 h hj hD aV hM be;clear h hj hD ok hc aV hM be E j1 L j3 M j5 Q ak y0 y1 y2;go_enter func86,ntmps86;go_upto_region 1 with (fail);refine AS 31 [28] [25,26,29,30] [(22,(fun v w'=>∃ t c2 A c3,v=.tuple #[.agg #[.bool m,I U p,Y t l'.length c2],Y A n.length c3,I J er]∧Ax w' w.heap.size (Y t l'.length c2) l'∧OwnI w' w.heap.size (Y A n.length c3) n)),(27,Bh w.heap.size #[.bool false,I U 0,Y O 0 0] 103)] ⟨(fun v w1 w2 ⟨t,c2,A,c3,e,h,h'⟩ c=>⟨t,c2,A,c3,e,Ty.below h c,CA h' c⟩),Bh.AX,trivial⟩ ?_
 iterate 22 (refine An rfl rfl rfl ?_;intro K hK;go_big_quiet_op;go_big_quiet_on)
 refine A9 rfl rfl (fun w' c hA=>?_) ?_
 ·refine AD (f:=125) (al:=[.agg #[.bool s.boards[k].has,I U s.boards[k].val,.slice av s.boards[k].wait.length cv],I U data[0]]) rfl rfl rfl TC ?_;exact(HC.o w' c).mono fun e w2 h=>by
   obtain⟨u,z,he,hf,ho,bL⟩:=h;obtain⟨t,c2,hu⟩:=Bc hf.fr;obtain⟨A,m3,c3,hz,bR⟩:=MS ho;subst hu hz bR;exact⟨_,he,bL,_,_,_,_,rfl,Ty.mono hf c.size,Cx ho c.size⟩
 intro v w' c hv;obtain⟨t,c2,A,c3,rfl,bP,bS⟩:=hv;clear c bP bS w';simp only[Au,a6,bX,bO]
 iterate 2 (refine An rfl rfl rfl ?_;intro K hK;go_big_quiet_op;go_big_quiet_on)
 iterate 2 (refine Bi rfl rfl rfl ?_;intro K hK;go_big_quiet_op;go_big_quiet_on)
 refine A9 rfl rfl (fun w' c hA=>?_) ?_
 ·exact EY (T #[.bool false,I U 0,Y O 0 0] 103) (by simp[execOp,go_sem]) ⟨w'.heap.size,c.size,rfl,cw _ _⟩
 intro v w' c hv;obtain⟨q,hq,rfl,C⟩:=hv;clear c hq C w';simp only[Au,a6,bX,bO];refine AH rfl ?_
 iterate 2 (refine Bi rfl rfl rfl ?_;intro K hK;go_big_quiet_op;go_big_quiet_on)
 refine AR ?_;intro y j F;have bU:=F 22 _ (by decide) rfl;obtain⟨bT,C⟩:=Bh.at_ (F 27 _ (by decide) rfl);obtain⟨a4,c4,a5,c5,e3,aM,aO⟩:=bU;injection e3 with e3;simp only[cz,cu,ct,bY,true_and,and_true] at e3;obtain⟨⟨rfl,rfl⟩,rfl,rfl⟩:=e3;obtain⟨z0,z1,z2⟩:=r3 C;obtain⟨f0,f1,f2⟩:=f3 C;obtain⟨r,aJ⟩:=ex (((y.setCell ⟨q,0,O⟩ (.bool m)).setCell ⟨q,1,O⟩ (I U p)).setCell ⟨q,2,O⟩ (Y t l'.length c2));refine AI (w':=r) (by rw[aJ];simp[execOp,go_sem,z0,f0,z1,f1,z2,f2]) ?_;unfold A7;have V:r=setsAt y q 0 [(0,.bool m),(1,I U p),(2,Y t l'.length c2)]:=aJ;have aD:Hq (Bl w r):=by rw[V];exact DH bT j _
 have ai:r.heap[q]? =Z (T #[.bool m,I U p,Y t l'.length c2] 103 (0,0)):=by rw[V];exact Di _ C
 have bu:Hq (Bm r D (Y t l'.length c2) l'):=by rw[V];exact Gb aM.rd (E9 aM C (by decide)) bt.o
 have bA:Hq (Fj r (NM g a) (Y A n.length c3) n):=by rw[V];exact QL (aO.rd.mono (cB _)) (E9 (Ty.Bw aO) C (by decide)) (fun q hq=>EF H.o hq)
 clear aM aO;clear aJ V j F C z0 f0 z1 f1 z2 f2 aU aG P ab l b4 b5 b6 aj aS aT qd;have N:=H.o.below aD.o;have ax:=HJ.o.below aD.o;have aA:q<r.heap.size:=Aa ai;obtain⟨E,j1,L,j3,M,j5,Q⟩:=ax.cells;have l:R<r.heap.size:=Aa ax;have aj:=qC E l;have aS:=qC L l;have ak:=N.I7 aN;have ab:=N.lt;have aU:=qC ak ab;have aG:=N.bo.cap;have P:=N.bo.lt;have b1:=qC (show r.cell? ⟨q,0,O⟩=_ from Cr ai) aA;have b2:=qC (show r.cell? ⟨q,1,O⟩=_ from Cr ai) aA;have b3:=qC (show r.cell? ⟨q,2,O⟩=_ from Cr ai) aA;obtain⟨H1,b8⟩:=H2 N ax;clear N ax E j1 L j3 M j5 Q ak ai;go_upto_region 2 with (fail);refine AS 16 [15] [] [] trivial ?_
 iterate 15 (refine An rfl rfl rfl ?_;intro K hK;go_big_quiet_op;go_big_quiet_on)
 refine AH rfl ?_;refine AR ?_;intro y j F;clear F;have h9:=H1.o.below j;have F9:∀ o,y.frozen? ⟨a.bo.b,o,O⟩=false:=h9.bo.frozen aN;obtain⟨v,aa,_⟩:=h9.bo.el k hk;have z0:y.cell? ⟨a.bo.b,k*3,O⟩=Z _:=aa 0 _ rfl;have f0:=F9 (k*3);have z1:y.cell? ⟨a.bo.b,k*3+1,O⟩=Z _:=aa 1 _ rfl;have f1:=F9 (k*3+1);have z2:y.cell? ⟨a.bo.b,k*3+2,O⟩=Z _:=aa 2 _ rfl;have f2:=F9 (k*3+2);have az:=h9.Kq hk [(0,.bool m),(1,I U p),(2,Y t l'.length c2)] rfl aa (x:=⟨m,p,l'⟩) fun w' bN bQ=>⟨_,bN,(bu.o.Ag (.C9 j)).Ag bQ⟩;obtain⟨S,X⟩:=ex (((y.setCell ⟨a.bo.b,k*3,O⟩ (.bool m)).setCell ⟨a.bo.b,k*3+1,O⟩ (I U p)).setCell ⟨a.bo.b,k*3+2,O⟩ (Y t l'.length c2));refine AI (w':=S) (by rw[X];simp[execOp,go_sem,z0,f0,z1,f1,z2,f2]) ?_;unfold A7;have aZ:Hq (PA S D g d a {s with boards:=s.boards.set k ⟨m,p,l'⟩}):=by rw[X];exact az.1
 have bE:Hq (Upd (Mut g a) r S):=by rw[X];exact(Upd.below j).trans az.2
 have aE:Hq (Upd (Mut g a) w S):=by rw[X];exact((Upd.below aD.o).trans (Upd.below (j.mono (bK _)))).trans az.2
 clear X az aa F9 h9 j z0 f0 z1 f1 z2 f2 aU aG P ab l b1 b2 b3 aj aS aA;have h2:=aZ.o;have ay:=HJ.o.BG aE.o bz.o;obtain⟨E,j1,L,j3,M,j5,Q⟩:=ay.cells;have l:R<S.heap.size:=Aa ay;have aj:=qC E l;have aT:=qC M l;have b0:=qC Q l;have b9:=HH ay;clear h2 ay E j1 L j3 M j5 Q;go_upto_region 3 with (fail);refine BQ 14 [] trivial ?_
 iterate 14 (refine AK rfl ?_;intro K hK;go_big_quiet_op;go_big_quiet_on)
 refine BN ?_;intro y j F;simp only[cE,cN,cQ];have aI:=aE.o.trans (Upd.below j);obtain⟨aW,bG⟩:=H2 (IG B y D g d a _ now (Y (Z ⟨bd,od,O⟩) data.length cd) (Y A n.length c3) data n (HG.o.BG aI HM.o) HM.o (aZ.o.below j) bC.o ((br.o.Ag (KeepD.nm aE.o)).below j) ((bA.o.Ag (KeepD.nm bE.o)).below j) (by omega) bs.o (by omega) bB.o bV bW) aI;clear F j aI aj aT b0 l;go_wp2_with fail;refine aW.o.mono ?_;rintro e w3 ⟨rfl,p3,u3⟩;obtain⟨bD,bF⟩:=H2 p3 (bG.o.trans u3);clear p3 u3 aW;go_wp2_with fail;go_ret;rw[HE.o];exact⟨rfl,bD.o,bF.o⟩
end Go.Proofs.YtiepijihpgijbaaGreatDoor
