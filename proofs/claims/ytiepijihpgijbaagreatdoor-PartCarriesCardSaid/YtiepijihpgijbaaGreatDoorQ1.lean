import Derived.StillTail
import Derived.Below
import Derived.Tactics
import Derived.Tactics2
import Derived.KernelRfl
import Derived.RowKit
import Derived.Laws.MakeOwn
import Derived.LoopTactic
import Derived.IntWalk
import Derived.Outline
import Derived.Deep.RegionHeld3
import Derived.Test.YtiepijihpgijbaaGreatDoorQ0
set_option maxHeartbeats 4000000
set_option maxRecDepth 100000
set_option linter.all false
open Option renaming some→Z,none→O
open Go.IntKind renaming u8→U,i64→J
open Go.Value renaming slice→Y,int→I,pointer→G
open Go.Obj renaming cells→T
open Array renaming getElem?_eq_some_iff→bC,replicate→bK,getElem?_setIfInBounds→cA,getD→cF,getElem_append_right→df,getElem_append_left→di,size_replicate→dp,toList_push→dw,size_append→dx
open Go renaming Value→bF,World→bG,Program→bX,Oper→bY,getD_replicate_false→b0,execOp→b3,heap_alloc_new→b8,mem_ready→cc,bodyPost_ret→ce,TypeId→cm,undef→cr,Calls→ct,HeadInv→cw,getD_both→cJ,results→cL,getD_in→cM,cell_of_row→cN,madeCells→cT,wp_region_any→cX,wpList→c6,execOp_congr→dc,MapEntry→dd,IntKind→de,yielded→dj,Addr→dB,Exit→dK,wpAny→dL
open Nat renaming le_refl→bH,le_of_lt→bP,lt_of_lt_of_le→ch,lt_succ_self→cn,lt_or_ge→cW,zero_add→dn,zero_le→ds
open Option.some renaming inj→bI,injEq→cQ
open Bool renaming false_eq_true→bL,and_eq_true→b5,or_eq_true→cC,not_eq_true'→cV,eq_iff_iff→db
open Go.RowKit.Below renaming refl→bM,heap_setCell→cE,heap_alloc→dA
open List renaming mem_of_getElem?→bN,getElem?_eq_getElem→bO,contains_iff_mem→bQ,getElem?_eq_some_iff→bR,range→bT,drop_eq_getElem_cons→bU,take_succ_cons→bV,setIfInBounds_toArray→bW,all_eq_true→b4,drop_zero→b7,toArray→b9,set_cons_zero→ca,set_cons_succ→cb,mem_range→cf,replicate→ck,getD_eq_getElem?_getD→cl,drop_succ_cons→cq,filterMap_append→cu,mem_append_left→cx,getElem?_of_mem→cy,getElem_of_mem→cD,mem_filterMap→cG,filter_append→cH,drop_nil→cK,mem_map→cO,eq_nil_iff_forall_not_mem→cY,cons_append→cZ,take_zero→dh,drop_eq_nil_of_le→dk,filterMap_cons→dt,mem_cons_self→du,getElem?_drop→dv,getElem_inj→dC,range_succ→dG,mem_cons→dJ,length→dN
open Go.Instr renaming findNow→bS,sameNow→cI,mapUpdate→dE
open Go.Region renaming wanted→bZ,noSelect_spec→cv,ready→cB,binds→cS,noSelect→dy
open And renaming intro→ci
open Classical renaming byContradiction→cj
open Go.Code renaming region→cz
open Go.Value.slice renaming injEq→cP
open Go.Value renaming int→cR,slice→dl
open Go.Oper renaming looksAt→cU,quietUpon→dI
open Go.Result renaming andThen→da
open Go.Sem renaming run_bind→dm
open Go.Obj.cells renaming injEq→dq
open Go.Deferred renaming ofValue→dr
open Option renaming map_some→dz
open Int renaming toNat_natCast→dD
open Go.World renaming alloc_eq→dF,frozen?→dH,cell?→dM
namespace Go.Proofs.YtiepijihpgijbaaGreatDoor
open Go.RowKit Tryz
def Iv(P:bX)(a:bF→bG→Prop):Result Next→Prop
 | .ok (.value v) w'=>a v w'
 | .ok .skip w'=>a cr w'
 | .ok (.enter f args) w'=>ct P f args w' (fun e b=>∃ v,e=.returned v∧a v b)
 | _=>False
def Bd(P:bX)(o:bY)(a:Act)(w:bG)(b:bF→bG→Prop):Prop:=Iv P b ((b3 a.eval o).run P w)
def Hr{P:bX}{o:bY}{a b:Act}{w:bG}{d:bF→bG→Prop}{K:Act→bG→Prop}{Q:dK→Act→bG→Prop}
  (c:b3 b.eval o=b3 a.eval o) (h:Bd P o a w d) (hK:∀ v w',d v w'→K (b.put o.dst v) w'):o.wp P b w K Q:=by
 unfold Bd at h;rw[←c] at h;unfold Oper.wp;generalize (b3 b.eval o).run P w=r at*;cases r with
 |ok n w'=>
  cases n<;>simp only[Iv] at h<;>simp only[Oper.upon]
  case value u=>exact hK _ _ h
  case skip=>exact hK _ _ h
  case enter f args=>
   exact h.mono fun e i ⟨v,c,g⟩=>by subst c;exact hK _ _ g
 |halt x w'=>simp only[Iv] at h
def Av(ops:Array bY)(i:Nat):Option Tmp:=(ops[i]?).bind (·.dst)
def Ba(ops:Array bY)(listed:Array Bool)(vs:Nat→bF)(a:Act):Nat→Act
 |0=>a
 |k+1=>if listed.getD k false then(Ba ops listed vs a k).put (Av ops k) (vs k) else Ba ops listed vs a k
def Ar(ops:Array bY)(vs:Nat→bF)(a:Act):Nat→Act
 |0=>a
 |k+1=>(Ar ops vs a k).put (Av ops k) (vs k)
section
variable {ops:Array bY} {listed:Array Bool} {vs:Nat→bF} {a:Act}
def Jp:∀ n,(∀ i,i<n→listed.getD i false=true)→Ba ops listed vs a n=Ar ops vs a n
 |0,_=>rfl
 |n+1,h=>by
  simp only[Ba,Ar,h n (cn n),if_true];rw[Jp n (fun i b=>h i (by omega))]
def Ln{c:Array Bool}{vs':Nat→bF}:∀ n,(∀ i,i<n→c.getD i false=listed.getD i false)→(∀ i,i<n→listed.getD i false=true→vs' i=vs i)→Ba ops c vs' a n=Ba ops listed vs a n
 |0,_,_=>rfl
 |n+1,h,b=>by
  simp only[Ba,h n (cn n)];rw[Ln n (fun i d=>h i (by omega)) (fun i d=>b i (by omega))];split
  ·rename_i e;rw[b n (cn n) e]
  ·rfl
def Dk{l:Array Bool}{i j:Nat}(b:i<l.size):(l.setIfInBounds i true).getD j false=if j=i then true else l.getD j false:=by
 by_cases h:j=i
 ·subst h;simp[cF,b]
 ·rw[if_neg h,getD_set_ne false (fun e=>h e.symm)]
def Jq{n i:Nat}{v:bF}(o:i<n)(c:i<listed.size)(h:listed.getD i false=false)(e:∀ j k,j<n→k<n→j≠k→∀ t,Av ops j=Z t→Av ops k≠Z t):
  Ba ops (listed.setIfInBounds i true) (fun j=>if j=i then v else vs j) a n=(Ba ops listed vs a n).put (Av ops i) v:=by
 induction n with
 |zero=>omega
 |succ n l=>
  by_cases b:n=i
  ·subst b;simp only[Ba,Dk c,if_true,h,bL,if_false];rw[Ln (listed:=listed) (vs:=vs) n (fun j f=>by rw[Dk c,if_neg (by omega)]) (fun j f _=>by rw[if_neg (by omega)])]
  ·have m:=l (by omega) (fun j k f p=>e j k (by omega) (by omega));simp only[Ba,Dk c,if_neg b];rw[m];split
   ·exact(Act.put_comm _ _ _ (fun d g=>e n i (by omega) (by omega) b d g)).symm
   ·rfl
def Nb:∀ n,(Ba ops listed vs a n).tmps.size=a.tmps.size
 |0=>rfl
 |n+1=>by
  simp only[Ba];split
  ·cases b:Av ops n<;>simp[Act.put,Nb n]
  ·exact Nb n
def Ym{b:Act}{t:Tmp}{v:bF}(c:t<b.tmps.size):(b.put (Z t) v).eval (.tmp t)=v:=by
 simp[Act.eval,Act.put,c]
def PZ{b:Act}{d:Option Tmp}{t:Tmp}{v:bF}(h:d≠Z t):(b.put d v).eval (.tmp t)=b.eval (.tmp t):=
 Act.eval_put fun f c e=>h (by rw[c];injection e with e;rw[e])
def Gy{t:Tmp}:∀ n,(∀ j,j<n→listed.getD j false=true→Av ops j≠Z t)→(Ba ops listed vs a n).eval (.tmp t)=a.eval (.tmp t)
 |0,_=>rfl
 |n+1,h=>by
  simp only[Ba];split
  ·rename_i c;rw[PZ (h n (cn n) c)];exact Gy n (fun j b=>h j (by omega))
  ·exact Gy n (fun j b=>h j (by omega))
def Hz{t:Tmp}{i n:Nat}(m:i<n)(g:listed.getD i false=true)(d:Av ops i=Z t)(h:t<a.tmps.size)(b:∀ j k,j<n→k<n→j≠k→∀ t,Av ops j=Z t→Av ops k≠Z t):
  (Ba ops listed vs a n).eval (.tmp t)=vs i:=by
 induction n with
 |zero=>omega
 |succ n l=>
  simp only[Ba];by_cases c:n=i
  ·subst c;rw[if_pos g,d,Ym (by rw[Nb];exact h)]
  ·have f:=l (by omega) (fun j k o p=>b j k (by omega) (by omega));split
   ·rw[PZ (b i n (by omega) (by omega) (fun e=>c e.symm) t d)];exact f
   ·exact f
def Jo(n:Nat):∃ l:Array Bool,(∀ i,i<n→l.getD i false=true)∧Ar ops vs a n=Ba ops l vs a n:=
 ⟨bK n true,fun i b=>by simp[cF,b],(Jp n (fun i b=>by simp[cF,b])).symm⟩
end
def BH(ops:Array bY)(i j:Nat):Bool:=((ops[i]?).map fun o=>o.after.any fun e=>cS .any e && e.on==j).getD false
def CO(ops:Array bY)(n m:Nat):Bool:=
 decide (n≤ops.size) && dy ops &&
 (bT n).all (fun i=>match ops[i]? with
  |none=>false
  |some o=>o.guard.isNone && o.after.all (fun e=>!cS .any e||decide (e.on<i)) && (match o.dst with|some t=>decide (t<m)|none=>true) &&
   (bT n).all (fun j=>j==i||(match Av ops j with|none=>true|some t=>Av ops i !=Z t && (!((o.looksAt ops).contains t)||BH ops i j))) &&
   (match o.dst with|some t=>!((o.looksAt ops).contains t)|none=>true))
def GV(ops:Array bY)(n:Nat):Bool:=
 (decide (n=ops.size)||(decide (n<ops.size) && Region.sinkB .any ops n && Region.chainB .any ops n)) &&
 Region.seqB .any ops (ops.size-n) n ((bK n true)++(bK (ops.size-n) false))
section
variable {ops:Array bY} {n m:Nat}
structure Rc(ops:Array bY)(n m i:Nat)(o:bY):Prop where
 at_:ops[i]? =Z o
 Jh:o.guard=O
 back:∀ e∈o.after,cS .any e=true→e.on<i
 low:∀ t,o.dst=Z t→t<m
 apart:∀ j,j<n→j≠i→∀ t,Av ops j=Z t→Av ops i≠Z t∧(t∈o.looksAt ops→BH ops i j=true)
 own:∀ t,o.dst=Z t→t∉o.looksAt ops
def DM(h:CO ops n m=true):n≤ops.size∧dy ops=true∧∀ i,i<n→∃ o,Rc ops n m i o:=by
 simp only[CO,b5,decide_eq_true_eq,b4,cf] at h;obtain⟨⟨q,r⟩,s⟩:=h;refine⟨q,r,fun i w=>?_⟩;have b:=s i w;cases d:ops[i]? with
 |none=>simp[d] at b
 |some o=>
  simp only[d,b5,b4,cf] at b;obtain⟨⟨⟨⟨f,g⟩,k⟩,l⟩,p⟩:=b;refine⟨o,d,by simpa using f,fun e v u=>?_,fun t a=>?_,fun j x z t a=>?_,fun t a=>?_⟩
  ·have:=(Array.all_eq_true_iff_forall_mem.1 g) e v;simpa[u] using this
  ·simpa[a] using k
  ·have:=l j x;simp only[cC,beq_iff_eq,z,false_or,a,b5,bne_iff_ne,ne_eq,cV] at this;refine⟨this.1,fun y=>?_⟩;rcases this.2 with c|c
   ·simp[y] at c
   ·exact c
  ·simpa[a] using p
def Cq(listed:Array Bool):Nat→Nat
 |0=>0
 |n+1=>Cq listed n+if listed.getD n false then 0 else 1
def Ie{listed:Array Bool}:∀ {n},Cq listed n=0→∀ i,i<n→listed.getD i false=true
 |n+1,h,i,b=>by
  simp only[Cq] at h;by_cases e:i=n
  ·subst e;cases a:listed.getD i false
   ·rw[a] at h;simp at h
   ·rfl
  ·exact Ie (n:=n) (by omega) i (by omega)
def I9{listed:Array Bool}:∀ {n},0<Cq listed n→∃ i,i<n∧listed.getD i false=false∧∀ j,j<i→listed.getD j false=true
 |n+1,h=>by
  by_cases b:0<Cq listed n
  ·obtain⟨i,f,c,d⟩:=I9 b;exact⟨i,by omega,c,d⟩
  ·have a:Cq listed n=0:=by omega
   simp only[Cq,a] at h;refine⟨n,cn n,?_,Ie a⟩;cases e:listed.getD n false
   ·rfl
   ·rw[e] at h;simp at h
def QH{listed:Array Bool}{i:Nat}(a:i<listed.size):∀ {n},n≤i→Cq (listed.setIfInBounds i true) n=Cq listed n
 |0,_=>rfl
 |n+1,h=>by
  simp only[Cq];rw[QH a (by omega),Dk a,if_neg (show¬n=i by omega)]
def IA{listed:Array Bool}{i:Nat}(a:i<listed.size)(b:listed.getD i false=false):∀ {n},i<n→Cq (listed.setIfInBounds i true) n+1=Cq listed n
 |n+1,h=>by
  simp only[Cq];by_cases e:n=i
  ·subst e;rw[QH a (bH _),Dk a,if_pos rfl,b];simp
  ·have:=IA a b (n:=n) (by omega);rw[Dk a,if_neg e];omega
def G6{i j:Nat}{o:bY}(a:ops[i]? =Z o):BH ops i j=true↔∃ e∈o.after,cS .any e=true∧e.on=j:=by
 simp only[BH,a,dz,Option.getD_some,Array.any_eq_true',b5,beq_iff_eq]
end
section
variable {P:bX} {id:Nat} {l:List bY} {Q:dK→Act→bG→Prop} {a:Act} {w:bG}
end
def Bn{P:bX}{o:bY}{a:Act}{w w':bG}{v:bF}{b:bF→bG→Prop}(h:(b3 a.eval o).run P w=.ok (.value v) w')(c:b v w'):Bd P o a w b:=by
 unfold Bd;rw[h];exact c
def OO{P:bX}{o:bY}{a:Act}{w w':bG}{f:FuncId}{args:Array bF}{b:bF→bG→Prop}(h:(b3 a.eval o).run P w=.ok (.enter f args) w')(c:ct P f args w' (fun e d=>∃ v,e=.returned v∧b v d)):Bd P o a w b:=by
 unfold Bd;rw[h];exact c
def kdT(t:cm):de:=if t=5 then U else J
def Jz(t:cm):Nat:=if t=5 then 1 else 3
def D6(t:cm)(w:bG)(B C:Nat)(v:bF)(n:Nat):Prop:=
 ∃ (a:Option dB) (c:Nat),v=Y a n c∧(0<n→∃ b d,a=Z ⟨b,d,O⟩∧B≤b∧b<C∧Tag w b t∧∀ k,k<n→∃ z,w.cell? ⟨b,d+k*Jz t,O⟩=Z (I (kdT t) z))
section
variable {w w':bG} {B B' C n:Nat} {t:cm} {v:bF}
def Tag.next{g:Nat}(h:Tag w g t)(c:Bl w w'):Tag w' g t:=by
 obtain⟨b,a⟩:=h;exact⟨b,(c.block _ (Aa a)).trans a⟩
def D6.of{e:List bF}(h:Ty w B t (Jz t) v n e)(j:∀ k,k<n→∃ z,e[k*Jz t]? =Z (I (kdT t) z)):D6 t w B w.heap.size v n:=by
 obtain⟨a,c,o,u,x,y,m⟩:=h;refine⟨a,c,o,fun s=>?_⟩;obtain⟨b,r,f,i,g,d,_,p⟩:=m (by omega);refine⟨b,r,i,g,Aa d,⟨f,d⟩,fun k l=>?_⟩;obtain⟨z,q⟩:=j k l;exact⟨z,by rw[cN _ _ _ _ _ _ d];exact p _ _ q⟩
def D6.mono(h:D6 t w B C v n)(j:B'≤B):D6 t w B' C v n:=by
 obtain⟨a,c,g,f⟩:=h;refine⟨a,c,g,fun d=>?_⟩;obtain⟨b,i,e,k,r⟩:=f d;exact⟨b,i,e,by omega,r⟩
def D6.next(h:D6 t w B C v n)(d:Bl w w'):D6 t w' B C v n:=by
 obtain⟨a,c,s,q⟩:=h;refine⟨a,c,s,fun g=>?_⟩;obtain⟨b,x,l,i,j,r,m⟩:=q g;obtain⟨f,e⟩:=r;refine⟨b,x,l,i,j,Tag.next ⟨f,e⟩ d,fun k o=>?_⟩;obtain⟨z,u⟩:=m k o;exact⟨z,(d.cell (p:=⟨b,_,O⟩) (Aa e)).trans u⟩
def D6.up{d:Nat}(h:D6 t w B C v n)(m:C≤d):D6 t w B d v n:=by
 obtain⟨a,c,j,i⟩:=h;refine⟨a,c,j,fun e=>?_⟩;obtain⟨b,k,g,f,l,r⟩:=i e;exact⟨b,k,g,f,by omega,r⟩
def D6.set{t0:cm}{d o:Nat}{u:bF}(h:D6 t w B C v n)(D:Tag w d t0)(g:w.cell? ⟨d,o,O⟩=Z u)(z:Int):D6 t (w.setCell ⟨d,o,O⟩ (I (kdT t0) z)) B C v n:=by
 obtain⟨a,c,E,A⟩:=h;refine⟨a,c,E,fun l=>?_⟩;obtain⟨b,j,r,p,q,i,x⟩:=A l;refine⟨b,j,r,p,q,i.set,fun k y=>?_⟩;by_cases e:(⟨d,o,O⟩:dB)=⟨b,j+k*Jz t,O⟩
 ·have s:d=b:=by injection e
  subst s;obtain⟨K,m⟩:=i;obtain⟨L,f⟩:=D;rw[m] at f;simp only[cQ,dq] at f;rw[←f.2.1,e];rw[e] at g;exact⟨z,World.cell?_setCell_same _ _ _ g⟩
 ·obtain⟨H,F⟩:=x k y;exact⟨H,by rw[World.cell?_setCell_other _ _ _ _ e];exact F⟩
def D6.at{a:Option dB}{m c:Nat}(h:D6 t w B C (Y a m c) n)(k:Nat)(p:k<n):∃ b d z,a=Z ⟨b,d,O⟩∧B≤b∧b<C∧b<w.heap.size∧Tag w b t∧w.cell? ⟨b,d+k*Jz t,O⟩=Z (I (kdT t) z)∧w.frozen? ⟨b,d+k*Jz t,O⟩=false:=by
 obtain⟨s,u,f,q⟩:=h;simp only[cP] at f;obtain⟨rfl,rfl,rfl⟩:=f;obtain⟨b,d,l,i,j,⟨g,e⟩,o⟩:=q (by omega);obtain⟨z,r⟩:=o k p;exact⟨b,d,z,l,i,j,Aa e,⟨g,e⟩,r,by simp[dH,e]⟩
end
structure TG(W0 w:bG)(g:Nat)(t:cm)(row:Array bF)(vs:List (cm×bF×Nat)):Prop where
 blk:w.heap[g]? =Z (T row t (0,0))
 bel:Bl W0 w
 ge:W0.heap.size≤g
 tn:∀ p∈vs,D6 p.1 w W0.heap.size g p.2.1 p.2.2
section
variable {W0 w w':bG} {g:Nat} {t:cm} {row:Array bF} {vs:List (cm×bF×Nat)}
def TG.next(h:TG W0 w g t row vs)(a:Bl w w'):TG W0 w' g t row vs:=
 ⟨(a.block _ (Aa h.blk)).trans h.blk,h.bel.trans (a.mono h.bel.size),h.ge,fun p b=>(h.tn p b).next a⟩
def TG.alloc(h:TG W0 w g t row vs)(o:Obj):TG W0 (w.alloc o) g t row vs:=h.next ((bM _ _).alloc (bH _) _)
def TG.set{b o:Nat}{t0:cm}{u:bF}(h:TG W0 w g t row vs)(a:W0.heap.size≤b)(f:b<g)(e:Tag w b t0)(c:w.cell? ⟨b,o,O⟩=Z u)(z:Int):TG W0 (w.setCell ⟨b,o,O⟩ (I (kdT t0) z)) g t row vs:=
 ⟨(cE _ _ _ _ (by show g≠b;omega)).trans h.blk,h.bel.setCell (p:=⟨b,o,O⟩) a _,h.ge,fun p d=>(h.tn p d).set e c z⟩
def TG.new{a:bG}(b:Bl W0 a)(d:∀ p∈vs,D6 p.1 a W0.heap.size a.heap.size p.2.1 p.2.2):TG W0 (a.alloc (T row t)) a.heap.size t row vs:=
 ⟨b8 a _,b.alloc b.size _,b.size,fun p c=>(d p c).next ((bM _ _).alloc (bH _) _)⟩
def TG.cell(h:TG W0 w g t row vs)(j:Nat)(x:bF)(a:row[j]? =Z x):w.cell? ⟨g,j,O⟩=Z x:=by
 rw[cN w _ _ _ _ _ h.blk];exact a
end
structure Ak(w:bG) where
 W:bG
 h:Bl w W
instance (w:bG):Inhabited (Ak w):=⟨⟨w,bM _ w⟩⟩
def Au(t:Array bF)(d:List Deferred)(k:Tmp)(v:bF):(⟨t,d⟩:Act).put (Z k) v=⟨t.setIfInBounds k v,d⟩:=rfl
inductive By(ops:Array bY):Nat→Nat→Prop
 |base {i j:Nat}:BH ops i j=true→By ops i j
 |step {i k j:Nat}:BH ops i k=true→By ops k j→By ops i j
section
variable {P:bX} {id:Nat} {l:List bY} {Q:dK→Act→bG→Prop} {a:Act} {w:bG} {ops:Array bY} {n m:Nat}
def CD(d:CO ops n m=true){i j:Nat}(g:i<n)(h:BH ops i j=true):j<i:=by
 obtain⟨_,_,f⟩:=DM d;obtain⟨o,H⟩:=f i g;obtain⟨e,c,b,rfl⟩:=(G6 H.at_).1 h;exact H.back e c b
def By.lt(c:CO ops n m=true){i j:Nat}(h:By ops i j):i<n→j<i:=by
 induction h with
 |base h=>exact fun b=>CD c b h
 |step h _ d=>exact fun b=>by have e:=CD c b h;have:=d (by omega);omega
def By.QG{i j k:Nat}(h:By ops i k)(b:BH ops k j=true):By ops i j:=by
 induction h with
 |base h=>exact .step h (.base b)
 |step h _ c=>exact .step h (c b)
def By.listed{listed:Array Bool}(d:CO ops n m=true)(q:cw .any ops n listed){i j:Nat}(h:By ops i j):i<n→listed.getD i false=true→listed.getD j false=true:=by
 obtain⟨_,_,k⟩:=DM d;have one:∀ {i j:Nat},i<n→BH ops i j=true→listed.getD i false=true→listed.getD j false=true:=fun {i j} b h c=>by
  obtain⟨o,H⟩:=k i b;obtain⟨e,g,f,rfl⟩:=(G6 H.at_).1 h;exact q.closed i o H.at_ c e g f
 induction h with
 |base h=>exact fun b c=>one b h c
 |step h _ p=>exact fun b c=>p (by have:=CD d b h;omega) (one b h c)
def E7(d:CO ops n a.tmps.size=true){i:Nat}{o:bY}(ho:ops[i]? =Z o)(p:i<n){us vs:Nat→bF}{k u:Nat}(F:i≤k)(aj:k≤n)(W:i≤u)(X:u≤n)
  (h:∀ j,BH ops i j=true→us j=vs j):b3 (Ar ops us a k).eval o=b3 (Ar ops vs a u).eval o:=by
 obtain⟨hn,am,D⟩:=DM d;have R:∀ j k,j<n→k<n→j≠k→∀ t,Av ops j=Z t→Av ops k≠Z t:=fun j k c F al t ht=>by
  obtain⟨o,H⟩:=D k F;exact(H.apart j c al t ht).1
 obtain⟨z,H⟩:=D i p;obtain rfl:z=o:=bI (H.at_.symm.trans ho);refine dc z (fun cs bb=>cv am i z cs bb ho) (fun x hx=>?_);cases x with
 |tmp t=>
  have aa:t∈z.looksAt ops:=by
   unfold cU;exact cx _ (cG.2 ⟨.tmp t,by simpa using hx,rfl⟩)
  have L:∀ (A:Nat→bF) (q:Nat),i≤q→q≤n→(∃ j,BH ops i j=true∧Av ops j=Z t∧(Ar ops A a q).eval (.tmp t)=A j)∨((∀ j,j<n→Av ops j≠Z t)∧(Ar ops A a q).eval (.tmp t)=a.eval (.tmp t)):=fun A q hq ar=>by
   obtain⟨la,ak,ad⟩:=Jo (ops:=ops) (vs:=A) (a:=a) q;by_cases S:∃ j,j<n∧Av ops j=Z t
   ·obtain⟨j,c,b⟩:=S;have ah:j≠i:=by
     rintro rfl;have:z.dst=Z t:=by simpa[Av,H.at_] using b
     exact H.own t this aa
    have ao:t<a.tmps.size:=by
     obtain⟨oj,M⟩:=D j c;exact M.low t (by simpa[Av,M.at_] using b)
    have r:=(H.apart j c ah t b).2 aa;have V:=CD d p r;refine .inl ⟨j,r,b,?_⟩;rw[ad];exact Hz (by omega) (ak j (by omega)) b ao (fun x y hx hy=>R x y (by omega) (by omega))
   ·have B:∀ j,j<n→Av ops j≠Z t:=fun j c e=>S ⟨j,c,e⟩;refine .inr ⟨B,?_⟩;rw[ad];exact Gy q (fun j c _=>B j (by omega))
  rcases L us k F aj with ⟨j,r,b,e⟩|⟨B,e⟩
  ·rcases L vs u W X with ⟨C,K,E,s⟩|⟨ab,s⟩
   ·have V:=CD d p r;have ai:=CD d p K;by_cases N:j=C
    ·subst N;rw[e,s,h j r]
    ·exact absurd E (R j C (by omega) (by omega) N t b)
   ·have V:=CD d p r;exact absurd b (ab j (by omega))
  ·rcases L vs u W X with ⟨C,K,E,s⟩|⟨ab,s⟩
   ·have ai:=CD d p K;exact absurd E (B C (by omega))
   ·rw[e,s]
 |const v=>rfl
 |global g=>rfl
 |func f=>rfl
def LW(z:CO l.toArray n a.tmps.size=true)(hr:GV l.toArray n=true)
  (V:Nat→(Nat→bF)→bG→Prop)
  (ar:∀ i vs vs' w',i<n→(∀ j,j=i∨By l.toArray i j→vs j=vs' j)→V i vs w'→V i vs' w')
  (hV:∀ i vs w' s,i<n→V i vs w'→Bl w' s→V i vs s)
  (aL:∀ i o,l[i]? =Z o→i<n→∀ vs w',Bl w w'→(∀ j,By l.toArray i j→V j vs w')→Bd P o (Ar l.toArray vs a n) w' (fun v s=>Bl w' s∧V i (fun j=>if j=i then v else vs j) s))
  (hend:∀ vs w',Bl w w'→(∀ i,i<n→V i vs w')→c6 P l.toArray Q (l.drop n) (Ar l.toArray vs a n) w'):
  ∀ (k:Nat) (listed:Array Bool) (b:Act) (w':bG),Cq listed n=k→cw .any l.toArray n listed→
   (∃ vs,b=Ba l.toArray listed vs a n∧Bl w w'∧∀ i,i<n→listed.getD i false=true→V i vs w')→dL P .any l.toArray Q (k+(l.toArray.size-n)) listed b w':=by
 obtain⟨hn,aJ,C⟩:=DM z;have K:∀ j k,j<n→k<n→j≠k→∀ t,Av l.toArray j=Z t→Av l.toArray k≠Z t:=fun j k c hk aD t ht=>by
  obtain⟨o,H⟩:=C k hk;exact(H.apart j c aD t ht).1
 simp only[GV,b5,cC,decide_eq_true_eq] at hr;obtain⟨aG,aH⟩:=hr;intro k
 induction k with
 |zero=>
  rintro listed b w' hu p ⟨vs,rfl,y,D⟩;have u:=Ie hu;have aB:listed=bK n true++bK (l.toArray.size-n) false:=by
   apply Array.ext
   ·simp only[dx,dp,p.size];omega
   ·intro i h1 h2;have aM:=p.size;by_cases d:i<n
    ·have:=u i d;simp only[cF,h1,dif_pos] at this;rw[di (by simpa using d)];simpa using this
    ·have:=p.tail i (by omega) (by omega);simp only[cF,h1,dif_pos] at this;rw[df (by simpa using d)];simpa using this
  have ad:(l.drop n).length=l.toArray.size-n:=by simp
  have:=wpAny_of_seq (P:=P) (md:=.any) (ops:=l.toArray) (Q':=Q) (l.drop n) n listed (Ar l.toArray vs a n) w' (fun j=>by simp[dv]) (by rw[ad,aB];exact aH) (hend vs w' y (fun i d=>D i d (u i d)));rw[ad] at this;rw[dn,Jp n u];exact this
 |succ k ih=>
  rintro listed b w' hu p ⟨vs,rfl,y,D⟩;obtain⟨E,af,aO,aC⟩:=I9 (listed:=listed) (n:=n) (by omega);have aM:=p.size;have am:listed.getD E true=false:=cM (by omega) aO;have aj:E∈cB .any l.toArray listed:=by
   obtain⟨o,H⟩:=C E af;exact cc.2 ⟨am,o,H.at_,fun e M F=>aC e.on (H.back e M F)⟩
  rw[show k+1+(l.toArray.size-n)=(k+(l.toArray.size-n))+1 by omega];refine⟨fun h=>(by rw[h] at aj;cases aj),fun i d=>?_⟩;obtain⟨ax,o',B,u⟩:=cc.1 d;have r:i<n:=by
   rcases cW i n with h|h
   ·exact h
   ·rcases aG with e|⟨⟨e,hs⟩,hc⟩
    ·have:=(bC.1 B).1;omega
    ·exact absurd d (tail_waits hs hc e p _ E rfl af am i h)
  obtain⟨o,H⟩:=C i r;obtain rfl:o=o':=bI (H.at_.symm.trans B);have S:i<listed.size:=by have:=(bC.1 B).1;omega
  have N:listed.getD i false=false:=cJ ax;have L:∀ j,BH l.toArray i j=true→listed.getD j false=true:=fun j c=>by
   obtain⟨e,M,F,rfl⟩:=(G6 H.at_).1 c;exact u e M F
  have av:∀ j,By l.toArray i j→listed.getD j false=true:=fun j c=>by
   cases c with
   |base h=>exact L j h
   |step h h2=>exact h2.listed z p (by have:=CD z r h;omega) (L _ h)
  have aP:bZ o (dj l.toArray (Ba l.toArray listed vs a n).tmps)=true:=by simp[bZ,H.Jh]
  have aw:b3 (Ba l.toArray listed vs a n).eval o=b3 (Ar l.toArray vs a n).eval o:=by
   refine dc o (fun cs bb=>cv aJ i o cs bb H.at_) (fun x hx=>?_);cases x with
   |tmp t=>
    have ag:t∈o.looksAt l.toArray:=by
     unfold cU;exact cx _ (cG.2 ⟨.tmp t,by simpa using hx,rfl⟩)
    obtain⟨la,aA,aE⟩:=Jo (ops:=l.toArray) (vs:=vs) (a:=a) n;rw[aE];by_cases ae:∃ j,j<n∧Av l.toArray j=Z t
    ·obtain⟨j,c,A⟩:=ae;have ay:j≠i:=by
      rintro rfl;have:o.dst=Z t:=by simpa[Av,H.at_] using A
      exact H.own t this ag
     have ak:t<a.tmps.size:=by
      obtain⟨oj,Hj⟩:=C j c;exact Hj.low t (by simpa[Av,Hj.at_] using A)
     rw[Hz c (L j ((H.apart j c ay t A).2 ag)) A ak K,Hz c (aA j c) A ak K]
    ·have ah:∀ j,j<n→Av l.toArray j≠Z t:=fun j c e=>ae ⟨j,c,e⟩;rw[Gy n (fun j c _=>ah j c),Gy n (fun j c _=>ah j c)]
   |const v=>rfl
   |global g=>rfl
   |func f=>rfl
  have aK:=aL i o (by simpa using H.at_) r vs w' y (fun j c=>D j (by have:=c.lt z r;omega) (av j c));unfold wpOp;simp only[B,aP,if_true];refine .inl (Hr aw aK fun v s W=>ih _ _ _ ?_ (p.set d r) ⟨fun j=>if j=i then v else vs j,?_,y.trans (W.1.mono y.size),fun j c R=>?_⟩)
  ·have:=IA S N (n:=n) r;omega
  ·have au:Av l.toArray i=o.dst:=by simp[Av,B]
   rw[Jq r S N K,au]
  ·by_cases e:j=i
   ·subst e;exact W.2
   ·rw[Dk S,if_neg e] at R;refine hV j _ w' s c (ar j vs _ w' c (fun q X=>?_) (D j c R)) W.1;have aF:q≠i:=by
     rcases X with rfl|X
     ·exact e
     ·rintro rfl;have:=X.listed z p c R;rw[N] at this;cases this
    rw[if_neg aF]
def N5(n:Nat)(u:P.follows .mixedOrders=true)(e:CO l.toArray n a.tmps.size=true)(h:GV l.toArray n=true)
  (V:Nat→(Nat→bF)→bG→Prop)
  (g:∀ i vs vs' w',i<n→(∀ j,j=i∨By l.toArray i j→vs j=vs' j)→V i vs w'→V i vs' w')
  (f:∀ i vs w' c,i<n→V i vs w'→Bl w' c→V i vs c)
  (k:∀ i o,l[i]? =Z o→i<n→∀ vs w',Bl w w'→(∀ j,By l.toArray i j→V j vs w')→Bd P o (Ar l.toArray vs a n) w' (fun v c=>Bl w' c∧V i (fun j=>if j=i then v else vs j) c))
  (hend:∀ vs w',Bl w w'→(∀ i,i<n→V i vs w')→c6 P l.toArray Q (l.drop n) (Ar l.toArray vs a n) w'):
  (cz id l.toArray true).wp P Q a w:=by
 have q:=(DM e).1;have d:∀ i:Nat,(bK l.toArray.size false).getD i false=false:=fun i=>b0 _ _
 have r:Cq (bK l.toArray.size false) n=n:=by
  clear e h g f k hend q
  induction n with
  |zero=>rfl
  |succ n p=>
   unfold Cq;rw[d,p];simp
 have s:cw .any l.toArray n (bK l.toArray.size false):=
  ⟨by simp,fun j y _ b=>(by rw[d] at b;cases b),fun t _ x=>cM (by simpa using x) (b0 _ _)⟩
 refine cX u ?_;have:=LW (P:=P) (Q:=Q) (w:=w) e h V g f k hend n (bK l.toArray.size false) a {w with drawn:=w.drawn+1} r s ⟨fun _=>cr,?_,(bM _ w).drew,fun i _ b=>(by rw[d] at b;cases b)⟩
 ·rw[show n+(l.toArray.size-n)=l.toArray.size by omega] at this;exact this
 ·clear r s e h g f k hend q
  induction n with
  |zero=>rfl
  |succ n p=>
   unfold Ba;rw[d];simpa using p
def Hx:Op→Bool
 | .move _| .assign _| .pick _ _ _| .load _ _| .nilCheck _| .binOp _ _ _ _ _| .unOp _ _ _| .convert _ _ _| .fieldAddr _ _ _| .field _ _ _| .indexAddr _ _ _| .index _ _ _| .extract _ _| .build _ _| .slice _ _ _ _ _| .makeInterface _ _| .makeFunc _ _ _=>true
 | .call c=>match c.callee with| .builtin .len=>true| .builtin .cap=>true| _=>false
 | _=>false
def JI(s:Sem Next):Prop:=∀ (P:bX) (w w':bG) (x:Next),s.run P w=.ok x w'→∃ v,x=.value v
def IE{α:Type}{s:Sem α}{f:α→Sem Next}(h:∀ y,JI (f y)):JI (s>>=f):=fun P w w' x b=>by
 simp only[dm] at b;generalize s.run P w=r at b;cases r with
 |ok u c=>exact h u P c w' x b
 |halt e c=>simp[da] at b
def GZ(v:bF):JI (pure (.value v)):=fun P w w' x b=>by
 simp only[Sem.run_pure,Result.ok.injEq] at b;exact⟨v,b.1.symm⟩
def Zo(h:Halt):JI (.halt h):=fun P w w' x b=>by
 simp at b
def L7:JI (runtimePanic .nilDeref):=IE fun _=>Zo _
def Yg{P:bX}{o:bY}(h:Hx o.op=true){ρ:Operand→bF}{w w':bG}{x:Next}(d:(b3 ρ o).run P w=.ok x w'):∃ v,x=.value v:=by
 unfold b3 at d;cases f:o.op<;>simp only[f,Hx,bL] at h d
 case move=>exact GZ _ _ _ _ _ d
 case assign=>exact GZ _ _ _ _ _ d
 case nilCheck y=>
  split at d
  ·exact L7 _ _ _ _ d
  ·exact L7 _ _ _ _ d
  ·exact L7 _ _ _ _ d
  ·split at d
   ·exact L7 _ _ _ _ d
   ·refine IE (fun y=>IE fun z=>?_) _ _ _ _ d;split
    ·exact IE fun _=>GZ _
    ·exact GZ _
   ·exact GZ _ _ _ _ _ d
  ·exact GZ _ _ _ _ _ d
 case call c=>
  cases e:c.callee with
  |builtin b=>
   simp only[e] at h;simp only[resolve,e,pure_bind,invoke] at d;cases b<;>simp only[bL] at h
   ·exact IE (fun _=>GZ _) _ _ _ _ d
   ·exact IE (fun _=>GZ _) _ _ _ _ d
  |value x=>simp only[e,bL] at h
  |invoke r n=>simp only[e,bL] at h
 all_goals exact IE (fun _=>GZ _) _ _ _ _ d
def Du(P:bX)(ops:Array bY)(mk:Nat→Bool)(V:Nat→bF→bG→Prop)(w:bG)(E:(Nat→bF)→Act→Prop):Nat→List bY→(Nat→bF)→Act→Prop
 | _,[],vs,A=>E vs A
 |i,o::rest,vs,A=>
  if mk i then
   (∀ w',Bl w w'→(∀ j,mk j=true→By ops i j→V j (vs j) w')→Bd P o A w' (fun v b=>Bl w' b∧V i v b))∧
   ∀ v w',Bl w w'→V i v w'→Du P ops mk V w E (i+1) rest (fun j=>if j=i then v else vs j) (A.put o.dst v)
  else o.quiet P A (fun w'=>∃ p:Ak w,w'=p.W) (Du P ops mk V w E (i+1) rest vs)
def MX(ops:Array bY)(mk:Nat→Bool)(n:Nat):Bool:=(bT n).all fun i=>mk i||match ops[i]? with|none=>false|some o=>Hx o.op
def Bg(P:bX)(o:bY)(A:Act)(w:bG)(u:bF):Prop:=(b3 A.eval o).run P w=.ok (.value u) w
def D1{P:bX}{o:bY}{A:Act}{C:bG→Prop}{w:bG}{u:bF}(b:Hx o.op=true)(h:o.quietAt P A C w u):Bg P o A w u:=by
 unfold Oper.quietAt at h;unfold Bg;generalize c:(b3 A.eval o).run P w=r at h;cases r with
 |ok x d=>
  obtain⟨v,rfl⟩:=Yg b c;simp only[dI] at h;rw[h.1,h.2]
 |halt e d=>simp only[dI] at h
def Mv{P:bX}{o:bY}{a:Act}{w:bG}{b:bF→bG→Prop}(h:Bd P o a w b):∃ v w',b v w':=by
 unfold Bd at h;generalize (b3 a.eval o).run P w=r at h;cases r with
 |ok n d=>
  cases n<;>simp only[Iv] at h
  case value v=>exact⟨_,_,h⟩
  case skip=>exact⟨_,_,h⟩
  case enter f args=>
   obtain⟨e,w',g,⟨v,_,c⟩,_⟩:=h [];exact⟨v,w',c⟩
 |halt e d=>simp only[Iv] at h
def IY{P:bX}{o:bY}{a b:Act}{w:bG}{c:bF→bG→Prop}(d:b3 a.eval o=b3 b.eval o)(h:Bd P o a w c):Bd P o b w c:=by
 unfold Bd at*;rw[←d];exact h
def KR{P:bX}{o:bY}{a:Act}{w:bG}{c d:bF→bG→Prop}(h:Bd P o a w c)(b:∀ v w',c v w'→d v w'):Bd P o a w d:=by
 unfold Bd at*;generalize (b3 a.eval o).run P w=r at*;cases r with
 |ok n w'=>
  cases n<;>simp only[Iv] at h ⊢
  case value u=>exact b _ _ h
  case skip=>exact b _ _ h
  case enter f args=>exact h.mono fun e j ⟨v,g,i⟩=>⟨v,g,b _ _ i⟩
 | _=>simp only[Iv] at h
section
variable {mk:Nat→Bool} {V:Nat→bF→bG→Prop} {E:(Nat→bF)→Act→Prop}
def I3{us vs:Nat→bF}:∀ n,(∀ j,j<n→us j=vs j)→Ar ops us a n=Ar ops vs a n
 |0,_=>rfl
 |n+1,h=>by
  simp only[Ar];rw[I3 n (fun j b=>h j (by omega)),h n (cn n)]
def Gf(P:bX)(ops:Array bY)(n:Nat)(mk:Nat→Bool)(V:Nat→bF→bG→Prop)(a:Act)(w:bG)(i:Nat)(vs:Nat→bF)(w':bG):Prop:=
 if mk i then V i (vs i) w' else ∀ o,ops[i]? =Z o→Bg P o (Ar ops vs a n) w (vs i)
def Px(x:CO ops n a.tmps.size=true)(hp:MX ops mk n=true)(N:∀ i v w' ac,V i v w'→Bl w' ac→V i v ac)
  (X:ops=l.toArray) (H:Du P ops mk V w E 0 (l.take n) (fun _=>cr) a) (S:Nat→Prop) (hS:∀ i j,i<n→S i→BH ops i j=true→S j)
  (vs:Nat→bF) (w':bG) (an:Bl w w') (ab:∀ i,i<n→S i→Gf P ops n mk V a w i vs w'):
  ∀ k,k≤n→∃ (us z:Nat→bF) (g:bG),Du P ops mk V w E k ((l.take n).drop k) z (Ar ops us a k)∧(∀ j,j<k→S j→us j=vs j)∧(∀ j,j<k→mk j=true→z j=us j)∧
   Bl w g∧(∀ j,j<k→mk j=true→V j (us j) g)∧(∀ j,j<n→S j→mk j=true→V j (vs j) g):=by
 have hn:=(DM x).1;have ar:n≤l.length:=by simpa[X] using hn
 intro k
 induction k with
 |zero=>exact fun _=>⟨fun _=>cr,fun _=>cr,w',by rw[b7];exact H,fun j b=>absurd b (by omega),fun j b=>absurd b (by omega),an,fun j b=>absurd b (by omega),fun j b d r=>by
   have:=ab j b d;simpa only[Gf,r,if_true] using this⟩
 |succ k ih=>
  intro hk;obtain⟨us,z,g,p,B,C,u,D,F⟩:=ih (by omega);have ai:k<l.length:=by omega
  have af:(l.take n).drop k=l[k]::(l.take n).drop (k+1):=by
   rw[bU (by simp;omega)];simp
  have y:ops[k]? =Z l[k]:=by simp[X,ai]
  rw[af] at p;have ag:Av ops k=l[k].dst:=by simp[Av,y]
  have aa:∀ v,(Ar ops us a k).put l[k].dst v=Ar ops (fun j=>if j=k then v else us j) a (k+1):=fun v=>by
   simp only[Ar,if_true,ag];rw[I3 (us:=us) (vs:=fun j=>if j=k then v else us j) k (fun j b=>by simp only[if_neg (show¬j=k by omega)])]
  simp only[Du] at p;by_cases r:mk k=true
  ·simp only[r,if_true] at p;obtain⟨A,t⟩:=p;have ap:∃ v o,Bl g o∧V k v o∧(S k→v=vs k):=by
    by_cases M:S k
    ·exact⟨vs k,g,bM _ _,F k (by omega) M r,fun _=>rfl⟩
    ·obtain⟨v,o,q,f⟩:=Mv (A g u (fun j b ha=>by
      have:=ha.lt x (by omega);rw[C j this b];exact D j this b))
     exact⟨v,o,q,f,fun h=>absurd h M⟩
   obtain⟨v,o,q,f,am⟩:=ap;have R:Bl w o:=u.trans (q.mono u.size);have L:=t v o R f;rw[aa v] at L;refine⟨_,_,o,L,fun j b d=>?_,fun j b c=>?_,R,fun j b c=>?_,fun j b d c=>N _ _ _ _ (F j b d c) q⟩
   ·by_cases e:j=k
    ·subst e;simp only[if_true];exact am d
    ·rw[if_neg e];exact B j (by omega) d
   ·by_cases e:j=k
    ·simp only[e,if_true]
    ·simp only[if_neg e];exact C j (by omega) c
   ·by_cases e:j=k
    ·subst e;simp only[if_true];exact f
    ·rw[if_neg e];exact N _ _ _ _ (D j (by omega) c) q
  ·have s:mk k=false:=by simpa using r
   simp only[s,bL,if_false] at p;obtain⟨v,A,t⟩:=p;rw[aa v] at t;have al:Hx l[k].op=true:=by
    have:=b4.1 hp k (cf.2 (by omega));simpa[s,y] using this
   refine⟨_,z,g,t,fun j b d=>?_,fun j b c=>?_,u,fun j b c=>?_,F⟩
   ·by_cases e:j=k
    ·subst e;simp only[if_true];have K:=D1 al (A w ⟨⟨w,bM _ w⟩,rfl⟩);have f:=ab j (by omega) d;simp only[Gf,s,bL,if_false] at f;have f:=f _ y;have he:=E7 x y (by omega) (bH _) (by omega) (show j≤n by omega) (bH _) (us:=us) (vs:=vs) (fun i W=>B i (CD x (by omega) W) (hS j i (by omega) d W));unfold Bg at K f;rw[he,f] at K;simpa using K.symm
    ·rw[if_neg e];exact B j (by omega) d
   ·have e:j≠k:=by rintro rfl;rw[s] at c;cases c
    rw[if_neg e];exact C j (by omega) c
   ·have e:j≠k:=by rintro rfl;rw[s] at c;cases c
    rw[if_neg e];exact D j (by omega) c
def ZO(n:Nat)(mk:Nat→Bool)(V:Nat→bF→bG→Prop)(s:P.follows .mixedOrders=true)(e:CO l.toArray n a.tmps.size=true)(hr:GV l.toArray n=true)(C:MX l.toArray mk n=true)
  (x:∀ i v w' t,V i v w'→Bl w' t→V i v t)
  (H:Du P l.toArray mk V w (fun vs A=>∀ w',Bl w w'→(∀ j,j<n→mk j=true→V j (vs j) w')→c6 P l.toArray Q (l.drop n) A w') 0 (l.take n) (fun _=>cr) a):
  (cz id l.toArray true).wp P Q a w:=by
 have hn:=(DM e).1;have an:n≤l.length:=by simpa using hn
 refine N5 n s e hr (Gf P l.toArray n mk V a w) ?_ ?_ ?_ ?_
 ·intro i vs vs' w' c b h;unfold Gf at*;split
  ·rename_i f;rw[if_pos f] at h;rw[←b i (.inl rfl)];exact h
  ·rename_i f;rw[if_neg f] at h;intro o r;have d:=h o r;unfold Bg at*;rw[←b i (.inl rfl),←E7 e r c (bP c) (bH _) (bP c) (bH _) (fun j ad=>b j (.inr (.base ad)))];exact d
 ·intro i vs w' t c h q;unfold Gf at*;split
  ·rename_i f;rw[if_pos f] at h;exact x _ _ _ _ h q
  ·rename_i f;rw[if_neg f] at h;exact h
 ·intro i o r c vs w' q K;obtain⟨us,xs,w1,d,p,u,W,X,h6⟩:=Px e C x rfl H (fun j=>By l.toArray i j) (fun j k _ d p=>d.QG p) vs w' q (fun j _ b=>K j b) i (bP c);have ac:i<l.length:=by omega
  have ae:l[i]=o:=by
   rw[bO ac] at r;exact bI r
  have ab:(l.take n).drop i=o::(l.take n).drop (i+1):=by
   rw[bU (by simp;omega)];simp[ae]
  have B:l.toArray[i]? =Z o:=by simpa using r
  rw[ab] at d;simp only[Du] at d;have L:=E7 e B c (bH _) (bP c) (bP c) (bH _) (us:=us) (vs:=vs) (fun j b=>p j (CD e c b) (.base b));by_cases f:mk i=true
  ·simp only[f,if_true] at d;have g:=d.1 w' q (fun j b y=>by
    have M:=y.lt e c;rw[u j M b,p j M y];have:=K j y;simpa only[Gf,b,if_true] using this)
   refine KR (IY L g) fun v t h=>⟨h.1,?_⟩;simp only[Gf,f,if_true];exact h.2
  ·have z:mk i=false:=by simpa using f
   simp only[z,bL,if_false] at d;obtain⟨v,D,_⟩:=d;have N:Hx o.op=true:=by
    have:=b4.1 C i (cf.2 c);simpa[z,r] using this
   have S:=D1 N (D w' ⟨⟨w',q⟩,rfl⟩);have R:=D1 N (D w ⟨⟨w,bM _ w⟩,rfl⟩);refine IY L ?_;unfold Bg at S R;unfold Bd;rw[S];refine⟨bM _ _,?_⟩;simp only[Gf,z,bL,if_false,if_true];intro o2 ah;obtain rfl:o2=o:=bI (ah.symm.trans B);unfold Bg;rw[←E7 e B c (bH _) (bP c) (bP c) (bH _) (us:=us) (vs:=fun j=>if j=i then v else vs j) (fun j b=>by
    have:=CD e c b;rw[if_neg (by omega)];exact p j this (.base b))]
   exact R
 ·intro vs w' q F;obtain⟨us,xs,w1,d,p,u,W,X,h6⟩:=Px e C x rfl H (fun j=>j<n) (fun i j c _ hw=>by have:=CD e c hw;omega) vs w' q (fun i c _=>F i c) n (bH _);have ag:(l.take n).drop n=[]:=by simp
  rw[ag] at d;simp only[Du] at d;have:=d w' q (fun j b s=>by
   rw[u j b s,p j b b];have:=F j b;simpa only[Gf,s,if_true] using this)
  rw[I3 n (fun j b=>p j b b)] at this;exact this
end
section
variable {mk:Nat→Bool} {V:Nat→bF→bG→Prop} {E:(Nat→bF)→Act→Prop} {i k:Nat} {o:bY} {rest:List bY} {vs:Nat→bF} {A:Act}
def Xq(b:mk i=false)(h:∀ K:Act→Prop,(∀ a,Du P ops mk V w E (i+1) (rest.take k) vs a→K a)→o.quiet P A (fun w'=>∃ p:Ak w,w'=p.W) K):Du P ops mk V w E i ((o::rest).take (k+1)) vs A:=by
 rw[bV];simp only[Du,b,bL,if_false];exact h _ fun _ h=>h
def Xp(d:mk i=true)(c:∀ w',Bl w w'→(∀ j,mk j=true→By ops i j→V j (vs j) w')→Bd P o A w' (fun v b=>Bl w' b∧V i v b))
  (e:∀ v w',Bl w w'→V i v w'→Du P ops mk V w E (i+1) (rest.take k) (fun j=>if j=i then v else vs j) (A.put o.dst v)):Du P ops mk V w E i ((o::rest).take (k+1)) vs A:=by
 rw[bV];simp only[Du,d,if_true];exact⟨c,e⟩
def BN(h:E vs A):Du P ops mk V w E i (rest.take 0) vs A:=by
 rw[dh];exact h
def AD{f:FuncId}{al:List bF}{c:Call}{b:bF→bG→Prop}(s:o.op=.call c)(j:c.callee=.value (.func f))(g:c.args.toList.map A.eval=al)(d:∀ args w,(callFunc f args).run P w=.ok (.enter f args) w)
  {w':bG} (h:ct P f al.toArray w' (fun e t=>∃ v,e=.returned v∧b v t)):Bd P o A w' b:=by
 refine OO (f:=f) (args:=al.toArray) (w':=w') ?_ h;have q:Array.map A.eval c.args=al.toArray:=Array.ext' (by rw[Array.toList_map,g]);have p:A.eval (.func f)=.func (.func f) #[] #[]:=rfl;have r:∀ args:Array bF,(dr (.func (.func f) #[] #[]) args).run P w'=.ok {target:=.fn (.func f) #[],args:=args} w':=fun args=>by
  simp[dr]
 unfold b3;simp only[s,resolve,j,p,dm,q];rw[r];simp only[Result.andThen_ok,invoke,Array.append_empty];exact d _ _
end
@[reducible] def Mk:=List (Nat×(bF→bG→Prop))
def AP(M:Mk)(i:Nat):Bool:=(M.lookup i).isSome
def AZ(M:Mk)(i:Nat)(v:bF)(w:bG):Prop:=match M.lookup i with|some f=>f v w|none=>True
def DO(f:bF→bG→Prop):Prop:=∀ v w w',f v w→Bl w w'→f v w'
def Kv:Mk→Prop
 | []=>True
 |x::M=>DO x.2∧Kv M
def Ly:∀ {M:Mk} {i:Nat} {f:bF→bG→Prop},Kv M→M.lookup i=Z f→DO f
 | [],_,_,_,h=>by cases h
 |(k,g)::M,i,f,b,h=>by
  simp only[List.lookup] at h;split at h
  ·injection h with h;subst h;exact b.1
  ·exact Ly b.2 h
def Ch{p:bF→Prop}:DO fun v _=>p v:=fun _ _ _ h _=>h
section
variable {M:Mk} {E:(Nat→bF)→Act→Prop} {i k:Nat} {o:bY} {rest:List bY} {vs:Nat→bF} {A:Act}
def BQ(n:Nat)(M:Mk)(t:Kv M)
  (H:Du P l.toArray (AP M) (AZ M) w (fun vs A=>∀ w',Bl w w'→(∀ j f,j<n→M.lookup j=Z f→f (vs j) w')→c6 P l.toArray Q (l.drop n) A w') 0 (l.take n) (fun _=>cr) a)(q:P.follows .mixedOrders=true:=by kernel_rfl)(g:CO l.toArray n a.tmps.size=true:=by kernel_rfl)(s:GV l.toArray n=true:=by kernel_rfl)(r:MX l.toArray (AP M) n=true:=by kernel_rfl):
  (cz id l.toArray true).wp P Q a w:=by
 refine ZO n (AP M) (AZ M) q g s r (fun i v w' u h e=>?_) ?_
 ·unfold AZ at*;cases b:M.lookup i with
  |none=>trivial
  |some f=>
   rw[b] at h;exact Ly t b v w' u h e
 ·have:(fun(vs:Nat→bF) (A:Act)=>∀ w',Bl w w'→(∀ j f,j<n→M.lookup j=Z f→f (vs j) w')→c6 P l.toArray Q (l.drop n) A w')=(fun vs A=>∀ w',Bl w w'→(∀ j,j<n→AP M j=true→AZ M j (vs j) w')→c6 P l.toArray Q (l.drop n) A w'):=by
   funext vs A;refine forall_congr fun w'=>?_
   refine forall_congr fun e=>?_
   refine propext ⟨fun h d=>h fun j f c b=>?_,fun h d=>h fun j c p=>?_⟩
   ·have:=d j c (by simp[AP,b]);simpa[AZ,b] using this
   ·unfold AP at p;unfold AZ;cases b:M.lookup j with
    |none=>trivial
    |some f=>exact d j f c b
  rw[←this];exact H
def AK(b:AP M i=false)(h:∀ K:Act→Prop,(∀ a,Du P ops (AP M) (AZ M) w E (i+1) (rest.take k) vs a→K a)→o.quiet P A (fun w'=>∃ p:Ak w,w'=p.W) K):Du P ops (AP M) (AZ M) w E i ((o::rest).take (k+1)) vs A:=
 Xq b h
def Ca{f:bF→bG→Prop}(c:M.lookup i=Z f)(q:∀ w',Bl w w'→(∀ j g,M.lookup j=Z g→By ops i j→g (vs j) w')→Bd P o A w' (fun v e=>Bl w' e∧f v e))
  (r:∀ v w',Bl w w'→f v w'→Du P ops (AP M) (AZ M) w E (i+1) (rest.take k) (fun j=>if j=i then v else vs j) (A.put o.dst v)):Du P ops (AP M) (AZ M) w E i ((o::rest).take (k+1)) vs A:=by
 refine Xp (by simp[AP,c]) (fun w' b h=>?_) (fun v w' b s=>r v w' b (by simpa[AZ,c] using s));have:=q w' b (fun j g d p=>by
  have:=h j (by simp[AP,d]) p;simpa[AZ,d] using this)
 simpa[AZ,c] using this
def EY{P:bX}{o:bY}{A:Act}{c:bF→bG→Prop}{w':bG}(b:Obj)(e:(b3 A.eval o).run P w'=.ok (.value (G (Z ⟨w'.heap.size,0,O⟩))) (w'.alloc b))
  (h:c (G (Z ⟨w'.heap.size,0,O⟩)) (w'.alloc b)):Bd P o A w' (fun v d=>Bl w' d∧c v d):=
 Bn e ⟨(bM _ _).alloc (bH _) _,h⟩
end
end
def qC{w:bG}{r:dB}{v:bF}(h:w.cell? r=Z v)(a:r.block<w.heap.size):∀ p:Ak w,p.W.cell? r=Z v:=fun p=>(p.h.cell a).trans h
section
variable {w:bG} {b:Nat} {t:cm} {r:List bF}
def q2{c d:bF}{f:Nat×Nat}(h:w.heap[b]? =Z (T (b9 (c::d::r)) t f)):(∀ p:Ak w,p.W.cell? ⟨b,0,O⟩=Z c)∧(∀ p:Ak w,p.W.cell? ⟨b,1,O⟩=Z d):=by
 have a:=(bC.1 h).1;obtain⟨e,g⟩:=r2 h;exact⟨qC e a,qC g a⟩
def q3{c d e:bF}{f:Nat×Nat}(h:w.heap[b]? =Z (T (b9 (c::d::e::r)) t f)):(∀ p:Ak w,p.W.cell? ⟨b,0,O⟩=Z c)∧(∀ p:Ak w,p.W.cell? ⟨b,1,O⟩=Z d)∧(∀ p:Ak w,p.W.cell? ⟨b,2,O⟩=Z e):=by
 have a:=(bC.1 h).1;obtain⟨g,i,j⟩:=r3 h;exact⟨qC g a,qC i a,qC j a⟩
def q4{c d e g:bF}{f:Nat×Nat}(h:w.heap[b]? =Z (T (b9 (c::d::e::g::r)) t f)):(∀ p:Ak w,p.W.cell? ⟨b,0,O⟩=Z c)∧(∀ p:Ak w,p.W.cell? ⟨b,1,O⟩=Z d)∧(∀ p:Ak w,p.W.cell? ⟨b,2,O⟩=Z e)∧(∀ p:Ak w,p.W.cell? ⟨b,3,O⟩=Z g):=by
 have a:=(bC.1 h).1;obtain⟨i,j,k,l⟩:=r4 h;exact⟨qC i a,qC j a,qC k a,qC l a⟩
def q5{c d e g i:bF}{f:Nat×Nat}(h:w.heap[b]? =Z (T (b9 (c::d::e::g::i::r)) t f)):(∀ p:Ak w,p.W.cell? ⟨b,0,O⟩=Z c)∧(∀ p:Ak w,p.W.cell? ⟨b,1,O⟩=Z d)∧(∀ p:Ak w,p.W.cell? ⟨b,2,O⟩=Z e)∧(∀ p:Ak w,p.W.cell? ⟨b,3,O⟩=Z g)∧(∀ p:Ak w,p.W.cell? ⟨b,4,O⟩=Z i):=by
 have a:=(bC.1 h).1;obtain⟨j,k,l,m,n⟩:=r5 h;exact⟨qC j a,qC k a,qC l a,qC m a,qC n a⟩
def q6{c d e g i j:bF}{f:Nat×Nat}(h:w.heap[b]? =Z (T (b9 (c::d::e::g::i::j::r)) t f)):(∀ p:Ak w,p.W.cell? ⟨b,0,O⟩=Z c)∧(∀ p:Ak w,p.W.cell? ⟨b,1,O⟩=Z d)∧(∀ p:Ak w,p.W.cell? ⟨b,2,O⟩=Z e)∧(∀ p:Ak w,p.W.cell? ⟨b,3,O⟩=Z g)∧(∀ p:Ak w,p.W.cell? ⟨b,4,O⟩=Z i)∧(∀ p:Ak w,p.W.cell? ⟨b,5,O⟩=Z j):=by
 have a:=(bC.1 h).1;obtain⟨k,l,m,n,o,q⟩:=r6 h;exact⟨qC k a,qC l a,qC m a,qC n a,qC o a,qC q a⟩
def q7{c d e g i j k:bF}{f:Nat×Nat}(h:w.heap[b]? =Z (T (b9 (c::d::e::g::i::j::k::r)) t f)):(∀ p:Ak w,p.W.cell? ⟨b,0,O⟩=Z c)∧(∀ p:Ak w,p.W.cell? ⟨b,1,O⟩=Z d)∧(∀ p:Ak w,p.W.cell? ⟨b,2,O⟩=Z e)∧(∀ p:Ak w,p.W.cell? ⟨b,3,O⟩=Z g)∧(∀ p:Ak w,p.W.cell? ⟨b,4,O⟩=Z i)∧(∀ p:Ak w,p.W.cell? ⟨b,5,O⟩=Z j)∧(∀ p:Ak w,p.W.cell? ⟨b,6,O⟩=Z k):=by
 have a:=(bC.1 h).1;obtain⟨l,m,n,o,q,s,u⟩:=r7 h;exact⟨qC l a,qC m a,qC n a,qC o a,qC q a,qC s a,qC u a⟩
def q8{c d e g i j k l:bF}{f:Nat×Nat}(h:w.heap[b]? =Z (T (b9 (c::d::e::g::i::j::k::l::r)) t f)):(∀ p:Ak w,p.W.cell? ⟨b,0,O⟩=Z c)∧(∀ p:Ak w,p.W.cell? ⟨b,1,O⟩=Z d)∧(∀ p:Ak w,p.W.cell? ⟨b,2,O⟩=Z e)∧(∀ p:Ak w,p.W.cell? ⟨b,3,O⟩=Z g)∧(∀ p:Ak w,p.W.cell? ⟨b,4,O⟩=Z i)∧(∀ p:Ak w,p.W.cell? ⟨b,5,O⟩=Z j)∧(∀ p:Ak w,p.W.cell? ⟨b,6,O⟩=Z k)∧(∀ p:Ak w,p.W.cell? ⟨b,7,O⟩=Z l):=by
 have a:=(bC.1 h).1;obtain⟨m,n,o,q,s,u,v,x⟩:=r8 h;exact⟨qC m a,qC n a,qC o a,qC q a,qC s a,qC u a,qC v a,qC x a⟩
def q9{c d e g i j k l m:bF}{f:Nat×Nat}(h:w.heap[b]? =Z (T (b9 (c::d::e::g::i::j::k::l::m::r)) t f)):(∀ p:Ak w,p.W.cell? ⟨b,0,O⟩=Z c)∧(∀ p:Ak w,p.W.cell? ⟨b,1,O⟩=Z d)∧(∀ p:Ak w,p.W.cell? ⟨b,2,O⟩=Z e)∧(∀ p:Ak w,p.W.cell? ⟨b,3,O⟩=Z g)∧(∀ p:Ak w,p.W.cell? ⟨b,4,O⟩=Z i)∧(∀ p:Ak w,p.W.cell? ⟨b,5,O⟩=Z j)∧(∀ p:Ak w,p.W.cell? ⟨b,6,O⟩=Z k)∧(∀ p:Ak w,p.W.cell? ⟨b,7,O⟩=Z l)∧(∀ p:Ak w,p.W.cell? ⟨b,8,O⟩=Z m):=by
 have a:=(bC.1 h).1;obtain⟨n,o,q,s,u,v,x,y,z⟩:=r9 h;exact⟨qC n a,qC o a,qC q a,qC s a,qC u a,qC v a,qC x a,qC y a,qC z a⟩
def q10{c d e g i j k l m n:bF}{f:Nat×Nat}(h:w.heap[b]? =Z (T (b9 (c::d::e::g::i::j::k::l::m::n::r)) t f)):(∀ p:Ak w,p.W.cell? ⟨b,0,O⟩=Z c)∧(∀ p:Ak w,p.W.cell? ⟨b,1,O⟩=Z d)∧(∀ p:Ak w,p.W.cell? ⟨b,2,O⟩=Z e)∧(∀ p:Ak w,p.W.cell? ⟨b,3,O⟩=Z g)∧(∀ p:Ak w,p.W.cell? ⟨b,4,O⟩=Z i)∧(∀ p:Ak w,p.W.cell? ⟨b,5,O⟩=Z j)∧(∀ p:Ak w,p.W.cell? ⟨b,6,O⟩=Z k)∧(∀ p:Ak w,p.W.cell? ⟨b,7,O⟩=Z l)∧(∀ p:Ak w,p.W.cell? ⟨b,8,O⟩=Z m)∧(∀ p:Ak w,p.W.cell? ⟨b,9,O⟩=Z n):=by
 have a:=(bC.1 h).1;obtain⟨o,q,s,u,v,x,y,z,A,B⟩:=DV h;exact⟨qC o a,qC q a,qC s a,qC u a,qC v a,qC x a,qC y a,qC z a,qC A a,qC B a⟩
def q11{c d g i j k l m n o e:bF}{f:Nat×Nat}(h:w.heap[b]? =Z (T (b9 (c::d::g::i::j::k::l::m::n::o::e::r)) t f)):(∀ p:Ak w,p.W.cell? ⟨b,0,O⟩=Z c)∧(∀ p:Ak w,p.W.cell? ⟨b,1,O⟩=Z d)∧(∀ p:Ak w,p.W.cell? ⟨b,2,O⟩=Z g)∧(∀ p:Ak w,p.W.cell? ⟨b,3,O⟩=Z i)∧(∀ p:Ak w,p.W.cell? ⟨b,4,O⟩=Z j)∧(∀ p:Ak w,p.W.cell? ⟨b,5,O⟩=Z k)∧(∀ p:Ak w,p.W.cell? ⟨b,6,O⟩=Z l)∧(∀ p:Ak w,p.W.cell? ⟨b,7,O⟩=Z m)∧(∀ p:Ak w,p.W.cell? ⟨b,8,O⟩=Z n)∧(∀ p:Ak w,p.W.cell? ⟨b,9,O⟩=Z o)∧(∀ p:Ak w,p.W.cell? ⟨b,10,O⟩=Z e):=by
 have a:=(bC.1 h).1;obtain⟨q,s,v,x,y,z,A,B,C,D,u⟩:=Yn h;exact⟨qC q a,qC s a,qC v a,qC x a,qC y a,qC z a,qC A a,qC B a,qC C a,qC D a,qC u a⟩
def q12{c d i j k l m n o q e g:bF}{f:Nat×Nat}(h:w.heap[b]? =Z (T (b9 (c::d::i::j::k::l::m::n::o::q::e::g::r)) t f)):(∀ p:Ak w,p.W.cell? ⟨b,0,O⟩=Z c)∧(∀ p:Ak w,p.W.cell? ⟨b,1,O⟩=Z d)∧(∀ p:Ak w,p.W.cell? ⟨b,2,O⟩=Z i)∧(∀ p:Ak w,p.W.cell? ⟨b,3,O⟩=Z j)∧(∀ p:Ak w,p.W.cell? ⟨b,4,O⟩=Z k)∧(∀ p:Ak w,p.W.cell? ⟨b,5,O⟩=Z l)∧(∀ p:Ak w,p.W.cell? ⟨b,6,O⟩=Z m)∧(∀ p:Ak w,p.W.cell? ⟨b,7,O⟩=Z n)∧(∀ p:Ak w,p.W.cell? ⟨b,8,O⟩=Z o)∧(∀ p:Ak w,p.W.cell? ⟨b,9,O⟩=Z q)∧(∀ p:Ak w,p.W.cell? ⟨b,10,O⟩=Z e)∧(∀ p:Ak w,p.W.cell? ⟨b,11,O⟩=Z g):=by
 have a:=(bC.1 h).1;obtain⟨s,u,y,z,A,B,C,D,E,F,v,x⟩:=Yo h;exact⟨qC s a,qC u a,qC y a,qC z a,qC A a,qC B a,qC C a,qC D a,qC E a,qC F a,qC v a,qC x a⟩
end
structure LA where
 W:bG
instance :Inhabited LA:=⟨⟨default⟩⟩
section
variable {P:bX} {id:Nat} {l:List bY} {Q:dK→Act→bG→Prop} {a:Act} {w:bG} {ops:Array bY} {n:Nat}
def LU(ops:Array bY)(s:Nat):List Nat:=(bT s).foldr (fun i b=>if b.any (fun j=>BH ops j i) then i::b else b) [s]
def R3{s:Nat}:∀ i∈LU ops s,i=s∨By ops s i:=by
 unfold LU;generalize bT s=r
 induction r with
 |nil=>intro i b;simp at b;exact .inl b
 |cons x r c=>
  intro i b;simp only[List.foldr_cons] at b;split at b
  ·rename_i h;rcases dJ.1 b with rfl|b
   ·obtain⟨j,f,d⟩:=List.any_eq_true.1 h;rcases c j f with rfl|e
    ·exact .inr (.base d)
    ·exact .inr (e.QG d)
   ·exact c i b
  ·exact c i b
def Lx(ops:Array bY)(n:Nat)(S F:List Nat)(mk:Nat→Bool):Bool:=
 (bT n).filter (fun i=>S.contains i)==S &&
 (match S with
 | []=>false
 |s::_=>let b:=LU ops s;(bT n).all (fun i=>S.contains i||F.contains i||b.contains i)) &&
 (bT n).all (fun i=>S.contains i||mk i||match ops[i]? with|none=>false|some o=>Hx o.op) &&
 S.all (fun i=>!mk i && Av ops i==O) && F.all (fun i=>!mk i && !S.contains i) &&
 (bT (S.length-1)).all (fun m=>BH ops (S.getD (m+1) 0) (S.getD m 0))
structure Ge(ops:Array bY)(n:Nat)(S F:List Nat)(mk:Nat→Bool)(s:Nat):Prop where
 list:(bT n).filter (fun i=>S.contains i)=S
 fst:S[0]? =Z s
 Om:∀ i,i<n→i∉S→i∉F→By ops s i
 Lk:∀ i,i<n→i∉S→mk i=false→∃ o,ops[i]? =Z o∧Hx o.op=true
 DW:∀ i∈S,i<n∧mk i=false∧Av ops i=O
 Gs:∀ i∈F,mk i=false∧i∉S
 IS:∀ m i j,S[m]? =Z i→S[m+1]? =Z j→BH ops j i=true
def Q4{S F:List Nat}{mk:Nat→Bool}(h:Lx ops n S F mk=true):∃ s,Ge ops n S F mk s:=by
 simp only[Lx,b5,beq_iff_eq] at h;obtain⟨⟨⟨⟨⟨d,e⟩,p⟩,q⟩,r⟩,t⟩:=h;cases S with
 |nil=>simp at e
 |cons s k=>
  have A:∀ i∈s::k,i<n:=fun i b=>by
   rw[←d] at b;exact cf.1 (List.mem_filter.1 b).1
  refine⟨s,d,rfl,fun i b c v=>?_,fun i b c z=>?_,fun i b=>?_,fun i b=>?_,fun m i j b g=>?_⟩
  ·have:=b4.1 e i (cf.2 b);simp only[cC,bQ] at this;rcases this with (h|h)|h
   ·exact absurd h c
   ·exact absurd h v
   ·rcases R3 i h with rfl|u
    ·exact absurd (du ..) c
    ·exact u
  ·have:=b4.1 p i (cf.2 b);simp only[cC,bQ,z,bL,or_false] at this;rcases this with h|h
   ·exact absurd h c
   ·split at h
    ·cases h
    ·rename_i o B;exact⟨o,B,h⟩
  ·have:=b4.1 q i b;simp only[b5,cV,beq_iff_eq] at this;exact⟨A i b,this⟩
  ·have:=b4.1 r i b;simp only[b5,cV] at this;refine⟨this.1,fun x=>?_⟩;have f:=this.2;rw[bQ.2 x] at f;cases f
  ·have y:=(bR.1 g).1;have:=b4.1 t m (cf.2 (by simp at y ⊢;omega));rw[cl,cl,b,g] at this;exact this
def AQ(P:bX)(ops:Array bY)(S F:List Nat)(mk:Nat→Bool)(V:Nat→bF→bG→Prop)(w:bG)(E:List bY→(Nat→bF)→Act→Prop):Nat→List bY→List bY→(Nat→bF)→Act→Prop
 | _,[],os,vs,A=>E os vs A
 |i,o::rest,os,vs,A=>
  if S.contains i then AQ P ops S F mk V w E (i+1) rest (os++ [o]) vs A
  else if mk i then
   (∀ w',Bl w w'→(∀ j,mk j=true→By ops i j→V j (vs j) w')→Bd P o A w' (fun v b=>Bl w' b∧V i v b))∧
   ∀ v w',Bl w w'→V i v w'→AQ P ops S F mk V w E (i+1) rest os (fun j=>if j=i then v else vs j) (A.put o.dst v)
  else if F.contains i then o.quiet P A (fun w'=>∃ p:LA,w'=p.W) (AQ P ops S F mk V w E (i+1) rest os vs)
  else o.quiet P A (fun w'=>∃ p:Ak w,w'=p.W) (AQ P ops S F mk V w E (i+1) rest os vs)
def A7(P:bX)(A:Act):List bY→bG→(bG→Prop)→Prop
 | [],w,K=>K w
 |o::os,w,K=>∃ w',(b3 A.eval o).run P w=.ok .skip w'∧A7 P A os w' K
section
variable {S F:List Nat} {mk:Nat→Bool} {V:Nat→bF→bG→Prop} {E:List bY→(Nat→bF)→Act→Prop}
def Dw(P:bX)(ops:Array bY)(n:Nat)(F:List Nat)(mk:Nat→Bool)(V:Nat→bF→bG→Prop)(a:Act)(w:bG)(i:Nat)(vs:Nat→bF)(w':bG):Prop:=
 if mk i then V i (vs i) w' else ∀ o,ops[i]? =Z o→Bg P o (Ar ops vs a n) w (vs i)∧(F.contains i=true→∀ x,Bg P o (Ar ops vs a n) x (vs i))
def Ge.inc{s:Nat}{f:Nat}(c:CO ops n f=true)(h:Ge ops n S F mk s):∀ (q m i j:Nat),S[m]? =Z i→S[m+1+q]? =Z j→i<j
 |0,m,i,j,d,b=>CD c (h.DW j (bN b)).1 (h.IS m i j d b)
 |q+1,m,i,j,d,b=>by
  have o:=(bR.1 b).1;obtain⟨x,e⟩:∃ x,S[m+1+q]? =Z x:=⟨_,bO (by omega)⟩;have g:=Ge.inc c h q m i x d e;have k:=CD c (h.DW j (bN b)).1 (h.IS (m+1+q) x j e b);omega
def KG(C:CO ops n a.tmps.size=true){i:Nat}{o:bY}(u:ops[i]? =Z o)(D:i<n){listed:Array Bool}{us:Nat→bF}(B:∀ j,BH ops i j=true→listed.getD j false=true):
  b3 (Ba ops listed us a n).eval o=b3 (Ar ops us a n).eval o:=by
 obtain⟨hn,W,h⟩:=DM C;have p:∀ j k,j<n→k<n→j≠k→∀ t,Av ops j=Z t→Av ops k≠Z t:=fun j k b L N t X=>by
  obtain⟨o,H⟩:=h k L;exact(H.apart j b N t X).1
 obtain⟨d,H⟩:=h i D;obtain rfl:d=o:=bI (H.at_.symm.trans u);refine dc d (fun A z=>cv W i d A z u) (fun x hx=>?_);cases x with
 |tmp t=>
  have r:t∈d.looksAt ops:=by
   unfold cU;exact cx _ (cG.2 ⟨.tmp t,by simpa using hx,rfl⟩)
  obtain⟨la,M,R⟩:=Jo (ops:=ops) (vs:=us) (a:=a) n;rw[R];by_cases q:∃ j,j<n∧Av ops j=Z t
  ·obtain⟨j,b,c⟩:=q;have K:j≠i:=by
    rintro rfl;have:d.dst=Z t:=by simpa[Av,H.at_] using c
    exact H.own t this r
   have y:t<a.tmps.size:=by
    obtain⟨oj,m⟩:=h j b;exact m.low t (by simpa[Av,m.at_] using c)
   rw[Hz b (B j ((H.apart j b K t c).2 r)) c y p,Hz b (M j b) c y p]
  ·have s:∀ j,j<n→Av ops j≠Z t:=fun j b e=>q ⟨j,b,e⟩;rw[Gy n (fun j b _=>s j b),Gy n (fun j b _=>s j b)]
 |const v=>rfl
 |global g=>rfl
 |func f=>rfl
def MV(hh:CO ops n a.tmps.size=true)(aT:n=ops.size){s:Nat}(A:Ge ops n S F mk s)(us:Nat→bF)
  (hF:∀ i∈F,∀ o,ops[i]? =Z o→∀ x,Bg P o (Ar ops us a n) x (us i)):
  ∀ (k:Nat) (listed:Array Bool) (w':bG) (m:Nat),Cq listed n=k→cw .any ops n listed→(∀ i,i<n→listed.getD i false=false→i∈F∨∃ j,m≤j∧S[j]? =Z i)→(∀ j i,m≤j→S[j]? =Z i→listed.getD i false=false)→
   A7 P (Ar ops us a n) ((S.drop m).filterMap (fun i=>ops[i]?)) w' (Q .normal (Ar ops us a n))→dL P .any ops Q k listed (Ba ops listed us a n) w':=by
 obtain⟨hn,aU,ac⟩:=DM hh;have hd:∀ j k,j<n→k<n→j≠k→∀ t,Av ops j=Z t→Av ops k≠Z t:=fun j k b hk N t ht=>by
  obtain⟨o,H⟩:=ac k hk;exact(H.apart j b N t ht).1
 intro k
 induction k with
 |zero=>
  intro listed w' m hu R u C f;have K:=Ie hu;rw[Jp n K];have hm:S.drop m=[]:=by
   apply dk;apply cj;intro p;obtain⟨x,c⟩:∃ x,S[m]? =Z x:=⟨_,bO (by omega)⟩;have D:=C m x (bH _) c;rw[K x (A.DW x (bN c)).1] at D;cases D
  rw[hm] at f;refine⟨?_,f⟩;apply cY.2;intro i L;obtain⟨aJ,o,ho,_⟩:=cc.1 L;have p:=(bC.1 ho).1;have u:=K i (by omega);rw[cJ aJ] at u;cases u
 |succ k ih=>
  intro listed w' m hu R u C f;obtain⟨i0,ay,aK,aD⟩:=I9 (listed:=listed) (n:=n) (by omega);have aV:=R.size;have aL:listed.getD i0 true=false:=cM (by omega) aK;have ap:i0∈cB .any ops listed:=by
   obtain⟨o,H⟩:=ac i0 ay;exact cc.2 ⟨aL,o,H.at_,fun e X W=>aD e.on (H.back e X W)⟩
  refine⟨fun h=>(by rw[h] at ap;cases ap),fun i L=>?_⟩;obtain⟨az,o',r,K⟩:=cc.1 L;have y:i<n:=by have:=(bC.1 r).1;omega
  obtain⟨o,H⟩:=ac i y;obtain rfl:o=o':=bI (H.at_.symm.trans r);have p:i<listed.size:=by have:=(bC.1 r).1;omega
  have ad:listed.getD i false=false:=cJ az;have ak:∀ j,BH ops i j=true→listed.getD j false=true:=fun j b=>by
   obtain⟨e,X,W,rfl⟩:=(G6 H.at_).1 b;exact K e X W
  have aO:bZ o (dj ops (Ba ops listed us a n).tmps)=true:=by simp[bZ,H.Jh]
  have al:=KG hh r y (us:=us) ak;have aj:Av ops i=o.dst:=by simp[Av,r]
  have am:Cq (listed.setIfInBounds i true) n=k:=by
   have:=IA p ad (n:=n) y;omega
  have ao:∀ v,(i∈F→v=us i)→(i∉F→o.dst=O)→(Ba ops listed us a n).put o.dst v=Ba ops (listed.setIfInBounds i true) us a n:=fun v hv aF=>by
   have h5:=Jq (ops:=ops) (listed:=listed) (vs:=us) (a:=a) (n:=n) (v:=us i) y p ad hd;have h6:(fun j=>if j=i then us i else us j)=us:=by
    funext j;by_cases e:j=i
    ·rw[if_pos e,e]
    ·rw[if_neg e]
   rw[h6] at h5;rw[h5,aj];by_cases g:i∈F
   ·rw[hv g]
   ·rw[aF g];rfl
  unfold wpOp;simp only[r,aO,if_true];rcases u i y ad with g|⟨j,aR,b⟩
  ·have an:=hF i g o r w';have hg:Bd P o (Ar ops us a n) w' (fun v M=>v=us i∧M=w'):=by
    unfold Bd;unfold Bg at an;rw[an];exact⟨rfl,rfl⟩
   refine .inl (Hr al hg fun v M hp=>?_);obtain⟨rfl,rfl⟩:=hp;rw[ao _ (fun _=>rfl) (fun h=>absurd g h)];refine ih _ _ m am (R.set L y) (fun q B d=>?_) (fun q x B c=>?_) f
   ·rw[Dk p] at d;split at d
    ·cases d
    ·exact u q B d
   ·rw[Dk p,if_neg]
    ·exact C q x B c
    ·rintro rfl;exact(A.Gs x g).2 (bN c)
  ·have aA:j=m:=by
    apply cj;intro N;have ae:=(bR.1 b).1;obtain⟨x,c⟩:∃ x,S[j-1]? =Z x:=⟨_,bO (by omega)⟩;have hw:=A.IS (j-1) x i c (by rw[←b];congr 1;omega);have D:=C (j-1) x (by omega) c;rw[ak x hw] at D;cases D
   subst aA;have ae:=(bR.1 b).1;have aw:S.drop j=i::S.drop (j+1):=by
    rw[bU ae]
    congr 1
    rw[bO ae] at b;exact bI b
   rw[aw,dt,r] at f;obtain⟨w2,hr,f⟩:=f;have aE:i∉F:=fun g=>(A.Gs i g).2 (bN b);have hg:Bd P o (Ar ops us a n) w' (fun v M=>M=w2):=by
    unfold Bd;rw[hr];rfl
   refine .inl (Hr al hg fun v M hp=>?_);subst hp;rw[ao _ (fun h=>absurd h aE) (fun _=>by rw[←aj];exact(A.DW i (bN b)).2.2)];refine ih _ _ (j+1) am (R.set L y) (fun q B d=>?_) (fun q x B c=>?_) f
   ·rw[Dk p] at d;split at d
    ·cases d
    ·rename_i N;rcases u q B d with h|⟨z,hz,ag⟩
     ·exact .inl h
     ·refine .inr ⟨z,?_,ag⟩;rcases cW j z with h|h
      ·omega
      ·obtain rfl:z=j:=by omega
       rw[b] at ag;exact absurd (bI ag).symm N
   ·rw[Dk p,if_neg]
    ·exact C q x (by omega) c
    ·rintro rfl;have:=A.inc hh (q-j-1) j x x b (by rw[←c];congr 1;omega);omega
def Kf(hh:CO ops n a.tmps.size=true){s:Nat}(N:Ge ops n S F mk s)(hV:∀ i v w' ay,V i v w'→Bl w' ay→V i v ay)
  (hl:ops=l.toArray) (H:AQ P ops S F mk V w E 0 (l.take n) [] (fun _=>cr) a) (t:Nat→Prop) (hZ:∀ i j,i<n→t i→BH ops i j=true→t j) (aB:∀ i,t i→i∉S)
  (vs:Nat→bF) (w':bG) (aR:Bl w w') (ax:∀ i,i<n→t i→i∉S→Dw P ops n F mk V a w i vs w'):
  ∀ k,k≤n→∃ (us L:Nat→bF) (r:bG),AQ P ops S F mk V w E k ((l.take n).drop k) (((bT k).filter (fun i=>S.contains i)).filterMap (fun i=>ops[i]?)) L (Ar ops us a k)∧(∀ j,j<k→t j→j∉S→us j=vs j)∧(∀ j,j<k→mk j=true→L j=us j)∧
   Bl w r∧(∀ j,j<k→mk j=true→V j (us j) r)∧(∀ j,j<n→t j→mk j=true→V j (vs j) r)∧((∀ j,j<n→mk j=true→t j)→r=w')∧
   (∀ j,j<k→j∈F→∀ o,ops[j]? =Z o→∀ x,Bg P o (Ar ops us a j) x (us j)):=by
 have hn:=(DM hh).1;have aW:n≤l.length:=by simpa[hl] using hn
 have aT:∀ i,mk i=true→i∉S:=fun i f p=>by rw[(N.DW i p).2.1] at f;cases f
 intro k
 induction k with
 |zero=>exact fun _=>⟨fun _=>cr,fun _=>cr,w',by rw[b7];exact H,fun j b=>absurd b (by omega),fun j b=>absurd b (by omega),aR,fun j b=>absurd b (by omega),fun j b p f=>by
   have:=ax j b p (aT j f);simpa only[Dw,f,if_true] using this,fun _=>rfl,fun j b=>absurd b (by omega)⟩
 |succ k ih=>
  intro hk;obtain⟨us,L,r,g,X,h3,M,h5,h6,h7,h8⟩:=ih (by omega);have aJ:k<l.length:=by omega
  have aE:(l.take n).drop k=l[k]::(l.take n).drop (k+1):=by
   rw[bU (by simp;omega)];simp
  have K:ops[k]? =Z l[k]:=by simp[hl,aJ]
  rw[aE] at g;have aG:Av ops k=l[k].dst:=by simp[Av,K]
  have av:∀ v,(Ar ops us a k).put l[k].dst v=Ar ops (fun j=>if j=k then v else us j) a (k+1):=fun v=>by
   simp only[Ar,if_true,aG];rw[I3 (us:=us) (vs:=fun j=>if j=k then v else us j) k (fun j b=>by simp only[if_neg (show¬j=k by omega)])]
  have aq:∀ (v:bF),(k∈F→∀ x,Bg P l[k] (Ar ops us a k) x v)→∀ j,j<k+1→j∈F→∀ o,ops[j]? =Z o→∀ x,Bg P o (Ar ops (fun j=>if j=k then v else us j) a j) x ((fun j=>if j=k then v else us j) j):=fun v m j b d o W x=>by
   have hc:Ar ops (fun j=>if j=k then v else us j) a j=Ar ops us a j:=I3 j (fun q hq=>by simp only[if_neg (show¬q=k by omega)]);rw[hc];by_cases e:j=k
   ·subst e;simp only[if_true];rw[K] at W;injection W with W;subst W;exact m d x
   ·simp only[if_neg e];exact h8 j (by omega) d o W x
  have aw:bT (k+1)=bT k++ [k]:=dG;simp only[AQ] at g;by_cases p:S.contains k=true
  ·rw[if_pos p] at g;have A:k∈S:=bQ.1 p;obtain⟨_,B,aF⟩:=N.DW k A;have aL:k∉F:=fun d=>(N.Gs k d).2 A;refine⟨us,L,r,?_,fun j b u D=>?_,fun j b c=>?_,M,fun j b c=>?_,h6,h7,fun j b d=>?_⟩
   ·rw[aw,cH,cu];have e1:([k].filter (fun i=>S.contains i)).filterMap (fun i=>ops[i]?)=[l[k]]:=by simp[A,K]
    rw[e1];have e2:Ar ops us a (k+1)=Ar ops us a k:=by
     simp only[Ar,aF];rfl
    rw[e2];exact g
   ·exact X j (by have:j≠k:=(by rintro rfl;exact D A);omega) u D
   ·exact h3 j (by have:j≠k:=(by rintro rfl;rw[B] at c;cases c);omega) c
   ·exact h5 j (by have:j≠k:=(by rintro rfl;rw[B] at c;cases c);omega) c
   ·exact h8 j (by have:j≠k:=(by rintro rfl;exact aL d);omega) d
  ·have aX:S.contains k=false:=by simpa using p
   have A:k∉S:=fun h=>p (bQ.2 h);rw[if_neg p] at g;have aN:((bT (k+1)).filter (fun i=>S.contains i)).filterMap (fun i=>ops[i]?)=((bT k).filter (fun i=>S.contains i)).filterMap (fun i=>ops[i]?):=by
    rw[aw,cH,cu];simp[A]
   rw[aN];by_cases f:mk k=true
   ·rw[if_pos f] at g;obtain⟨C,z⟩:=g;have aj:∃ v y,Bl r y∧V k v y∧(t k→v=vs k)∧(t k→y=r):=by
     by_cases ag:t k
     ·exact⟨vs k,r,bM _ _,h6 k (by omega) ag f,fun _=>rfl,fun _=>rfl⟩
     ·obtain⟨v,y,R,m⟩:=Mv (C r M (fun j b ha=>by
       have:=ha.lt hh (by omega);rw[h3 j this b];exact h5 j this b))
      exact⟨v,y,R,m,fun h=>absurd h ag,fun h=>absurd h ag⟩
    obtain⟨v,y,R,m,aP,aQ⟩:=aj;have ap:Bl w y:=M.trans (R.mono M.size);have g3:=z v y ap m;rw[av v] at g3;refine⟨_,_,y,g3,fun j b u D=>?_,fun j b c=>?_,ap,fun j b c=>?_,fun j b p c=>hV _ _ _ _ (h6 j b p c) R,fun ao=>(aQ (ao k (by omega) f)).trans (h7 ao),aq v (fun d=>by rw[(N.Gs k d).1] at f;cases f)⟩
    ·by_cases e:j=k
     ·subst e;simp only[if_true];exact aP u
     ·rw[if_neg e];exact X j (by omega) u D
    ·by_cases e:j=k
     ·simp only[e,if_true]
     ·simp only[if_neg e];exact h3 j (by omega) c
    ·by_cases e:j=k
     ·subst e;simp only[if_true];exact m
     ·rw[if_neg e];exact hV _ _ _ _ (h5 j (by omega) c) R
   ·have B:mk k=false:=by simpa using f
    rw[if_neg f] at g;obtain⟨o1,aM,ai⟩:=N.Lk k (by omega) A B;obtain rfl:o1=l[k]:=bI (aM.symm.trans K);have aj:∃ v,Bg P l[k] (Ar ops us a k) w v∧(k∈F→∀ x,Bg P l[k] (Ar ops us a k) x v)∧AQ P ops S F mk V w E (k+1) ((l.take n).drop (k+1)) (((bT k).filter (fun i=>S.contains i)).filterMap (fun i=>ops[i]?)) L ((Ar ops us a k).put l[k].dst v):=by
     by_cases d:F.contains k=true
     ·rw[if_pos d] at g;obtain⟨v,C,z⟩:=g;exact⟨v,D1 ai (C w ⟨⟨w⟩,rfl⟩),fun _ x=>D1 ai (C x ⟨⟨x⟩,rfl⟩),z⟩
     ·rw[if_neg d] at g;obtain⟨v,C,z⟩:=g;exact⟨v,D1 ai (C w ⟨⟨w,bM _ w⟩,rfl⟩),fun h=>absurd (bQ.2 h) d,z⟩
    obtain⟨v,hq,aO,z⟩:=aj;rw[av v] at z;refine⟨_,L,r,z,fun j b u D=>?_,fun j b c=>?_,M,fun j b c=>?_,h6,h7,aq v aO⟩
    ·by_cases e:j=k
     ·subst e;simp only[if_true];have m:=ax j (by omega) u A;simp only[Dw,B,bL,if_false] at m;have m:=(m _ K).1;have he:=E7 hh K (by omega) (bH _) (by omega) (show j≤n by omega) (bH _) (us:=us) (vs:=vs) (fun i hi=>by
       have aI:=CD hh (by omega) hi;by_cases ar:i∈S
       ·exact absurd ar (aB i (hZ j i (by omega) u hi))
       ·exact X i aI (hZ j i (by omega) u hi) ar)
      unfold Bg at hq m;rw[he,m] at hq;simpa using hq.symm
     ·rw[if_neg e];exact X j (by omega) u D
    ·have e:j≠k:=by rintro rfl;rw[B] at c;cases c
     rw[if_neg e];exact h3 j (by omega) c
    ·have e:j≠k:=by rintro rfl;rw[B] at c;cases c
     rw[if_neg e];exact h5 j (by omega) c
def MU(z:CO l.toArray n a.tmps.size=true)(bc:n=l.toArray.size){s:Nat}(y:Ge l.toArray n S F mk s)(hV:∀ i v w' W,V i v w'→Bl w' W→V i v W)
  (H:AQ P l.toArray S F mk V w (fun os vs A=>∀ w',Bl w w'→(∀ j,j<n→mk j=true→V j (vs j) w')→A7 P A os w' (Q .normal A)) 0 (l.take n) [] (fun _=>cr) a):
  ∀ (k:Nat) (listed:Array Bool) (b:Act) (w':bG),Cq listed n=k→cw .any l.toArray n listed→(∀ i∈S,listed.getD i false=false)→
   (∃ vs,b=Ba l.toArray listed vs a n∧Bl w w'∧∀ i,i<n→listed.getD i false=true→Dw P l.toArray n F mk V a w i vs w')→dL P .any l.toArray Q k listed b w':=by
 obtain⟨hn,bA,ak⟩:=DM z;have hd:∀ j k,j<n→k<n→j≠k→∀ t,Av l.toArray j=Z t→Av l.toArray k≠Z t:=fun j k c hk ba t ht=>by
  obtain⟨o,H⟩:=ak k hk;exact(H.apart j c ba t ht).1
 have aB:∀ {listed:Array Bool},cw .any l.toArray n listed→∀ i j,i<n→listed.getD i false=true→BH l.toArray i j=true→listed.getD j false=true:=fun {listed} L i j p d hw=>by
  obtain⟨oi,Hi⟩:=ak i p;obtain⟨e,K,ad,rfl⟩:=(G6 Hi.at_).1 hw;exact L.closed i oi Hi.at_ d e K ad
 intro k
 induction k with
 |zero=>
  rintro listed b w' hu L M ⟨vs,rfl,R,ag⟩;have ar:=Ie hu;have r:=y.DW s (bN y.fst);have:=M s (bN y.fst);rw[ar s r.1] at this;cases this
 |succ k ih=>
  rintro listed b w' hu L M ⟨vs,rfl,R,ag⟩;by_cases au:∀ i,i<n→i∉S→i∉F→listed.getD i false=true
  ·obtain⟨us,xs,w1,u,h2,h3,h4,h5,h6,h7,h8⟩:=Kf z y hV rfl H (fun i=>listed.getD i false=true) (fun i j p d hw=>aB L i j p d hw) (fun i d r=>by rw[M i r] at d;cases d) vs w' R (fun i p d _=>ag i p d) n (bH _);have bb:(l.take n).drop n=[]:=by simp
   rw[bb,y.list] at u;simp only[AQ] at u;have bm:w1=w':=h7 fun j c C=>au j c (fun r=>by rw[(y.DW j r).2.1] at C;cases C) (fun B=>by rw[(y.Gs j B).1] at C;cases C);subst bm;have a0:=u w1 h4 (fun j c C=>by
    rw[h3 j c C];exact h5 j c C)
   have bf:Ba l.toArray listed vs a n=Ba l.toArray listed us a n:=Ln n (fun i _=>rfl) (fun i p d=>(h2 i p d (fun r=>by rw[M i r] at d;cases d)).symm);rw[bf];refine MV z bc y us (fun i B o ho x=>?_) (k+1) listed w1 0 hu L (fun i p d=>?_) (fun j i _ c=>M i (bN c)) ?_
   ·have f:i<n:=by have:=(bC.1 ho).1;omega
    have h9:=h8 i f B o ho x;have K:=E7 z ho f (bH _) (bP f) (bP f) (bH _) (us:=us) (vs:=us) (fun _ _=>rfl);unfold Bg at*;rw[←K];exact h9
   ·by_cases r:i∈S
    ·obtain⟨j,c⟩:=cy r;exact .inr ⟨j,ds _,c⟩
    ·by_cases B:i∈F
     ·exact .inl B
     ·rw[au i p r B] at d;cases d
   ·rw[b7];exact a0
  ·obtain⟨i0,a2,bk,a9⟩:=I9 (listed:=listed) (n:=n) (by omega);have bB:=L.size;have bl:listed.getD i0 true=false:=cM (by omega) bk;have aP:i0∈cB .any l.toArray listed:=by
    obtain⟨o,H⟩:=ak i0 a2;exact cc.2 ⟨bl,o,H.at_,fun e K ad=>a9 e.on (H.back e K ad)⟩
   refine⟨fun h=>(by rw[h] at aP;cases aP),fun i p=>?_⟩;obtain⟨a5,o',D,ar⟩:=cc.1 p;have f:i<n:=by have:=(bC.1 D).1;omega
   obtain⟨o,H'⟩:=ak i f;obtain rfl:o=o':=bI (H'.at_.symm.trans D);have al:i<listed.size:=by have:=(bC.1 D).1;omega
   have aw:listed.getD i false=false:=cJ a5;have ab:∀ j,BH l.toArray i j=true→listed.getD j false=true:=fun j c=>by
    obtain⟨e,K,ad,rfl⟩:=(G6 H'.at_).1 c;exact ar e K ad
   have aJ:∀ j,By l.toArray i j→listed.getD j false=true:=fun j c=>by
    cases c with
    |base h=>exact ab j h
    |step h h2=>exact h2.listed z L (by have:=CD z f h;omega) (ab _ h)
   have av:i∉S:=fun a4=>by
    obtain⟨m,C⟩:=cy a4;cases m with
    |zero=>
     rw[y.fst] at C;obtain rfl:=bI C;exact au fun q N bh bg=>aJ q (y.Om q N bh bg)
    |succ m=>
     have bx:=(bR.1 C).1;obtain⟨x,hx⟩:∃ x,S[m]? =Z x:=⟨_,bO (by omega)⟩;have h4:=M x (bN hx);rw[ab x (y.IS m x i hx C)] at h4;cases h4
   have bn:bZ o (dj l.toArray (Ba l.toArray listed vs a n).tmps)=true:=by simp[bZ,H'.Jh]
   have aY:=KG z D f (us:=vs) ab;obtain⟨us,xs,w1,u,h2,h3,h4,h5,h6,h7,h8⟩:=Kf z y hV rfl H (fun i=>listed.getD i false=true) (fun i j p d hw=>aB L i j p d hw) (fun i d r=>by rw[M i r] at d;cases d) vs w' R (fun i p d _=>ag i p d) i (bP f);have a3:i<l.length:=by have:=(bC.1 D).1;simpa using this
   have a8:l[i]=o:=by
    have h9:l[i]? =Z o:=by simpa using D
    rw[bO a3] at h9;exact bI h9
   have aV:(l.take n).drop i=o::(l.take n).drop (i+1):=by
    rw[bU (by simp;omega)];simp[a8]
   rw[aV] at u;simp only[AQ] at u;have bi:¬S.contains i=true:=fun h=>av (bQ.1 h);rw[if_neg bi] at u;have aI:∀ j,BH l.toArray i j=true→us j=vs j:=fun j c=>h2 j (CD z f c) (ab j c) (fun r=>by have:=M j r;rw[ab j c] at this;cases this);have K:=E7 z D f (bH _) (bP f) (bP f) (bH _) (us:=us) (vs:=vs) aI;have aU:∀ v,∀ j,BH l.toArray i j=true→us j=(fun j=>if j=i then v else vs j) j:=fun v j c=>by
    have:=CD z f c;simp only[if_neg (show¬j=i by omega)];exact aI j c
   have hg:Bd P o (Ar l.toArray vs a n) w' (fun v W=>Bl w' W∧Dw P l.toArray n F mk V a w i (fun j=>if j=i then v else vs j) W):=by
    by_cases am:mk i=true
    ·rw[if_pos am] at u;have g:=u.1 w' R (fun j c ha=>by
      have aL:=ha.lt z f;have aM:=aJ j ha;rw[h3 j aL c,h2 j aL aM (fun r=>by rw[(y.DW j r).2.1] at c;cases c)];have:=ag j (by omega) aM;simpa only[Dw,c,if_true] using this)
     refine KR (IY K g) fun v W h=>⟨h.1,?_⟩;simp only[Dw,am,if_true];exact h.2
    ·have aN:mk i=false:=by simpa using am
     rw[if_neg am] at u;obtain⟨o1,bd,ae⟩:=y.Lk i f av aN;obtain rfl:o1=o:=bI (bd.symm.trans D);have bp:∃ v,Bg P o1 (Ar l.toArray us a i) w v∧Bg P o1 (Ar l.toArray us a i) w' v∧(F.contains i=true→∀ x,Bg P o1 (Ar l.toArray us a i) x v):=by
      by_cases B:F.contains i=true
      ·rw[if_pos B] at u;obtain⟨v,X,_⟩:=u;exact⟨v,D1 ae (X w ⟨⟨w⟩,rfl⟩),D1 ae (X w' ⟨⟨w'⟩,rfl⟩),fun _ x=>D1 ae (X x ⟨⟨x⟩,rfl⟩)⟩
      ·rw[if_neg B] at u;obtain⟨v,X,_⟩:=u;exact⟨v,D1 ae (X w ⟨⟨w,bM _ w⟩,rfl⟩),D1 ae (X w' ⟨⟨w',R⟩,rfl⟩),fun h=>absurd h B⟩
     obtain⟨v,q0,q1,qf⟩:=bp;refine IY K ?_;unfold Bg at q1 q0;unfold Bd;rw[q1];refine⟨bM _ _,?_⟩;simp only[Dw,aN,bL,if_false,if_true];intro o2 be;obtain rfl:o2=o1:=bI (be.symm.trans D);have aK:=E7 z D f (bH _) (bP f) (bP f) (bH _) (us:=us) (vs:=fun j=>if j=i then v else vs j) (aU v);refine⟨?_,fun B x=>?_⟩
     ·unfold Bg;rw[←aK];exact q0
     ·have:=qf B x;unfold Bg at this ⊢;rw[←aK];exact this
   unfold wpOp;simp only[D,bn,if_true];refine .inl (Hr aY hg fun v W hp=>ih _ _ _ ?_ (L.set p f) (fun q N=>?_) ⟨fun j=>if j=i then v else vs j,?_,R.trans (hp.1.mono R.size),fun j c d=>?_⟩)
   ·have:=IA al aw (n:=n) f;omega
   ·rw[Dk al,if_neg (by rintro rfl;exact av N)];exact M q N
   ·have aX:Av l.toArray i=o.dst:=by simp[Av,D]
    rw[Jq f al aw hd,aX]
   ·by_cases e:j=i
    ·subst e;exact hp.2
    ·rw[Dk al,if_neg e] at d;have af:=ag j c d;have a6:∀ q,BH l.toArray j q=true→q≠i:=fun q N=>by
      rintro rfl;have:=aB L j q c d N;rw[aw] at this;cases this
     unfold Dw at af ⊢;split
     ·rename_i ax;rw[if_pos ax] at af;simp only[if_neg e];exact hV _ _ _ _ af hp.1
     ·rename_i ax;rw[if_neg ax] at af;intro oj aO;have aZ:=E7 z aO c (bP c) (bH _) (bP c) (bH _) (us:=vs) (vs:=fun j=>if j=i then v else vs j) (fun q N=>by simp only[if_neg (a6 q N)]);have:=af oj aO;unfold Bg at this ⊢;rw[←aZ];simp only[if_neg e];exact this
def AS(n:Nat)(S F:List Nat)(M:Mk)(z:Kv M)
  (H:AQ P l.toArray S F (AP M) (AZ M) w (fun os vs A=>∀ w',Bl w w'→(∀ j f,j<n→M.lookup j=Z f→f (vs j) w')→A7 P A os w' (Q .normal A)) 0 (l.take n) [] (fun _=>cr) a)(x:P.follows .mixedOrders=true:=by kernel_rfl)(o:n=l.toArray.size:=by kernel_rfl)(r:CO l.toArray n a.tmps.size=true:=by kernel_rfl)(B:Lx l.toArray n S F (AP M)=true:=by kernel_rfl):
  (cz id l.toArray true).wp P Q a w:=by
 obtain⟨s,q⟩:=Q4 B;have c:∀ i:Nat,(bK l.toArray.size false).getD i false=false:=fun i=>b0 _ _
 have D:∀ m,Cq (bK l.toArray.size false) m=m:=fun m=>by
  induction m with
  |zero=>rfl
  |succ m g=>
   unfold Cq;rw[c,g];simp
 have K:cw .any l.toArray n (bK l.toArray.size false):=
  ⟨by simp,fun j N _ b=>(by rw[c] at b;cases b),fun t _ C=>cM (by simpa using C) (b0 _ _)⟩
 have y:∀ m,a=Ba l.toArray (bK l.toArray.size false) (fun _=>cr) a m:=fun m=>by
  induction m with
  |zero=>rfl
  |succ m g=>
   unfold Ba;rw[c];simpa using g
 have p:(fun(os:List bY) (vs:Nat→bF) (A:Act)=>∀ w',Bl w w'→(∀ j f,j<n→M.lookup j=Z f→f (vs j) w')→A7 P A os w' (Q .normal A))=(fun os vs A=>∀ w',Bl w w'→(∀ j,j<n→AP M j=true→AZ M j (vs j) w')→A7 P A os w' (Q .normal A)):=by
  funext os vs A;refine forall_congr fun w'=>?_
  refine forall_congr fun k=>?_
  refine propext ⟨fun h e=>h fun j f d b=>?_,fun h e=>h fun j d u=>?_⟩
  ·have:=e j d (by simp[AP,b]);simpa[AZ,b] using this
  ·unfold AP at u;unfold AZ;cases b:M.lookup j with
   |none=>trivial
   |some f=>exact e j f d b
 rw[p] at H;refine cX x ?_;have:=MU (P:=P) (Q:=Q) (a:=a) r o q (fun i v w' L h k=>by
  unfold AZ at*;cases b:M.lookup i with
  |none=>trivial
  |some f=>
   rw[b] at h;exact Ly z b v w' L h k) H n (bK l.toArray.size false) a {w with drawn:=w.drawn+1} (D n) K (fun i _=>c i) ⟨fun _=>cr,y n,(bM _ w).drew,fun i _ b=>(by rw[c] at b;cases b)⟩
 rw[o] at this;exact this
end
section
variable {S F:List Nat} {M:Mk} {E:List bY→(Nat→bF)→Act→Prop} {i k:Nat} {o:bY} {rest os:List bY} {vs:Nat→bF} {A:Act}
def An(b:S.contains i=false)(d:AP M i=false)(c:F.contains i=false)(h:∀ K:Act→Prop,(∀ a,AQ P ops S F (AP M) (AZ M) w E (i+1) (rest.take k) os vs a→K a)→o.quiet P A (fun w'=>∃ p:Ak w,w'=p.W) K):AQ P ops S F (AP M) (AZ M) w E i ((o::rest).take (k+1)) os vs A:=by
 rw[bV];simp only[AQ,b,d,c,bL,if_false];exact h _ fun _ h=>h
def Bi(b:S.contains i=false)(d:AP M i=false)(c:F.contains i=true)(h:∀ K:Act→Prop,(∀ a,AQ P ops S F (AP M) (AZ M) w E (i+1) (rest.take k) os vs a→K a)→o.quiet P A (fun w'=>∃ p:LA,w'=p.W) K):AQ P ops S F (AP M) (AZ M) w E i ((o::rest).take (k+1)) os vs A:=by
 rw[bV];simp only[AQ,b,d,c,bL,if_false,if_true];exact h _ fun _ h=>h
def AH(b:S.contains i=true)(h:AQ P ops S F (AP M) (AZ M) w E (i+1) (rest.take k) (os++ [o]) vs A):AQ P ops S F (AP M) (AZ M) w E i ((o::rest).take (k+1)) os vs A:=by
 rw[bV];simp only[AQ,b,if_true];exact h
def AR(h:E os vs A):AQ P ops S F (AP M) (AZ M) w E i (rest.take 0) os vs A:=by
 rw[dh];exact h
def A9{f:bF→bG→Prop}(h:S.contains i=false)(c:M.lookup i=Z f)(q:∀ w',Bl w w'→(∀ j g,M.lookup j=Z g→By ops i j→g (vs j) w')→Bd P o A w' (fun v e=>Bl w' e∧f v e))
  (s:∀ v w',Bl w w'→f v w'→AQ P ops S F (AP M) (AZ M) w E (i+1) (rest.take k) os (fun j=>if j=i then v else vs j) (A.put o.dst v)):AQ P ops S F (AP M) (AZ M) w E i ((o::rest).take (k+1)) os vs A:=by
 rw[bV];have r:AP M i=true:=by simp[AP,c]
 simp only[AQ,h,r,bL,if_false,if_true];refine⟨fun w' b m=>?_,fun v w' b t=>s v w' b (by simpa[AZ,c] using t)⟩;have:=q w' b (fun j g d p=>by
  have:=m j (by simp[AP,d]) p;simpa[AZ,d] using this)
 simpa[AZ,c] using this
def AI{K:bG→Prop}{w':bG}(b:(b3 A.eval o).run P w=.ok .skip w')(h:A7 P A os w' K):A7 P A (o::os) w K:=⟨w',b,h⟩
end
end
section
variable {P:bX} {id:Nat} {l:List bY} {Q:dK→Act→bG→Prop} {a:Act} {w:bG}
end
def FV(t:Array bF)(d:List Deferred)(k:Tmp)(v:bF):(⟨t,d⟩:Act).put (Z k) v=⟨t.setIfInBounds k v,d⟩:=rfl
def IL(w:bG)(k:Nat)(b:cm):Prop:=∃ a n c d f e z,w.heap[k]? =Z (T #[Y a n c,Y d f e,I J z] b (0,0))
def QS(v:bF)(x y z:bF):Prop:=v=.agg #[x,y,z]∧∃ a n c b e d u,x=Y a n c∧y=Y b e d∧z=I J u
def IL.next{w w':bG}{k:Nat}{b:cm}(h:IL w k b)(f:Bl w w'):IL w' k b:=by
 obtain⟨a,n,c,d,g,e,z,h⟩:=h;exact⟨a,n,c,d,g,e,z,(f.block _ (Aa h)).trans h⟩
def IL.put{w:bG}{k:Nat}{b:cm}{v x y z:bF}(h:IL w k b)(f:QS v x y z):(Ll w k x y z).heap[k]? =Z (T #[x,y,z] b (0,0))∧IL (Ll w k x y z) k b:=by
 obtain⟨a,n,c,j,m,l,u,h⟩:=h;obtain⟨_,d,g,c1,e,i,c2,u2,rfl,rfl,rfl⟩:=f;have:=PT (x:=Y d g c1) (y:=Y e i c2) (z:=I J u2) h;exact⟨this,_,_,_,_,_,_,_,this⟩
section
variable {P:bX} {id:Nat} {l:List bY} {Q:dK→Act→bG→Prop} {a:Act} {w:bG}
end
def Gm:EG 280:=fun _ _=>by kernel_rfl
def Tq:EG 283:=fun _ _=>by kernel_rfl
def E8{R:List Int}(h:∀ z∈R,0≤z∧z≤255)(i:Nat):0≤R.getD i 0∧R.getD i 0≤255:=by
 by_cases a:i<R.length
 ·rw[cl,bO a];exact h _ (List.getElem_mem a)
 ·rw[cl,List.getElem?_eq_none (by omega)];decide
def Nc{w w':bG}{g B:Nat}{v:bF}{l:List Int}(h:Af U w B v l)(a:Upd [g] w w')(x:g<B):Af U w' B v l:=by
 obtain⟨c,cap,s,o,p,n,q⟩:=h;refine⟨c,cap,s,o,p,n,fun d=>?_⟩;obtain⟨b,t,f,e,i,m⟩:=q d;have y:=a.size;refine⟨b,t,f,e,by omega,fun j u r=>?_⟩;have k:=a.block b i (by simp;omega);rw[←m j u r];unfold dM;simp only[k]
def Qh(w:bG)(t:cm)(n:Int):Af U (w.alloc (T #[I U n] t)) w.heap.size (Y (Z ⟨w.heap.size,0,O⟩) 1 1) [n]:=
 ⟨_,1,rfl,bH _,by simp,by simp,fun _=>⟨w.heap.size,0,rfl,bH _,by simp,fun j u a=>by
  rw[cN (w.alloc (T #[I U n] t)) w.heap.size _ _ _ _ (b8 w (T #[I U n] t))]
  match j,a with
  |0,a=>simpa using a⟩⟩
def Ao.bel{w w':bG}{g:Nat}{d c:Int}{R:List Int}{x:Ai}{i f:bF}{k a b:Int}(h:Ao w g d c R x i k a b f)(j:Bl w w'):Ao w' g d c R x i k a b f:=by
 obtain⟨_,_,_,_,e,h⟩:=h;exact⟨_,_,_,_,e,(j.block _ (Aa h)).trans h⟩
def PM(w:bG)(g:Nat)(L D:Int)(R:List Int)(x:Ai)(E:Option dB)(n F:Nat)(vd:bF)(k a b:Int)(h:Ao w g L D R x (Y E n F) k a b vd)(y:0≤x.c)(A:x.c≤3)(Q:∀ z∈R,0≤z∧z≤255)(ae:0≤x.b)(af:x.b≤4095)(S:(n:Int)≤x.b+R.getD x.c.toNat 0):
  ct prog 281 #[G (Z ⟨g,0,O⟩)] w fun e w'=>e=.returned (.tuple #[I J 0,.bool false])∧Ao w' g L D R x (Y E n F) 15 2 0 (Y O 0 0)∧Upd [g] w w':=by
 have j:=h.CB x.c y A;have C:=E8 Q x.c.toNat
 obtain⟨r,c1,t,d,i,s⟩:=h.cell;have m:=h.lt;have H:=HH h;clear h;generalize R.getD x.c.toNat 0=z at j C S ⊢;obtain⟨ag,ah⟩:=C;have q1:∀ p:Ak w,p.W.cell? ⟨g,2+x.c.toNat,O⟩=Z (I U z):=fun p=>(p.h.cell (p:=⟨g,_,O⟩) m).trans j;have q8:∀ p:Ak w,p.W.cell? ⟨g,8,O⟩=Z (I J x.b):=fun p=>(p.h.cell (p:=⟨g,_,O⟩) m).trans d;have q9:∀ p:Ak w,p.W.cell? ⟨g,9,O⟩=Z (I J x.c):=fun p=>(p.h.cell (p:=⟨g,_,O⟩) m).trans i;go_enter func281,ntmps281;go_upto_region 1 with (fail);refine BQ 17 [(11,fun v _=>v=G (Z ⟨g,2+x.c.toNat,O⟩))] ⟨Ch,trivial⟩ ?_
 iterate 11 (refine AK rfl ?_;intro K hK;go_big_quiet_op;go_big_quiet_on)
 refine Ca rfl (fun w' B hA=>?_) ?_
 ·refine AD (f:=280) (al:=[G (Z ⟨g,0,O⟩),I J x.c]) rfl rfl rfl Gm ?_;exact(D3 w' g x.c y A).mono fun e w2 h=>⟨_,h.1,h.2 ▸ ⟨bM _ _,rfl⟩⟩
 intro v w' B V;obtain rfl:=V;clear B w';simp only[FV,bW,cb,ca]
 iterate 5 (refine AK rfl ?_;intro K hK;go_big_quiet_op;go_big_quiet_on)
 refine BN ?_;intro w9 l X;simp only[cq,b7,cK];clear X r c1 t d i s j q1 q8 q9;have h:=H.o.bel l;obtain⟨r,c1,t,d,i,s⟩:=h.cell;obtain⟨N,P⟩:=H2 (Upd.below (M:=[g]) l) (h.fail 2 0 (by decide) (by decide));clear h l;go_wp2_with fail;refine P.o.mono ?_;rintro e w2 ⟨rfl,u,q⟩;have H2:=HH (ci u (N.o.trans q));clear u q;go_wp2_with fail
 go_ret2
 exact⟨rfl,H2.o⟩
def PN(w:bG)(g:Nat)(E B:Int)(R:List Int)(x:Ai)(C:Option dB)(n D:Nat)(F:bF)(k a b:Int)(h:Ao w g E B R x (Y C n D) k a b F)(t:0≤x.c)(u:x.c≤3)(Q:∀ z∈R,0≤z∧z≤255)(ac:0≤x.b)(ad:x.b≤4095)(S:x.b+R.getD x.c.toNat 0<(n:Int)):
  ct prog 281 #[G (Z ⟨g,0,O⟩)] w fun e w'=>e=.returned (.tuple #[I J (x.b+R.getD x.c.toNat 0),.bool true])∧Ao w' g E B R x (Y C n D) k a b F∧Upd [g] w w'∧Bl w w':=by
 have l:=h.CB x.c t u;have A:=E8 Q x.c.toNat
 obtain⟨q,c1,s,i,j,r⟩:=h.cell;have m:=h.lt;have H:=HH h;clear h;generalize R.getD x.c.toNat 0=z at l A S ⊢;obtain⟨ae,af⟩:=A;have q1:∀ p:Ak w,p.W.cell? ⟨g,2+x.c.toNat,O⟩=Z (I U z):=fun p=>(p.h.cell (p:=⟨g,_,O⟩) m).trans l;have q8:∀ p:Ak w,p.W.cell? ⟨g,8,O⟩=Z (I J x.b):=fun p=>(p.h.cell (p:=⟨g,_,O⟩) m).trans i;have q9:∀ p:Ak w,p.W.cell? ⟨g,9,O⟩=Z (I J x.c):=fun p=>(p.h.cell (p:=⟨g,_,O⟩) m).trans j;go_enter func281,ntmps281;go_upto_region 1 with (fail);refine BQ 17 [(11,fun v _=>v=G (Z ⟨g,2+x.c.toNat,O⟩))] ⟨Ch,trivial⟩ ?_
 iterate 11 (refine AK rfl ?_;intro K hK;go_big_quiet_op;go_big_quiet_on)
 refine Ca rfl (fun w' y hA=>?_) ?_
 ·refine AD (f:=280) (al:=[G (Z ⟨g,0,O⟩),I J x.c]) rfl rfl rfl Gm ?_;exact(D3 w' g x.c t u).mono fun e w2 h=>⟨_,h.1,h.2 ▸ ⟨bM _ _,rfl⟩⟩
 intro v w' y V;obtain rfl:=V;clear y w';simp only[FV,bW,cb,ca]
 iterate 5 (refine AK rfl ?_;intro K hK;go_big_quiet_op;go_big_quiet_on)
 refine BN ?_;intro w9 d X;simp only[cq,b7,cK];clear X q c1 s i j r l q1 q8 q9;have h:=H.o.bel d;obtain⟨q,c1,s,i,j,r⟩:=h.cell;obtain⟨N,P,L⟩:=H3 (Upd.below (M:=[g]) d) d h;clear h d;go_wp2_with fail
 go_ret2
 exact⟨rfl,L.o,N.o,P.o⟩
def TV(w:bG)(g:Nat)(l f:Int)(R:List Int)(x:Ai)(i:Option dB)(d j:Nat)(q:bF)(k a b:Int)(h:Ao w g l f R x (Y i d j) k a b q)(t:0≤x.c)(u:x.c≤3)(v:∀ z∈R,0≤z∧z≤255)(y:0≤x.b)(A:x.b≤4095)(p:(d:Int)≤x.b+R.getD x.c.toNat 0):
  ct prog 259 #[G (Z ⟨g,0,O⟩)] w fun e w'=>e=.returned (.tuple #[])∧Ao w' g l f R x (Y i d j) 15 2 0 (Y O 0 0)∧Upd [g] w w':=by
 have s:=HH (PM w g l f R x i d j q k a b h t u v y A p);clear h p;go_enter func259,ntmps259;go_wp2_with fail;refine s.o.mono ?_;rintro e B ⟨rfl,n,m⟩;have r:=HH (ci n m);clear n m;go_wp2_with fail
 go_end0
 exact⟨rfl,r.o⟩
def Ui(w:bG)(g:Nat)(l f:Int)(R:List Int)(x:Ai)(i:Option dB)(d j:Nat)(q:bF)(k a b:Int)(h:Ao w g l f R x (Y i d j) k a b q)(t:0≤x.c)(u:x.c≤3)(v:∀ z∈R,0≤z∧z≤255)(y:0≤x.b)(A:x.b≤4095)(p:(d:Int)≤x.b+R.getD x.c.toNat 0):
  ct prog 260 #[G (Z ⟨g,0,O⟩)] w fun e w'=>e=.returned (.tuple #[])∧Ao w' g l f R x (Y i d j) 15 2 0 (Y O 0 0)∧Upd [g] w w':=by
 have s:=HH (PM w g l f R x i d j q k a b h t u v y A p);clear h p;go_enter func260,ntmps260;go_wp2_with fail;refine s.o.mono ?_;rintro e B ⟨rfl,n,m⟩;have r:=HH (ci n m);clear n m;go_wp2_with fail
 go_end0
 exact⟨rfl,r.o⟩
def TU(w:bG)(g:Nat)(L F:Int)(R:List Int)(x:Ai)(t:Option dB)(l n:Nat)(N:bF)(k a b:Int)(h:Ao w g L F R x (Y t l n) k a b N)(r:0≤x.a)(s:x.a≤3)(h4:0≤x.c)(h5:x.c≤3)(X:∀ z∈R,0≤z∧z≤255)(am:0≤x.b)(an:x.b≤4095)(E:x.b+R.getD x.c.toNat 0<(l:Int))(az:l≤n)(d:Nat)(ap:t=Z ⟨d,0,O⟩)(H:Int)(ab:d<w.heap.size)(m:w.cell? ⟨d,(x.b+R.getD x.c.toNat 0).toNat,O⟩=Z (I U H)):
  ct prog 259 #[G (Z ⟨g,0,O⟩)] w fun e w'=>e=.returned (.tuple #[])∧Ao w' g L F (R.set x.a.toNat H) x (Y t l n) k a b N∧Upd [g] w w':=by
 have u:=HH (PN w g L F R x t l n N k a b h h4 h5 X am an E);have hz:=E8 X x.c.toNat
 have hg:=h.lt;clear h;generalize R.getD x.c.toNat 0=z at hz E m u ⊢;obtain⟨aA,aB⟩:=hz;obtain⟨j,D⟩:∃ j:Nat,x.b+z=(j:Int):=⟨(x.b+z).toNat,by omega⟩;rw[D] at E m u;rw[dD] at m;subst ap;go_enter func259,ntmps259;go_wp2_with fail;refine u.o.mono ?_;rintro e q ⟨rfl,i,u1,y⟩;have A:=i.CB x.a r s;have V:=i.frozen (2+x.a.toNat);obtain⟨c0,c1,Q,c8,c9,P⟩:=i.cell;have C:=i.lt;have S:=(y.cell (p:=⟨d,j,O⟩) ab).trans m;have ao:d<q.heap.size:=ch ab y.size;obtain⟨H1,U1,HJ⟩:=H3 i u1 D;clear i u1 y m D;have q1:∀ p:Ak q,p.W.cell? ⟨g,2+x.a.toNat,O⟩=Z (I U (R.getD x.a.toNat 0)):=fun p=>(p.h.cell (p:=⟨g,_,O⟩) C).trans A;have qm:∀ p:Ak q,p.W.cell? ⟨d,j,O⟩=Z (I U H):=fun p=>(p.h.cell (p:=⟨d,_,O⟩) ao).trans S;have q7:∀ p:Ak q,p.W.cell? ⟨g,7,O⟩=Z (I J x.a):=fun p=>(p.h.cell (p:=⟨g,_,O⟩) C).trans Q;have q10:∀ p:Ak q,p.W.cell? ⟨g,10,O⟩=Z (Y (Z ⟨d,0,O⟩) l n):=fun p=>(p.h.cell (p:=⟨g,_,O⟩) C).trans P;go_upto_region 2 with (fail);refine BQ 15 [(6,fun v _=>v=G (Z ⟨g,2+x.a.toNat,O⟩))] ⟨Ch,trivial⟩ ?_
 iterate 6 (refine AK rfl ?_;intro K hK;go_big_quiet_op;go_big_quiet_on)
 refine Ca rfl (fun w' hb hA=>?_) ?_
 ·refine AD (f:=280) (al:=[G (Z ⟨g,0,O⟩),I J x.a]) rfl rfl rfl Gm ?_;exact(D3 w' g x.a r s).mono fun e w2 h=>⟨_,h.1,h.2 ▸ ⟨bM _ _,rfl⟩⟩
 intro v w' hb hv;obtain rfl:=hv;clear hb w';simp only[FV,bW,cb,ca]
 iterate 8 (refine AK rfl ?_;intro K hK;go_big_quiet_op;go_big_quiet_on)
 refine BN ?_;intro w9 B ar;simp only[cq,b7,cK];clear ar c0 c1 Q c8 c9 P q1 qm q7 q10 A S V;have h:=H1.o.bel B;have A:=h.CB x.a r s;have V:=h.frozen (2+x.a.toNat);obtain⟨U2,H2⟩:=H2 (U1.o.trans (Upd.below (M:=[g]) B)) h;clear h B;go_wp2_with fail
 go_end0
 exact⟨rfl,H2.o.I5 _ _ r s,U2.o.trans (H2.o.below _)⟩
def Uh(w:bG)(g:Nat)(n j:Int)(R:List Int)(x:Ai)(l:Option dB)(f m:Nat)(D:bF)(k a b:Int)(h:Ao w g n j R x (Y l f m) k a b D)(r:0≤x.a)(s:x.a≤3)(S:0≤x.c)(V:x.c≤3)(t:∀ z∈R,0≤z∧z≤255)(W:0≤x.b)(X:x.b≤4095)(u:x.b+R.getD x.c.toNat 0<(f:Int)):
  ct prog 260 #[G (Z ⟨g,0,O⟩)] w fun e w'=>e=.returned (.tuple #[])∧Ao w' g n j R x (Y l f m) 1 (x.b+R.getD x.c.toNat 0) (R.getD x.a.toNat 0) (Y O 0 0)∧Upd [g] w w':=by
 have q:=HH (PN w g n j R x l f m D k a b h S V t W X u);have v:=E8 t x.a.toNat
 clear h;generalize R.getD x.c.toNat 0=z at u q ⊢;generalize A:R.getD x.a.toNat 0=y at v ⊢;obtain⟨ab,ac⟩:=v;have E:=HH A;clear A;go_enter func260,ntmps260;go_wp2_with fail;refine q.o.mono ?_;rintro e w1 ⟨rfl,d,u1,H⟩;obtain⟨B,C,r2,r3,i,d⟩:=d;have Q:=Ao.CB ⟨B,C,r2,r3,i,d⟩ x.a r s;have P:=d.cell 7;have K:=d.cell 11;have L:=d.cell 12;have M:=d.cell 13;have N:=d.cell 14;have f11:=d.frozen 11;have f12:=d.frozen 12;have f13:=d.frozen 13;have f14:=d.frozen 14;simp at P K L M N;rw[E.o] at Q;obtain⟨p,F⟩:=H2 (ci i d) u1;clear d u1 H i;go_wp2_with fail;refine(D3 w1 g x.a r s).mono ?_;rintro e w2 ⟨rfl,rfl⟩;go_wp2_with fail
 go_end0
 exact⟨rfl,⟨B,C,r2,r3,p.o.1,(CH ((CH ((CH ((CH (p.o.2) 11 _)) 12 _)) 13 _)) 14 _)⟩,F.o.trans Upd.s4⟩
def TS(w:bG)(g:Nat)(L F:Int)(R:List Int)(x:Ai)(P N:bF)(k a b:Int)(h:Ao w g L F R x P k a b N)(B:0≤x.a)(C:x.a≤3)(D:0≤x.b)(E:x.b≤3)(X:∀ z∈R,0≤z∧z≤255):
  ct prog 276 #[G (Z ⟨g,0,O⟩)] w fun e w'=>e=.returned (.tuple #[])∧Ao w' g (if R.getD x.a.toNat 0<R.getD x.b.toNat 0 then x.c else L) F R x P k a b N∧Upd [g] w w':=by
 have n:=h.CB x.a B C;have q:=h.CB x.b D E;obtain⟨u,c1,l,m,A,y⟩:=h.cell;have i:=h.lt;have H:=HH h;clear h X;generalize R.getD x.a.toNat 0=Q at n ⊢;generalize R.getD x.b.toNat 0=S at q ⊢;have q1:∀ p:Ak w,p.W.cell? ⟨g,2+x.a.toNat,O⟩=Z (I U Q):=fun p=>(p.h.cell (p:=⟨g,_,O⟩) i).trans n;have q2:∀ p:Ak w,p.W.cell? ⟨g,2+x.b.toNat,O⟩=Z (I U S):=fun p=>(p.h.cell (p:=⟨g,_,O⟩) i).trans q;have q7:∀ p:Ak w,p.W.cell? ⟨g,7,O⟩=Z (I J x.a):=fun p=>(p.h.cell (p:=⟨g,_,O⟩) i).trans l;have q8:∀ p:Ak w,p.W.cell? ⟨g,8,O⟩=Z (I J x.b):=fun p=>(p.h.cell (p:=⟨g,_,O⟩) i).trans m;by_cases ad:Q<S
 all_goals
  go_enter func276,ntmps276;go_upto_region 0 with (fail);refine BQ 19 [(6,fun v _=>v=G (Z ⟨g,2+x.a.toNat,O⟩)),(15,fun v _=>v=G (Z ⟨g,2+x.b.toNat,O⟩))] ⟨Ch,Ch,trivial⟩ ?_
  iterate 6 (refine AK rfl ?_;intro K hK;go_big_quiet_op;go_big_quiet_on)
  refine Ca rfl (fun w' d V=>?_) ?_
  ·refine AD (f:=280) (al:=[G (Z ⟨g,0,O⟩),I J x.a]) rfl rfl rfl Gm ?_;exact(D3 w' g x.a B C).mono fun e w2 h=>⟨_,h.1,h.2 ▸ ⟨bM _ _,rfl⟩⟩
  intro v w' d s;obtain rfl:=s;clear d w';simp only[FV,bW,cb,ca]
  iterate 8 (refine AK rfl ?_;intro K hK;go_big_quiet_op;go_big_quiet_on)
  refine Ca rfl (fun w' d V=>?_) ?_
  ·refine AD (f:=280) (al:=[G (Z ⟨g,0,O⟩),I J x.b]) rfl rfl rfl Gm ?_;exact(D3 w' g x.b D E).mono fun e w2 h=>⟨_,h.1,h.2 ▸ ⟨bM _ _,rfl⟩⟩
  intro v w' d s;obtain rfl:=s;clear d w';simp only[FV,bW,cb,ca]
  iterate 3 (refine AK rfl ?_;intro K hK;go_big_quiet_op;go_big_quiet_on)
  refine BN ?_;intro w9 r aa;simp only[cq,b7,cK];clear aa u c1 l m A y n q q1 q2 q7 q8;have h:=H.o.bel r;obtain⟨u,c1,l,m,A,y⟩:=h.cell;have t:=HH (Upd.below (M:=[g]) r);have f0:=h.frozen 0;have j:=HH h;clear h r;go_wp2_with fail
  go_end0
  first
   |exact⟨rfl,j.o.G3 _,t.o.trans (j.o.below _)⟩
   |exact⟨rfl,j.o,t.o⟩
def TN(w:bG)(g:Nat)(t s:Int)(R:List Int)(x:Ai)(v u:bF)(k a b:Int)(h:Ao w g t s R x v k a b u)(d:0≤x.a)(f:x.a≤3)(i:0≤x.b)(j:x.b≤3)(l:∀ z∈R,0≤z∧z≤255):
  ct prog 277 #[G (Z ⟨g,0,O⟩)] w fun e w'=>e=.returned (.tuple #[])∧Ao w' g t s (if R.getD x.b.toNat 0=0 then R else R.set x.a.toNat (R.getD x.a.toNat 0/R.getD x.b.toNat 0)) x v (if R.getD x.b.toNat 0=0 then 15 else k) (if R.getD x.b.toNat 0=0 then 4 else a) (if R.getD x.b.toNat 0=0 then 0 else b) (if R.getD x.b.toNat 0=0 then Y O 0 0 else u)∧Upd [g] w w':=by
 have B:=h.CB x.a d f;have C:=h.CB x.b i j;have N:=h.frozen (2+x.a.toNat);obtain⟨E,c1,K,L,M,F⟩:=h.cell;have f0:=h.frozen 0;have P:=h.lt;obtain⟨D,H⟩:=H2 (h.fail 4 0 (by decide) (by decide)) h;clear h;have q:0≤R.getD x.a.toNat 0∧R.getD x.a.toNat 0≤255:=E8 l _;have r:0≤R.getD x.b.toNat 0∧R.getD x.b.toNat 0≤255:=E8 l _;clear l;generalize R.getD x.a.toNat 0=z1 at B q ⊢;generalize R.getD x.b.toNat 0=m at C r ⊢;obtain⟨W,X⟩:=q;obtain⟨y3,y4⟩:=r;by_cases c:m=0
 ·subst c;go_enter func277,ntmps277;go_wp2_with fail;refine(D3 w g x.b i j).mono ?_;rintro e y ⟨rfl,rfl⟩;go_wp2_with fail;refine D.o.mono ?_;rintro e V ⟨rfl,p,n⟩;have A:=HH (ci p n);clear p n;go_wp2_with fail
  go_end0
  exact⟨rfl,A.o⟩
 ·have Q:(m==0)=false:=by simpa using c
  have S:(m !=0)=true:=by simpa using c
  rw[if_neg c,if_neg c,if_neg c,if_neg c,if_neg c];go_enter func277,ntmps277;go_wp2_with fail;refine(D3 w g x.b i j).mono ?_;rintro e y ⟨rfl,rfl⟩;go_wp2_with fail;refine(D3 w g x.a d f).mono ?_;rintro e y ⟨rfl,rfl⟩;go_wp2_with fail
  go_end0
  exact⟨rfl,H.o.I5 _ _ d f,H.o.below _⟩
def KF(z:Int)(n:Nat):(countP z n).length=n:=by simp[countP]
def Sx(z:Int)(n j:Nat)(h:j<n):(countP z n)[j]? =Z ((z+(j:Int))%256):=by simp[countP,h]
def Sz(z:Int)(n:Nat)(w:bG)(S:0≤z)(r:z≤255)(R:1≤n)(Q:n≤64):
  ct prog 283 #[I U z,I J n] w fun e w'=>e=.returned (Y (Z ⟨w.heap.size,0,O⟩) n n)∧Af U w' w.heap.size (Y (Z ⟨w.heap.size,0,O⟩) n n) (countP z n)∧Bl w w':=by
 obtain⟨E,m,x,r,y⟩:=OU;have D:∀ W:bG,(Instr.makeSlice 34 (I J (n:Int)) (I J (n:Int))).run prog W=.ok (Y (Z ⟨W.heap.size,0,O⟩) n n) (W.alloc (T (cT (cR U 0).cells (n*1)) 5)):=fun W=>by
  have:=run_make (P:=prog) W 34 5 E (I U 0) underlying34 m x J J n n (by omega) (Int.le_refl _) (by rw[y];omega) (by omega);simpa[r] using this
 have s:Hq (∀ W:bG,W.heap.size=w.heap.size→Bl w W→(W.alloc (T (cT (cR U 0).cells (n*1)) 5)).heap[w.heap.size]? =Z (T (cT (cR U 0).cells (n*1)) 5 (0,0))):=fun W C _=>by
  have:=b8 W (T (cT (cR U 0).cells (n*1)) 5);rwa [C] at this
 have q:(cT (cR U 0).cells (n*1)).size=n:=by simp[size_madeCells]
 generalize cT (cR U 0).cells (n*1)=F at D s q;have B:=HH q;have V:(0:Int)≤(n:Int):=by omega
 clear m x r y q;go_enter func283,ntmps283;go_wp2_with fail
 go_loopw [6,11] (fun _ k wr=>∃ i:Nat,i≤n∧k=I J i∧∃ b:Array bF,Hq (wr.heap[w.heap.size]? =Z (T b 5 (0,0))∧b.size=n∧(∀ j,j<i→b[j]? =Z (I U ((z+(j:Int))%256)))∧Bl w wr)) (fun _ k _=>n-(intOf k).toNat)
 case atStart=>exact⟨0,ds _,rfl,F,s.o w rfl (bM _ w),B.o,fun j d=>absurd d (by omega),(bM _ w).alloc (bH _) _⟩
 case round=>
  obtain⟨i,m,rfl,b,A⟩:=hrel;by_cases v:i<n
  ·obtain⟨a,h,g,f⟩:=A.o;have N:(i:Int)<(n:Int):=by omega
   obtain⟨t,H⟩:∃ t,wr.cell? ⟨w.heap.size,i,O⟩=Z t:=⟨b[i]'(by omega),by rw[cN wr _ _ _ _ _ a];simp[h,v]⟩;have K:wr.frozen? ⟨w.heap.size,i,O⟩=false:=by simp[dH,a]
   have c:=HH (ci a (ci h (ci g f)));have L:(0:Int)≤(i:Int):=by omega
   have M:(i:Int)≤63:=by omega
   clear a h g f A;go_wp2_with fail
   go_roundw
   case rel=>
    refine⟨i+1,by omega,by go_num,b.setIfInBounds i (I U ((z+(i:Int))%256)),?_,by simp[c.o.2.1],fun j d=>?_,c.o.2.2.2.setCell (p:=⟨w.heap.size,i,O⟩) (bH _) _⟩
    ·have:=heap_setCell_same wr w.heap.size i _ _ (I U ((z+(i:Int))%256)) c.o.1;exact this
    ·rw[cA];by_cases e:i=j
     ·subst e;simp[c.o.2.1,v]
     ·rw[if_neg e];exact c.o.2.2.1 j (by omega)
   case measure=>simp[intOf];omega
  ·obtain rfl:i=n:=by omega
   go_wp2_with fail;go_ret;obtain⟨a,h,g,f⟩:=A.o;refine⟨rfl,⟨_,i,by rw[KF],by rw[KF];exact bH _,by simp,by simp[KF],fun _=>⟨w.heap.size,0,rfl,bH _,Aa a,fun j u l=>?_⟩⟩,f⟩;rw[cN wr _ _ _ _ _ a];have d:j<i:=by have:=(bR.1 l).1;simpa[KF] using this
   rw[List.getElem?_map,Sx z i j d] at l;simp only[dz,cQ] at l;subst l;rw[dn];exact g j d
def Uc(w:bG)(g:Nat)(S Q:Int)(R:List Int)(x:Ai)(X vd:bF)(k a b:Int)(h:Ao w g S Q R x X k a b vd)(D:0≤x.b)(E:x.b≤3)(ai:1≤x.c)(aj:x.c≤64)(hR:∀ z∈R,0≤z∧z≤255):
  ct prog 261 #[G (Z ⟨g,0,O⟩)] w fun e w'=>e=.returned (.tuple #[])∧∃ V,Ao w' g S Q R x X 2 x.a 0 V∧Af U w' w.heap.size V (countP (R.getD x.b.toNat 0) x.c.toNat)∧Upd [g] w w':=by
 have r:=h.CB x.b D E;have P:=E8 hR x.b.toNat
 obtain⟨c0,c1,c7,A,m,ad⟩:=h.cell;have j:=h.lt;have H:=HH h;clear h;generalize R.getD x.b.toNat 0=z at r P ⊢;obtain⟨an,ao⟩:=P;obtain⟨n,s⟩:∃ n:Nat,x.c=(n:Int):=⟨x.c.toNat,by omega⟩;rw[s] at m ⊢;rw[s] at ai aj;have ak:1≤n:=by omega
 have am:n≤64:=by omega
 simp only[dD];clear s;have q1:∀ p:Ak w,p.W.cell? ⟨g,2+x.b.toNat,O⟩=Z (I U z):=fun p=>(p.h.cell (p:=⟨g,_,O⟩) j).trans r;have q8:∀ p:Ak w,p.W.cell? ⟨g,8,O⟩=Z (I J x.b):=fun p=>(p.h.cell (p:=⟨g,_,O⟩) j).trans A;have q9:∀ p:Ak w,p.W.cell? ⟨g,9,O⟩=Z (I J n):=fun p=>(p.h.cell (p:=⟨g,_,O⟩) j).trans m;go_enter func261,ntmps261;refine BQ 16 [(7,fun v _=>v=G (Z ⟨g,2+x.b.toNat,O⟩)),(15,fun v w'=>∃ q:Nat,w.heap.size≤q∧v=Y (Z ⟨q,0,O⟩) n n∧Af U w' w.heap.size (Y (Z ⟨q,0,O⟩) n n) (countP z n))] ⟨Ch,(fun v w1 u ⟨q,L,e,h⟩ d=>⟨q,L,e,h.below d⟩),trivial⟩ ?_
 iterate 7 (refine AK rfl ?_;intro K hK;go_big_quiet_op;go_big_quiet_on)
 refine Ca rfl (fun w' d hA=>?_) ?_
 ·refine AD (f:=280) (al:=[G (Z ⟨g,0,O⟩),I J x.b]) rfl rfl rfl Gm ?_;exact(D3 w' g x.b D E).mono fun e u h=>⟨_,h.1,h.2 ▸ ⟨bM _ _,rfl⟩⟩
 intro v w' d t;obtain rfl:=t;clear d w';simp only[FV,bW,cb,ca]
 iterate 7 (refine AK rfl ?_;intro K hK;go_big_quiet_op;go_big_quiet_on)
 refine Ca rfl (fun w' d hA=>?_) ?_
 ·refine AD (f:=283) (al:=[I U z,I J n]) rfl rfl rfl Tq ?_;exact(Sz z n w' an ao ak am).mono fun e u h=>⟨_,h.1,h.2.2,⟨_,d.size,rfl,Sl.mono h.2.1 d.size⟩⟩
 intro v w' d t;obtain⟨q,L,rfl,i⟩:=t;clear d i w';simp only[FV,bW,cb,ca];refine BN ?_;intro w9 l N;simp only[cq,b7,cK];obtain⟨q',av,B,i⟩:=N 15 _ (by decide) rfl;have i:Af U w9 w.heap.size (Y (Z ⟨q,0,O⟩) n n) (countP z n):=by
  have e2:(dl (Z ⟨q,0,O⟩) n n)=Y (Z ⟨q',0,O⟩) n n:=B;rw[e2];exact i
 have F:=(H.o.bel l).Md 2 (Z ⟨q,0,O⟩) n n;obtain⟨HB,y⟩:=H2 (Upd.below (M:=[g]) l) (ci F i);have au:g<w9.heap.size:=ch j l.size;clear N B i F q1 q8 q9 r c0 c1 c7 A m ad l;go_wp2_with fail;refine y.o.1.mono ?_;rintro e u ⟨rfl,C,u2⟩;have H2:=HH (ci C u2);clear C u2;go_wp2_with fail
 go_end0
 exact⟨rfl,_,H2.o.1,Nc y.o.2 H2.o.2 j,HB.o.trans H2.o.2⟩
def TZ(w:bG)(g:Nat)(q p:Int)(R:List Int)(x:Ai)(s z:bF)(k a b:Int)(h:Ao w g q p R x s k a b z)(m:0≤x.b)(n:x.b≤3):
  ct prog 268 #[G (Z ⟨g,0,O⟩)] w fun e w'=>e=.returned (.tuple #[])∧∃ r,Ao w' g q p R x s 9 x.a 0 r∧Af U w' w.heap.size r [R.getD x.b.toNat 0]∧Upd [g] w w':=by
 have v:=h.CB x.b m n;obtain⟨A,c1,C,D,E,B⟩:=h.cell;have y:=h.lt;generalize R.getD x.b.toNat 0=f at v ⊢;have d:Bl w (w.alloc (T #[I U f] 5)):=(bM _ w).alloc (bH _) _;have i:=HH ((h.bel d).Md 9 (Z ⟨w.heap.size,0,O⟩) 1 1);have u:Hq (Af U (w.alloc (T #[I U f] 5)) w.heap.size (Y (Z ⟨w.heap.size,0,O⟩) 1 1) [f]):=Qh w _ _;have t:=HH (Upd.below (M:=[g]) d);clear d h;go_enter func268,ntmps268;go_wp2_with fail;refine(D3 w g x.b m n).mono ?_;rintro e F ⟨rfl,rfl⟩;go_wp2_with fail;refine i.o.mono ?_;rintro e H ⟨rfl,l,j⟩;have c:=HH (ci l j);clear l j i;go_wp2_with fail
 go_end0
 exact⟨rfl,_,c.o.1,Nc u.o c.o.2 y,t.o.trans c.o.2⟩
def Ue(w:bG)(g:Nat)(q p:Int)(R:List Int)(x:Ai)(s z:bF)(k a b:Int)(h:Ao w g q p R x s k a b z)(m:0≤x.b)(n:x.b≤3):
  ct prog 270 #[G (Z ⟨g,0,O⟩)] w fun e w'=>e=.returned (.tuple #[])∧∃ r,Ao w' g q p R x s 11 x.a 0 r∧Af U w' w.heap.size r [R.getD x.b.toNat 0]∧Upd [g] w w':=by
 have v:=h.CB x.b m n;obtain⟨A,c1,C,D,E,B⟩:=h.cell;have y:=h.lt;generalize R.getD x.b.toNat 0=f at v ⊢;have d:Bl w (w.alloc (T #[I U f] 5)):=(bM _ w).alloc (bH _) _;have i:=HH ((h.bel d).Md 11 (Z ⟨w.heap.size,0,O⟩) 1 1);have u:Hq (Af U (w.alloc (T #[I U f] 5)) w.heap.size (Y (Z ⟨w.heap.size,0,O⟩) 1 1) [f]):=Qh w _ _;have t:=HH (Upd.below (M:=[g]) d);clear d h;go_enter func270,ntmps270;go_wp2_with fail;refine(D3 w g x.b m n).mono ?_;rintro e F ⟨rfl,rfl⟩;go_wp2_with fail;refine i.o.mono ?_;rintro e H ⟨rfl,l,j⟩;have c:=HH (ci l j);clear l j i;go_wp2_with fail
 go_end0
 exact⟨rfl,_,c.o.1,Nc u.o c.o.2 y,t.o.trans c.o.2⟩
def Um(w:bG)(g:Nat)(i d:Int)(R:List Int)(x:Ai)(p n:bF)(k a b:Int)(h:Ao w g i d R x p k a b n)(B:0≤d)(C:d≤2000)(y:1≤x.a)(z:x.a≤2000)(E:1≤i)(F:i≤1000000):
  ct prog 256 #[G (Z ⟨g,0,O⟩)] w fun e w'=>e=.returned (.tuple #[])∧Ao w' g (if(if d=0 then x.a else d)-1=0 then i else i-1) ((if d=0 then x.a else d)-1) R x p k a b n∧Upd [g] w w':=by
 obtain⟨r,c1,t,u,v,s⟩:=h.cell;have f0:=h.frozen 0;have f1:=h.frozen 1;have A:=h.lt;have H:=HH h;clear h;by_cases f:d=0
 ·subst f;rw[if_pos rfl];by_cases c:x.a-1=0
  ·have l:(x.a-1==0)=true:=by simpa using c
   have m:(x.a-1 !=0)=false:=by simpa using c
   have j:=HH c;rw[if_pos c];clear c;go_enter func256,ntmps256;go_wp2_with fail
   go_end0
   exact⟨rfl,(H.o.Ju _).Ju _,Upd.s1.trans .s1⟩
  ·have l:(x.a-1==0)=false:=by simpa using c
   have m:(x.a-1 !=0)=true:=by simpa using c
   have j:=HH c;rw[if_neg c];clear c;go_enter func256,ntmps256;go_wp2_with fail
   go_end0
   exact⟨rfl,((H.o.Ju _).Ju _).G3 _,(Upd.s1.trans .s1).trans .s1⟩
 ·have D:(d==0)=false:=by simpa using f
  rw[if_neg f];have q:=HH f;by_cases c:d-1=0
  ·have l:(d-1==0)=true:=by simpa using c
   have m:(d-1 !=0)=false:=by simpa using c
   have j:=HH c;rw[if_pos c];clear c f;go_enter func256,ntmps256;go_wp2_with fail
   go_end0
   exact⟨rfl,H.o.Ju _,Upd.s1⟩
  ·have l:(d-1==0)=false:=by simpa using c
   have m:(d-1 !=0)=true:=by simpa using c
   have j:=HH c;rw[if_neg c];clear c f;go_enter func256,ntmps256;go_wp2_with fail
   go_end0
   exact⟨rfl,(H.o.Ju _).G3 _,Upd.s1.trans .s1⟩
namespace MC
structure FI(C:bG→Prop) where
 W:bG
 h:C W
section
variable {P:bX} {id:Nat} {l:List bY} {Q:dK→Act→bG→Prop} {a:Act} {w:bG} {ops:Array bY} {n:Nat}
def AQ(C:bG→Prop)(P:bX)(ops:Array bY)(S F:List Nat)(mk:Nat→Bool)(V:Nat→bF→bG→Prop)(w:bG)(E:List bY→(Nat→bF)→Act→Prop):Nat→List bY→List bY→(Nat→bF)→Act→Prop
 | _,[],os,vs,A=>E os vs A
 |i,o::rest,os,vs,A=>
  if S.contains i then AQ C P ops S F mk V w E (i+1) rest (os++ [o]) vs A
  else if mk i then
   (∀ w',Bl w w'→(∀ j,mk j=true→By ops i j→V j (vs j) w')→Bd P o A w' (fun v b=>Bl w' b∧V i v b))∧
   ∀ v w',Bl w w'→V i v w'→AQ C P ops S F mk V w E (i+1) rest os (fun j=>if j=i then v else vs j) (A.put o.dst v)
  else if F.contains i then o.quiet P A (fun w'=>∃ p:FI C,w'=p.W) (AQ C P ops S F mk V w E (i+1) rest os vs)
  else o.quiet P A (fun w'=>∃ p:Ak w,w'=p.W) (AQ C P ops S F mk V w E (i+1) rest os vs)
def A7(C:bG→Prop)(P:bX)(A:Act):List bY→bG→(bG→Prop)→Prop
 | [],w,K=>K w
 |o::os,w,K=>∃ w',(b3 A.eval o).run P w=.ok .skip w'∧C w'∧A7 C P A os w' K
section
variable {C:bG→Prop} {S F:List Nat} {mk:Nat→Bool} {V:Nat→bF→bG→Prop} {E:List bY→(Nat→bF)→Act→Prop}
def Dw(C:bG→Prop)(P:bX)(ops:Array bY)(n:Nat)(F:List Nat)(mk:Nat→Bool)(V:Nat→bF→bG→Prop)(a:Act)(w:bG)(i:Nat)(vs:Nat→bF)(w':bG):Prop:=
 if mk i then V i (vs i) w' else ∀ o,ops[i]? =Z o→Bg P o (Ar ops vs a n) w (vs i)∧(F.contains i=true→∀ x,C x→Bg P o (Ar ops vs a n) x (vs i))
def MV(hh:CO ops n a.tmps.size=true)(aW:n=ops.size){s:Nat}(A:Ge ops n S F mk s)(us:Nat→bF)
  (hF:∀ i∈F,∀ o,ops[i]? =Z o→∀ x,C x→Bg P o (Ar ops us a n) x (us i)):
  ∀ (k:Nat) (listed:Array Bool) (w':bG) (m:Nat),Cq listed n=k→cw .any ops n listed→(∀ i,i<n→listed.getD i false=false→i∈F∨∃ j,m≤j∧S[j]? =Z i)→(∀ j i,m≤j→S[j]? =Z i→listed.getD i false=false)→C w'→
   A7 C P (Ar ops us a n) ((S.drop m).filterMap (fun i=>ops[i]?)) w' (Q .normal (Ar ops us a n))→dL P .any ops Q k listed (Ba ops listed us a n) w':=by
 obtain⟨hn,aX,ae⟩:=DM hh;have hd:∀ j k,j<n→k<n→j≠k→∀ t,Av ops j=Z t→Av ops k≠Z t:=fun j k b hk R t ht=>by
  obtain⟨o,H⟩:=ae k hk;exact(H.apart j b R t ht).1
 intro k
 induction k with
 |zero=>
  intro listed w' m hu W u D aa f;have L:=Ie hu;rw[Jp n L];have hm:S.drop m=[]:=by
   apply dk;apply cj;intro p;obtain⟨x,c⟩:∃ x,S[m]? =Z x:=⟨_,bO (by omega)⟩;have K:=D m x (bH _) c;rw[L x (A.DW x (bN c)).1] at K;cases K
  rw[hm] at f;refine⟨?_,f⟩;apply cY.2;intro i M;obtain⟨aM,o,ho,_⟩:=cc.1 M;have p:=(bC.1 ho).1;have u:=L i (by omega);rw[cJ aM] at u;cases u
 |succ k ih=>
  intro listed w' m hu W u D aa f;obtain⟨i0,aB,aN,aG⟩:=I9 (listed:=listed) (n:=n) (by omega);have aY:=W.size;have aO:listed.getD i0 true=false:=cM (by omega) aN;have ar:i0∈cB .any ops listed:=by
   obtain⟨o,H⟩:=ae i0 aB;exact cc.2 ⟨aO,o,H.at_,fun e he X=>aG e.on (H.back e he X)⟩
  refine⟨fun h=>(by rw[h] at ar;cases ar),fun i M=>?_⟩;obtain⟨aC,o',r,L⟩:=cc.1 M;have y:i<n:=by have:=(bC.1 r).1;omega
  obtain⟨o,H⟩:=ae i y;obtain rfl:o=o':=bI (H.at_.symm.trans r);have p:i<listed.size:=by have:=(bC.1 r).1;omega
  have af:listed.getD i false=false:=cJ aC;have am:∀ j,BH ops i j=true→listed.getD j false=true:=fun j b=>by
   obtain⟨e,he,X,rfl⟩:=(G6 H.at_).1 b;exact L e he X
  have aR:bZ o (dj ops (Ba ops listed us a n).tmps)=true:=by simp[bZ,H.Jh]
  have an:=KG hh r y (us:=us) am;have al:Av ops i=o.dst:=by simp[Av,r]
  have ao:Cq (listed.setIfInBounds i true) n=k:=by
   have:=IA p af (n:=n) y;omega
  have aq:∀ v,(i∈F→v=us i)→(i∉F→o.dst=O)→(Ba ops listed us a n).put o.dst v=Ba ops (listed.setIfInBounds i true) us a n:=fun v hv aI=>by
   have h5:=Jq (ops:=ops) (listed:=listed) (vs:=us) (a:=a) (n:=n) (v:=us i) y p af hd;have h6:(fun j=>if j=i then us i else us j)=us:=by
    funext j;by_cases e:j=i
    ·rw[if_pos e,e]
    ·rw[if_neg e]
   rw[h6] at h5;rw[h5,al];by_cases g:i∈F
   ·rw[hv g]
   ·rw[aI g];rfl
  unfold wpOp;simp only[r,aR,if_true];rcases u i y af with g|⟨j,aU,b⟩
  ·have ap:=hF i g o r w' aa;have hg:Bd P o (Ar ops us a n) w' (fun v N=>v=us i∧N=w'):=by
    unfold Bd;unfold Bg at ap;rw[ap];exact⟨rfl,rfl⟩
   refine .inl (Hr an hg fun v N hp=>?_);obtain⟨rfl,rfl⟩:=hp;rw[aq _ (fun _=>rfl) (fun h=>absurd g h)];refine ih _ _ m ao (W.set M y) (fun q B d=>?_) (fun q x B c=>?_) aa f
   ·rw[Dk p] at d;split at d
    ·cases d
    ·exact u q B d
   ·rw[Dk p,if_neg]
    ·exact D q x B c
    ·rintro rfl;exact(A.Gs x g).2 (bN c)
  ·have aD:j=m:=by
    apply cj;intro R;have ag:=(bR.1 b).1;obtain⟨x,c⟩:∃ x,S[j-1]? =Z x:=⟨_,bO (by omega)⟩;have hw:=A.IS (j-1) x i c (by rw[←b];congr 1;omega);have K:=D (j-1) x (by omega) c;rw[am x hw] at K;cases K
   subst aD;have ag:=(bR.1 b).1;have az:S.drop j=i::S.drop (j+1):=by
    rw[bU ag]
    congr 1
    rw[bO ag] at b;exact bI b
   rw[az,dt,r] at f;obtain⟨w2,hr,ay,f⟩:=f;have aH:i∉F:=fun g=>(A.Gs i g).2 (bN b);have hg:Bd P o (Ar ops us a n) w' (fun v N=>N=w2):=by
    unfold Bd;rw[hr];rfl
   refine .inl (Hr an hg fun v N hp=>?_);subst hp;rw[aq _ (fun h=>absurd h aH) (fun _=>by rw[←al];exact(A.DW i (bN b)).2.2)];refine ih _ _ (j+1) ao (W.set M y) (fun q B d=>?_) (fun q x B c=>?_) ay f
   ·rw[Dk p] at d;split at d
    ·cases d
    ·rename_i R;rcases u q B d with h|⟨z,hz,ai⟩
     ·exact .inl h
     ·refine .inr ⟨z,?_,ai⟩;rcases cW j z with h|h
      ·omega
      ·obtain rfl:z=j:=by omega
       rw[b] at ai;exact absurd (bI ai).symm R
   ·rw[Dk p,if_neg]
    ·exact D q x (by omega) c
    ·rintro rfl;have:=A.inc hh (q-j-1) j x x b (by rw[←c];congr 1;omega);omega
def Kf(hC:∀ w',Bl w w'→C w')(hh:CO ops n a.tmps.size=true){s:Nat}(R:Ge ops n S F mk s)(hV:∀ i v w' aA,V i v w'→Bl w' aA→V i v aA)
  (hl:ops=l.toArray) (H:AQ C P ops S F mk V w E 0 (l.take n) [] (fun _=>cr) a) (t:Nat→Prop) (hZ:∀ i j,i<n→t i→BH ops i j=true→t j) (aE:∀ i,t i→i∉S)
  (vs:Nat→bF) (w':bG) (aU:Bl w w') (ay:∀ i,i<n→t i→i∉S→Dw C P ops n F mk V a w i vs w'):
  ∀ k,k≤n→∃ (us M:Nat→bF) (r:bG),AQ C P ops S F mk V w E k ((l.take n).drop k) (((bT k).filter (fun i=>S.contains i)).filterMap (fun i=>ops[i]?)) M (Ar ops us a k)∧(∀ j,j<k→t j→j∉S→us j=vs j)∧(∀ j,j<k→mk j=true→M j=us j)∧
   Bl w r∧(∀ j,j<k→mk j=true→V j (us j) r)∧(∀ j,j<n→t j→mk j=true→V j (vs j) r)∧((∀ j,j<n→mk j=true→t j)→r=w')∧
   (∀ j,j<k→j∈F→∀ o,ops[j]? =Z o→∀ x,C x→Bg P o (Ar ops us a j) x (us j)):=by
 have hn:=(DM hh).1;have a0:n≤l.length:=by simpa[hl] using hn
 have aX:∀ i,mk i=true→i∉S:=fun i f p=>by rw[(R.DW i p).2.1] at f;cases f
 intro k
 induction k with
 |zero=>exact fun _=>⟨fun _=>cr,fun _=>cr,w',by rw[b7];exact H,fun j b=>absurd b (by omega),fun j b=>absurd b (by omega),aU,fun j b=>absurd b (by omega),fun j b p f=>by
   have:=ay j b p (aX j f);simpa only[Dw,f,if_true] using this,fun _=>rfl,fun j b=>absurd b (by omega)⟩
 |succ k ih=>
  intro hk;obtain⟨us,M,r,g,h2,h3,N,h5,h6,h7,h8⟩:=ih (by omega);have aM:k<l.length:=by omega
  have aH:(l.take n).drop k=l[k]::(l.take n).drop (k+1):=by
   rw[bU (by simp;omega)];simp
  have L:ops[k]? =Z l[k]:=by simp[hl,aM]
  rw[aH] at g;have aJ:Av ops k=l[k].dst:=by simp[Av,L]
  have aw:∀ v,(Ar ops us a k).put l[k].dst v=Ar ops (fun j=>if j=k then v else us j) a (k+1):=fun v=>by
   simp only[Ar,if_true,aJ];rw[I3 (us:=us) (vs:=fun j=>if j=k then v else us j) k (fun j b=>by simp only[if_neg (show¬j=k by omega)])]
  have ar:∀ (v:bF),(k∈F→∀ x,C x→Bg P l[k] (Ar ops us a k) x v)→∀ j,j<k+1→j∈F→∀ o,ops[j]? =Z o→∀ x,C x→Bg P o (Ar ops (fun j=>if j=k then v else us j) a j) x ((fun j=>if j=k then v else us j) j):=fun v m j b d o X x az=>by
   have hc:Ar ops (fun j=>if j=k then v else us j) a j=Ar ops us a j:=I3 j (fun q hq=>by simp only[if_neg (show¬q=k by omega)]);rw[hc];by_cases e:j=k
   ·subst e;simp only[if_true];rw[L] at X;injection X with X;subst X;exact m d x az
   ·simp only[if_neg e];exact h8 j (by omega) d o X x az
  have ax:bT (k+1)=bT k++ [k]:=dG;simp only[AQ] at g;by_cases p:S.contains k=true
  ·rw[if_pos p] at g;have A:k∈S:=bQ.1 p;obtain⟨_,B,aI⟩:=R.DW k A;have aO:k∉F:=fun d=>(R.Gs k d).2 A;refine⟨us,M,r,?_,fun j b u K=>?_,fun j b c=>?_,N,fun j b c=>?_,h6,h7,fun j b d=>?_⟩
   ·rw[ax,cH,cu];have e1:([k].filter (fun i=>S.contains i)).filterMap (fun i=>ops[i]?)=[l[k]]:=by simp[A,L]
    rw[e1];have e2:Ar ops us a (k+1)=Ar ops us a k:=by
     simp only[Ar,aI];rfl
    rw[e2];exact g
   ·exact h2 j (by have:j≠k:=(by rintro rfl;exact K A);omega) u K
   ·exact h3 j (by have:j≠k:=(by rintro rfl;rw[B] at c;cases c);omega) c
   ·exact h5 j (by have:j≠k:=(by rintro rfl;rw[B] at c;cases c);omega) c
   ·exact h8 j (by have:j≠k:=(by rintro rfl;exact aO d);omega) d
  ·have a1:S.contains k=false:=by simpa using p
   have A:k∉S:=fun h=>p (bQ.2 h);rw[if_neg p] at g;have aQ:((bT (k+1)).filter (fun i=>S.contains i)).filterMap (fun i=>ops[i]?)=((bT k).filter (fun i=>S.contains i)).filterMap (fun i=>ops[i]?):=by
    rw[ax,cH,cu];simp[A]
   rw[aQ];by_cases f:mk k=true
   ·rw[if_pos f] at g;obtain⟨D,z⟩:=g;have ak:∃ v y,Bl r y∧V k v y∧(t k→v=vs k)∧(t k→y=r):=by
     by_cases ah:t k
     ·exact⟨vs k,r,bM _ _,h6 k (by omega) ah f,fun _=>rfl,fun _=>rfl⟩
     ·obtain⟨v,y,W,m⟩:=Mv (D r N (fun j b ha=>by
       have:=ha.lt hh (by omega);rw[h3 j this b];exact h5 j this b))
      exact⟨v,y,W,m,fun h=>absurd h ah,fun h=>absurd h ah⟩
    obtain⟨v,y,W,m,aS,aT⟩:=ak;have aq:Bl w y:=N.trans (W.mono N.size);have g3:=z v y aq m;rw[aw v] at g3;refine⟨_,_,y,g3,fun j b u K=>?_,fun j b c=>?_,aq,fun j b c=>?_,fun j b p c=>hV _ _ _ _ (h6 j b p c) W,fun ap=>(aT (ap k (by omega) f)).trans (h7 ap),ar v (fun d=>by rw[(R.Gs k d).1] at f;cases f)⟩
    ·by_cases e:j=k
     ·subst e;simp only[if_true];exact aS u
     ·rw[if_neg e];exact h2 j (by omega) u K
    ·by_cases e:j=k
     ·simp only[e,if_true]
     ·simp only[if_neg e];exact h3 j (by omega) c
    ·by_cases e:j=k
     ·subst e;simp only[if_true];exact m
     ·rw[if_neg e];exact hV _ _ _ _ (h5 j (by omega) c) W
   ·have B:mk k=false:=by simpa using f
    rw[if_neg f] at g;obtain⟨o1,aP,aj⟩:=R.Lk k (by omega) A B;obtain rfl:o1=l[k]:=bI (aP.symm.trans L);have ak:∃ v,Bg P l[k] (Ar ops us a k) w v∧(k∈F→∀ x,C x→Bg P l[k] (Ar ops us a k) x v)∧AQ C P ops S F mk V w E (k+1) ((l.take n).drop (k+1)) (((bT k).filter (fun i=>S.contains i)).filterMap (fun i=>ops[i]?)) M ((Ar ops us a k).put l[k].dst v):=by
     by_cases d:F.contains k=true
     ·rw[if_pos d] at g;obtain⟨v,D,z⟩:=g;exact⟨v,D1 aj (D w ⟨⟨w,hC w (bM _ w)⟩,rfl⟩),fun _ x hx=>D1 aj (D x ⟨⟨x,hx⟩,rfl⟩),z⟩
     ·rw[if_neg d] at g;obtain⟨v,D,z⟩:=g;exact⟨v,D1 aj (D w ⟨⟨w,bM _ w⟩,rfl⟩),fun h=>absurd (bQ.2 h) d,z⟩
    obtain⟨v,hq,aR,z⟩:=ak;rw[aw v] at z;refine⟨_,M,r,z,fun j b u K=>?_,fun j b c=>?_,N,fun j b c=>?_,h6,h7,ar v aR⟩
    ·by_cases e:j=k
     ·subst e;simp only[if_true];have m:=ay j (by omega) u A;simp only[Dw,B,bL,if_false] at m;have m:=(m _ L).1;have he:=E7 hh L (by omega) (bH _) (by omega) (show j≤n by omega) (bH _) (us:=us) (vs:=vs) (fun i hi=>by
       have aL:=CD hh (by omega) hi;by_cases au:i∈S
       ·exact absurd au (aE i (hZ j i (by omega) u hi))
       ·exact h2 i aL (hZ j i (by omega) u hi) au)
      unfold Bg at hq m;rw[he,m] at hq;simpa using hq.symm
     ·rw[if_neg e];exact h2 j (by omega) u K
    ·have e:j≠k:=by rintro rfl;rw[B] at c;cases c
     rw[if_neg e];exact h3 j (by omega) c
    ·have e:j≠k:=by rintro rfl;rw[B] at c;cases c
     rw[if_neg e];exact h5 j (by omega) c
def MU(hC:∀ w',Bl w w'→C w')(z:CO l.toArray n a.tmps.size=true)(bf:n=l.toArray.size){s:Nat}(y:Ge l.toArray n S F mk s)(hV:∀ i v w' X,V i v w'→Bl w' X→V i v X)
  (H:AQ C P l.toArray S F mk V w (fun os vs A=>∀ w',Bl w w'→(∀ j,j<n→mk j=true→V j (vs j) w')→A7 C P A os w' (Q .normal A)) 0 (l.take n) [] (fun _=>cr) a):
  ∀ (k:Nat) (listed:Array Bool) (b:Act) (w':bG),Cq listed n=k→cw .any l.toArray n listed→(∀ i∈S,listed.getD i false=false)→
   (∃ vs,b=Ba l.toArray listed vs a n∧Bl w w'∧∀ i,i<n→listed.getD i false=true→Dw C P l.toArray n F mk V a w i vs w')→dL P .any l.toArray Q k listed b w':=by
 obtain⟨hn,bD,an⟩:=DM z;have hd:∀ j k,j<n→k<n→j≠k→∀ t,Av l.toArray j=Z t→Av l.toArray k≠Z t:=fun j k c hk bd t ht=>by
  obtain⟨o,H⟩:=an k hk;exact(H.apart j c bd t ht).1
 have aE:∀ {listed:Array Bool},cw .any l.toArray n listed→∀ i j,i<n→listed.getD i false=true→BH l.toArray i j=true→listed.getD j false=true:=fun {listed} M i j p d hw=>by
  obtain⟨oi,Hi⟩:=an i p;obtain⟨e,L,af,rfl⟩:=(G6 Hi.at_).1 hw;exact M.closed i oi Hi.at_ d e L af
 intro k
 induction k with
 |zero=>
  rintro listed b w' hu M N ⟨vs,rfl,R,ai⟩;have aw:=Ie hu;have r:=y.DW s (bN y.fst);have:=N s (bN y.fst);rw[aw s r.1] at this;cases this
 |succ k ih=>
  rintro listed b w' hu M N ⟨vs,rfl,R,ai⟩;by_cases ax:∀ i,i<n→i∉S→i∉F→listed.getD i false=true
  ·obtain⟨us,xs,w1,u,h2,h3,h4,h5,h6,h7,h8⟩:=Kf hC z y hV rfl H (fun i=>listed.getD i false=true) (fun i j p d hw=>aE M i j p d hw) (fun i d r=>by rw[N i r] at d;cases d) vs w' R (fun i p d _=>ai i p d) n (bH _);have be:(l.take n).drop n=[]:=by simp
   rw[be,y.list] at u;simp only[AQ] at u;have bp:w1=w':=h7 fun j c D=>ax j c (fun r=>by rw[(y.DW j r).2.1] at D;cases D) (fun B=>by rw[(y.Gs j B).1] at D;cases D);subst bp;have a3:=u w1 h4 (fun j c D=>by
    rw[h3 j c D];exact h5 j c D)
   have bi:Ba l.toArray listed vs a n=Ba l.toArray listed us a n:=Ln n (fun i _=>rfl) (fun i p d=>(h2 i p d (fun r=>by rw[N i r] at d;cases d)).symm);rw[bi];refine MV z bf y us (fun i B o ho x aF=>?_) (k+1) listed w1 0 hu M (fun i p d=>?_) (fun j i _ c=>N i (bN c)) (hC w1 h4) ?_
   ·have f:i<n:=by have:=(bC.1 ho).1;omega
    have h9:=h8 i f B o ho x aF;have L:=E7 z ho f (bH _) (bP f) (bP f) (bH _) (us:=us) (vs:=us) (fun _ _=>rfl);unfold Bg at*;rw[←L];exact h9
   ·by_cases r:i∈S
    ·obtain⟨j,c⟩:=cy r;exact .inr ⟨j,ds _,c⟩
    ·by_cases B:i∈F
     ·exact .inl B
     ·rw[ax i p r B] at d;cases d
   ·rw[b7];exact a3
  ·obtain⟨i0,a5,bn,bc⟩:=I9 (listed:=listed) (n:=n) (by omega);have bE:=M.size;have bo:listed.getD i0 true=false:=cM (by omega) bn;have aT:i0∈cB .any l.toArray listed:=by
    obtain⟨o,H⟩:=an i0 a5;exact cc.2 ⟨bo,o,H.at_,fun e L af=>bc e.on (H.back e L af)⟩
   refine⟨fun h=>(by rw[h] at aT;cases aT),fun i p=>?_⟩;obtain⟨a8,o',K,aw⟩:=cc.1 p;have f:i<n:=by have:=(bC.1 K).1;omega
   obtain⟨o,H'⟩:=an i f;obtain rfl:o=o':=bI (H'.at_.symm.trans K);have ao:i<listed.size:=by have:=(bC.1 K).1;omega
   have az:listed.getD i false=false:=cJ a8;have ad:∀ j,BH l.toArray i j=true→listed.getD j false=true:=fun j c=>by
    obtain⟨e,L,af,rfl⟩:=(G6 H'.at_).1 c;exact aw e L af
   have aN:∀ j,By l.toArray i j→listed.getD j false=true:=fun j c=>by
    cases c with
    |base h=>exact ad j h
    |step h h2=>exact h2.listed z M (by have:=CD z f h;omega) (ad _ h)
   have ay:i∉S:=fun a7=>by
    obtain⟨m,D⟩:=cy a7;cases m with
    |zero=>
     rw[y.fst] at D;obtain rfl:=bI D;exact ax fun q W bk bj=>aN q (y.Om q W bk bj)
    |succ m=>
     have bB:=(bR.1 D).1;obtain⟨x,hx⟩:∃ x,S[m]? =Z x:=⟨_,bO (by omega)⟩;have h4:=N x (bN hx);rw[ad x (y.IS m x i hx D)] at h4;cases h4
   have bq:bZ o (dj l.toArray (Ba l.toArray listed vs a n).tmps)=true:=by simp[bZ,H'.Jh]
   have a1:=KG z K f (us:=vs) ad;obtain⟨us,xs,w1,u,h2,h3,h4,h5,h6,h7,h8⟩:=Kf hC z y hV rfl H (fun i=>listed.getD i false=true) (fun i j p d hw=>aE M i j p d hw) (fun i d r=>by rw[N i r] at d;cases d) vs w' R (fun i p d _=>ai i p d) i (bP f);have a6:i<l.length:=by have:=(bC.1 K).1;simpa using this
   have bb:l[i]=o:=by
    have h9:l[i]? =Z o:=by simpa using K
    rw[bO a6] at h9;exact bI h9
   have aY:(l.take n).drop i=o::(l.take n).drop (i+1):=by
    rw[bU (by simp;omega)];simp[bb]
   rw[aY] at u;simp only[AQ] at u;have bl:¬S.contains i=true:=fun h=>ay (bQ.1 h);rw[if_neg bl] at u;have aM:∀ j,BH l.toArray i j=true→us j=vs j:=fun j c=>h2 j (CD z f c) (ad j c) (fun r=>by have:=N j r;rw[ad j c] at this;cases this);have L:=E7 z K f (bH _) (bP f) (bP f) (bH _) (us:=us) (vs:=vs) aM;have aX:∀ v,∀ j,BH l.toArray i j=true→us j=(fun j=>if j=i then v else vs j) j:=fun v j c=>by
    have:=CD z f c;simp only[if_neg (show¬j=i by omega)];exact aM j c
   have hg:Bd P o (Ar l.toArray vs a n) w' (fun v X=>Bl w' X∧Dw C P l.toArray n F mk V a w i (fun j=>if j=i then v else vs j) X):=by
    by_cases ap:mk i=true
    ·rw[if_pos ap] at u;have g:=u.1 w' R (fun j c ha=>by
      have aP:=ha.lt z f;have aQ:=aN j ha;rw[h3 j aP c,h2 j aP aQ (fun r=>by rw[(y.DW j r).2.1] at c;cases c)];have:=ai j (by omega) aQ;simpa only[Dw,c,if_true] using this)
     refine KR (IY L g) fun v X h=>⟨h.1,?_⟩;simp only[Dw,ap,if_true];exact h.2
    ·have aR:mk i=false:=by simpa using ap
     rw[if_neg ap] at u;obtain⟨o1,bg,ag⟩:=y.Lk i f ay aR;obtain rfl:o1=o:=bI (bg.symm.trans K);have bs:∃ v,Bg P o1 (Ar l.toArray us a i) w v∧Bg P o1 (Ar l.toArray us a i) w' v∧(F.contains i=true→∀ x,C x→Bg P o1 (Ar l.toArray us a i) x v):=by
      by_cases B:F.contains i=true
      ·rw[if_pos B] at u;obtain⟨v,g1,_⟩:=u;exact⟨v,D1 ag (g1 w ⟨⟨w,hC w (bM _ w)⟩,rfl⟩),D1 ag (g1 w' ⟨⟨w',hC w' R⟩,rfl⟩),fun _ x hx=>D1 ag (g1 x ⟨⟨x,hx⟩,rfl⟩)⟩
      ·rw[if_neg B] at u;obtain⟨v,g1,_⟩:=u;exact⟨v,D1 ag (g1 w ⟨⟨w,bM _ w⟩,rfl⟩),D1 ag (g1 w' ⟨⟨w',R⟩,rfl⟩),fun h=>absurd h B⟩
     obtain⟨v,q0,q1,qf⟩:=bs;refine IY L ?_;unfold Bg at q1 q0;unfold Bd;rw[q1];refine⟨bM _ _,?_⟩;simp only[Dw,aR,bL,if_false,if_true];intro o2 bh;obtain rfl:o2=o1:=bI (bh.symm.trans K);have aO:=E7 z K f (bH _) (bP f) (bP f) (bH _) (us:=us) (vs:=fun j=>if j=i then v else vs j) (aX v);refine⟨?_,fun B x aF=>?_⟩
     ·unfold Bg;rw[←aO];exact q0
     ·have:=qf B x aF;unfold Bg at this ⊢;rw[←aO];exact this
   unfold wpOp;simp only[K,bq,if_true];refine .inl (Hr a1 hg fun v X hp=>ih _ _ _ ?_ (M.set p f) (fun q W=>?_) ⟨fun j=>if j=i then v else vs j,?_,R.trans (hp.1.mono R.size),fun j c d=>?_⟩)
   ·have:=IA ao az (n:=n) f;omega
   ·rw[Dk ao,if_neg (by rintro rfl;exact ay W)];exact N q W
   ·have a0:Av l.toArray i=o.dst:=by simp[Av,K]
    rw[Jq f ao az hd,a0]
   ·by_cases e:j=i
    ·subst e;exact hp.2
    ·rw[Dk ao,if_neg e] at d;have ah:=ai j c d;have a9:∀ q,BH l.toArray j q=true→q≠i:=fun q W=>by
      rintro rfl;have:=aE M j q c d W;rw[az] at this;cases this
     unfold Dw at ah ⊢;split
     ·rename_i aA;rw[if_pos aA] at ah;simp only[if_neg e];exact hV _ _ _ _ ah hp.1
     ·rename_i aA;rw[if_neg aA] at ah;intro oj aS;have a2:=E7 z aS c (bP c) (bH _) (bP c) (bH _) (us:=vs) (vs:=fun j=>if j=i then v else vs j) (fun q W=>by simp only[if_neg (a9 q W)]);have:=ah oj aS;unfold Bg at this ⊢;rw[←a2];simp only[if_neg e];exact this
def AS(C:bG→Prop)(n:Nat)(S F:List Nat)(M:Mk)(p:∀ w',Bl w w'→C w')(B:Kv M)
  (H:AQ C P l.toArray S F (AP M) (AZ M) w (fun os vs A=>∀ w',Bl w w'→(∀ j f,j<n→M.lookup j=Z f→f (vs j) w')→A7 C P A os w' (Q .normal A)) 0 (l.take n) [] (fun _=>cr) a)(y:P.follows .mixedOrders=true:=by kernel_rfl)(o:n=l.toArray.size:=by kernel_rfl)(u:CO l.toArray n a.tmps.size=true:=by kernel_rfl)(D:Lx l.toArray n S F (AP M)=true:=by kernel_rfl):
  (cz id l.toArray true).wp P Q a w:=by
 obtain⟨s,r⟩:=Q4 D;have c:∀ i:Nat,(bK l.toArray.size false).getD i false=false:=fun i=>b0 _ _
 have L:∀ m,Cq (bK l.toArray.size false) m=m:=fun m=>by
  induction m with
  |zero=>rfl
  |succ m g=>
   unfold Cq;rw[c,g];simp
 have N:cw .any l.toArray n (bK l.toArray.size false):=
  ⟨by simp,fun j W _ b=>(by rw[c] at b;cases b),fun t _ K=>cM (by simpa using K) (b0 _ _)⟩
 have z:∀ m,a=Ba l.toArray (bK l.toArray.size false) (fun _=>cr) a m:=fun m=>by
  induction m with
  |zero=>rfl
  |succ m g=>
   unfold Ba;rw[c];simpa using g
 have q:(fun(os:List bY) (vs:Nat→bF) (A:Act)=>∀ w',Bl w w'→(∀ j f,j<n→M.lookup j=Z f→f (vs j) w')→A7 C P A os w' (Q .normal A))=(fun os vs A=>∀ w',Bl w w'→(∀ j,j<n→AP M j=true→AZ M j (vs j) w')→A7 C P A os w' (Q .normal A)):=by
  funext os vs A;refine forall_congr fun w'=>?_
  refine forall_congr fun k=>?_
  refine propext ⟨fun h e=>h fun j f d b=>?_,fun h e=>h fun j d x=>?_⟩
  ·have:=e j d (by simp[AP,b]);simpa[AZ,b] using this
  ·unfold AP at x;unfold AZ;cases b:M.lookup j with
   |none=>trivial
   |some f=>exact e j f d b
 rw[q] at H;refine cX y ?_;have:=MU (P:=P) (Q:=Q) (a:=a) p u o r (fun i v w' R h k=>by
  unfold AZ at*;cases b:M.lookup i with
  |none=>trivial
  |some f=>
   rw[b] at h;exact Ly B b v w' R h k) H n (bK l.toArray.size false) a {w with drawn:=w.drawn+1} (L n) N (fun i _=>c i) ⟨fun _=>cr,z n,(bM _ w).drew,fun i _ b=>(by rw[c] at b;cases b)⟩
 rw[o] at this;exact this
end
section
variable {C:bG→Prop} {S F:List Nat} {M:Mk} {E:List bY→(Nat→bF)→Act→Prop} {i k:Nat} {o:bY} {rest os:List bY} {vs:Nat→bF} {A:Act}
def An(b:S.contains i=false)(d:AP M i=false)(c:F.contains i=false)(h:∀ K:Act→Prop,(∀ a,AQ C P ops S F (AP M) (AZ M) w E (i+1) (rest.take k) os vs a→K a)→o.quiet P A (fun w'=>∃ p:Ak w,w'=p.W) K):AQ C P ops S F (AP M) (AZ M) w E i ((o::rest).take (k+1)) os vs A:=by
 rw[bV];simp only[AQ,b,d,c,bL,if_false];exact h _ fun _ h=>h
def Bi(b:S.contains i=false)(d:AP M i=false)(c:F.contains i=true)(h:∀ K:Act→Prop,(∀ a,AQ C P ops S F (AP M) (AZ M) w E (i+1) (rest.take k) os vs a→K a)→o.quiet P A (fun w'=>∃ p:FI C,w'=p.W) K):AQ C P ops S F (AP M) (AZ M) w E i ((o::rest).take (k+1)) os vs A:=by
 rw[bV];simp only[AQ,b,d,c,bL,if_false,if_true];exact h _ fun _ h=>h
def AH(b:S.contains i=true)(h:AQ C P ops S F (AP M) (AZ M) w E (i+1) (rest.take k) (os++ [o]) vs A):AQ C P ops S F (AP M) (AZ M) w E i ((o::rest).take (k+1)) os vs A:=by
 rw[bV];simp only[AQ,b,if_true];exact h
def AR(h:E os vs A):AQ C P ops S F (AP M) (AZ M) w E i (rest.take 0) os vs A:=by
 rw[dh];exact h
def A9{f:bF→bG→Prop}(h:S.contains i=false)(c:M.lookup i=Z f)(q:∀ w',Bl w w'→(∀ j g,M.lookup j=Z g→By ops i j→g (vs j) w')→Bd P o A w' (fun v e=>Bl w' e∧f v e))
  (s:∀ v w',Bl w w'→f v w'→AQ C P ops S F (AP M) (AZ M) w E (i+1) (rest.take k) os (fun j=>if j=i then v else vs j) (A.put o.dst v)):AQ C P ops S F (AP M) (AZ M) w E i ((o::rest).take (k+1)) os vs A:=by
 rw[bV];have r:AP M i=true:=by simp[AP,c]
 simp only[AQ,h,r,bL,if_false,if_true];refine⟨fun w' b m=>?_,fun v w' b t=>s v w' b (by simpa[AZ,c] using t)⟩;have:=q w' b (fun j g d p=>by
  have:=m j (by simp[AP,d]) p;simpa[AZ,d] using this)
 simpa[AZ,c] using this
def AI{K:bG→Prop}{w':bG}(c:(b3 A.eval o).run P w=.ok .skip w')(b:C w')(h:A7 C P A os w' K):A7 C P A (o::os) w K:=⟨w',c,b,h⟩
end
end
def Dj(w:bG)(L:List Nat)(W:bG):Prop:=∀ b∈L,W.heap[b]? =w.heap[b]?
section
variable {w W:bG} {L:List Nat}
def LP(c:∀ b∈L,b<w.heap.size):∀ w',Bl w w'→Dj w L w':=fun _ a b d=>a.block b (c b d)
def Dj.set(h:Dj w L W){b o:Nat}(d:b∉L)(v:bF):Dj w L (W.setCell ⟨b,o,O⟩ v):=fun c a=>(cE _ _ _ _ (by rintro rfl;exact d a)).trans (h c a)
def Dj.BG(h:Dj w L W){a:bG}(d:∀ b∈L,a.heap[b]? =W.heap[b]?):Dj w L a:=fun b c=>(d b c).trans (h b c)
def FI.cell(p:FI (Dj w L)){b o:Nat}(a:b∈L):p.W.cell? ⟨b,o,O⟩=w.cell? ⟨b,o,O⟩:=by
 unfold dM;rw[p.h b a]
instance :Inhabited (FI (Dj w L)):=⟨⟨w,fun _ _=>rfl⟩⟩
end
end MC
namespace MM
structure Rel(w w' w'':bG):Prop where
 os:w''.os=w'.os
 tape:w''.tape=w'.tape
 output:w''.output=w'.output
 size:w'.heap.size≤w''.heap.size
 block:∀ b,b<w'.heap.size→w''.heap[b]? =w'.heap[b]?∨(w.heap.size≤b∧∃ es clk,w'.heap[b]? =Z (.map es clk))
def Rel.C9{w w' a:bG}(h:Bl w' a):Rel w w' a:=⟨h.os,h.tape,h.output,h.size,fun b c=>.inl (h.block b c)⟩
def Rel.below{w w' e:bG}(a:Bl w w')(h:Rel w w' e):Bl w e:=
 ⟨h.os.trans a.os,h.tape.trans a.tape,h.output.trans a.output,Nat.le_trans a.size h.size,fun b d=>by
  rcases h.block b (ch d a.size) with c|⟨c,_⟩
  ·exact c.trans (a.block b d)
  ·omega⟩
section
variable {P:bX} {id:Nat} {l:List bY} {Q:dK→Act→bG→Prop} {a:Act} {w:bG} {ops:Array bY} {n m:Nat}
def LW(y:CO l.toArray n a.tmps.size=true)(hr:GV l.toArray n=true)
  (V:Nat→(Nat→bF)→bG→Prop) (C:(Nat→Bool)→(Nat→bF)→bG→Prop)
  (az:∀ i vs vs' w',i<n→(∀ j,j=i∨By l.toArray i j→vs j=vs' j)→V i vs w'→V i vs' w')
  (hV:∀ i vs w' p,i<n→V i vs w'→Rel w w' p→V i vs p)
  (hR:∀ w' p,Bl w w'→Rel w w' p→Bl w p)
  (aQ:∀ i o,l[i]? =Z o→i<n→∀ (L:Nat→Bool) vs w',Bl w w'→L i=false→(∀ j,By l.toArray i j→L j=true)→(∀ j k,j<n→L j=true→By l.toArray j k→L k=true)→(∀ j,By l.toArray i j→V j vs w')→C L vs w'→
   Bd P o (Ar l.toArray vs a n) w' (fun v p=>Rel w w' p∧V i (fun j=>if j=i then v else vs j) p∧C (fun j=>if j=i then true else L j) (fun j=>if j=i then v else vs j) p))
  (hend:∀ (L:Nat→Bool) vs w',Bl w w'→(∀ i,i<n→L i=true)→(∀ i,i<n→V i vs w')→C L vs w'→c6 P l.toArray Q (l.drop n) (Ar l.toArray vs a n) w'):
  ∀ (k:Nat) (listed:Array Bool) (b:Act) (w':bG),Cq listed n=k→cw .any l.toArray n listed→
   (∃ vs,b=Ba l.toArray listed vs a n∧Bl w w'∧(∀ i,i<n→listed.getD i false=true→V i vs w')∧C (fun i=>listed.getD i false) vs w')→dL P .any l.toArray Q (k+(l.toArray.size-n)) listed b w':=by
 obtain⟨hn,aO,E⟩:=DM y;have W:∀ j k,j<n→k<n→j≠k→∀ t,Av l.toArray j=Z t→Av l.toArray k≠Z t:=fun j k c hk aI t ht=>by
  obtain⟨o,H⟩:=E k hk;exact(H.apart j c aI t ht).1
 simp only[GV,b5,cC,decide_eq_true_eq] at hr;obtain⟨aL,aM⟩:=hr;intro k
 induction k with
 |zero=>
  rintro listed b w' hu r ⟨vs,rfl,D,N,ab⟩;have u:=Ie hu;have aG:listed=bK n true++bK (l.toArray.size-n) false:=by
   apply Array.ext
   ·simp only[dx,dp,r.size];omega
   ·intro i h1 h2;have aR:=r.size;by_cases d:i<n
    ·have:=u i d;simp only[cF,h1,dif_pos] at this;rw[di (by simpa using d)];simpa using this
    ·have:=r.tail i (by omega) (by omega);simp only[cF,h1,dif_pos] at this;rw[df (by simpa using d)];simpa using this
  have ag:(l.drop n).length=l.toArray.size-n:=by simp
  have:=wpAny_of_seq (P:=P) (md:=.any) (ops:=l.toArray) (Q':=Q) (l.drop n) n listed (Ar l.toArray vs a n) w' (fun j=>by simp[dv]) (by rw[ag,aG];exact aM) (hend _ vs w' D (fun i d=>u i d) (fun i d=>N i d (u i d)) ab);rw[ag] at this;rw[dn,Jp n u];exact this
 |succ k ih=>
  rintro listed b w' hu r ⟨vs,rfl,D,N,ab⟩;obtain⟨R,aj,aT,aH⟩:=I9 (listed:=listed) (n:=n) (by omega);have aR:=r.size;have aq:listed.getD R true=false:=cM (by omega) aT;have an:R∈cB .any l.toArray listed:=by
   obtain⟨o,H⟩:=E R aj;exact cc.2 ⟨aq,o,H.at_,fun e he S=>aH e.on (H.back e he S)⟩
  rw[show k+1+(l.toArray.size-n)=(k+(l.toArray.size-n))+1 by omega];refine⟨fun h=>(by rw[h] at an;cases an),fun i d=>?_⟩;obtain⟨aC,o',B,u⟩:=cc.1 d;have s:i<n:=by
   rcases cW i n with h|h
   ·exact h
   ·rcases aL with e|⟨⟨e,hs⟩,hc⟩
    ·have:=(bC.1 B).1;omega
    ·exact absurd d (tail_waits hs hc e r _ R rfl aj aq i h)
  obtain⟨o,H⟩:=E i s;obtain rfl:o=o':=bI (H.at_.symm.trans B);have K:i<listed.size:=by have:=(bC.1 B).1;omega
  have F:listed.getD i false=false:=cJ aC;have X:∀ j,BH l.toArray i j=true→listed.getD j false=true:=fun j c=>by
   obtain⟨e,he,S,rfl⟩:=(G6 H.at_).1 c;exact u e he S
  have ah:∀ j,By l.toArray i j→listed.getD j false=true:=fun j c=>by
   cases c with
   |base h=>exact X j h
   |step h h2=>exact h2.listed y r (by have:=CD y s h;omega) (X _ h)
  have aU:bZ o (dj l.toArray (Ba l.toArray listed vs a n).tmps)=true:=by simp[bZ,H.Jh]
  have aB:b3 (Ba l.toArray listed vs a n).eval o=b3 (Ar l.toArray vs a n).eval o:=by
   refine dc o (fun cs bb=>cv aO i o cs bb H.at_) (fun x hx=>?_);cases x with
   |tmp t=>
    have ak:t∈o.looksAt l.toArray:=by
     unfold cU;exact cx _ (cG.2 ⟨.tmp t,by simpa using hx,rfl⟩)
    obtain⟨la,aF,aJ⟩:=Jo (ops:=l.toArray) (vs:=vs) (a:=a) n;rw[aJ];by_cases ai:∃ j,j<n∧Av l.toArray j=Z t
    ·obtain⟨j,c,z⟩:=ai;have aD:j≠i:=by
      rintro rfl;have:o.dst=Z t:=by simpa[Av,H.at_] using z
      exact H.own t this ak
     have ao:t<a.tmps.size:=by
      obtain⟨oj,Hj⟩:=E j c;exact Hj.low t (by simpa[Av,Hj.at_] using z)
     rw[Hz c (X j ((H.apart j c aD t z).2 ak)) z ao W,Hz c (aF j c) z ao W]
    ·have al:∀ j,j<n→Av l.toArray j≠Z t:=fun j c e=>ai ⟨j,c,e⟩;rw[Gy n (fun j c _=>al j c),Gy n (fun j c _=>al j c)]
   |const v=>rfl
   |global g=>rfl
   |func f=>rfl
  have aP:=aQ i o (by simpa using H.at_) s (fun j=>listed.getD j false) vs w' D F (fun j c=>ah j c) (fun j k c A ha=>ha.listed y r c A) (fun j c=>N j (by have:=c.lt y s;omega) (ah j c)) ab;unfold wpOp;simp only[B,aU,if_true];refine .inl (Hr aB aP fun v p M=>ih _ _ _ ?_ (r.set d s) ⟨fun j=>if j=i then v else vs j,?_,hR _ _ D M.1,fun j c A=>?_,?_⟩)
  ·have:=IA K F (n:=n) s;omega
  ·have aA:Av l.toArray i=o.dst:=by simp[Av,B]
   rw[Jq s K F W,aA]
  ·by_cases e:j=i
   ·subst e;exact M.2.1
   ·rw[Dk K,if_neg e] at A;refine hV j _ w' p c (az j vs _ w' c (fun q hq=>?_) (N j c A)) M.1;have aK:q≠i:=by
     rcases hq with rfl|hq
     ·exact e
     ·rintro rfl;have:=hq.listed y r c A;rw[F] at this;cases this
    rw[if_neg aK]
  ·have e:(fun j=>(listed.setIfInBounds i true).getD j false)=(fun j=>if j=i then true else listed.getD j false):=by
    funext j;rw[Dk K]
   rw[e];exact M.2.2
def N5(n:Nat)(B:P.follows .mixedOrders=true)(g:CO l.toArray n a.tmps.size=true)(s:GV l.toArray n=true)
  (V:Nat→(Nat→bF)→bG→Prop) (c:(Nat→Bool)→(Nat→bF)→bG→Prop)
  (r:∀ i vs vs' w',i<n→(∀ j,j=i∨By l.toArray i j→vs j=vs' j)→V i vs w'→V i vs' w')
  (q:∀ i vs w' b,i<n→V i vs w'→Rel w w' b→V i vs b)
  (p:∀ w' b,Bl w w'→Rel w w' b→Bl w b)
  (u:∀ i o,l[i]? =Z o→i<n→∀ (L:Nat→Bool) vs w',Bl w w'→L i=false→(∀ j,By l.toArray i j→L j=true)→(∀ j k,j<n→L j=true→By l.toArray j k→L k=true)→(∀ j,By l.toArray i j→V j vs w')→c L vs w'→
   Bd P o (Ar l.toArray vs a n) w' (fun v b=>Rel w w' b∧V i (fun j=>if j=i then v else vs j) b∧c (fun j=>if j=i then true else L j) (fun j=>if j=i then v else vs j) b))
  (h:c (fun _=>false) (fun _=>cr) {w with drawn:=w.drawn+1})
  (hend:∀ (L:Nat→Bool) vs w',Bl w w'→(∀ i,i<n→L i=true)→(∀ i,i<n→V i vs w')→c L vs w'→c6 P l.toArray Q (l.drop n) (Ar l.toArray vs a n) w'):
  (cz id l.toArray true).wp P Q a w:=by
 have y:=(DM g).1;have d:∀ i:Nat,(bK l.toArray.size false).getD i false=false:=fun i=>b0 _ _
 have z:Cq (bK l.toArray.size false) n=n:=by
  clear g s r q u hend y h p
  induction n with
  |zero=>rfl
  |succ n x=>
   unfold Cq;rw[d,x];simp
 have A:cw .any l.toArray n (bK l.toArray.size false):=
  ⟨by simp,fun j D _ f=>(by rw[d] at f;cases f),fun t _ C=>cM (by simpa using C) (b0 _ _)⟩
 refine cX B ?_;have:=LW (P:=P) (Q:=Q) (w:=w) g s V c r q p u hend n (bK l.toArray.size false) a {w with drawn:=w.drawn+1} z A ⟨fun _=>cr,?_,(bM _ w).drew,fun i _ f=>(by rw[d] at f;cases f),?_⟩
 ·rw[show n+(l.toArray.size-n)=l.toArray.size by omega] at this;exact this
 ·clear z A g s r q u hend y h p
  induction n with
  |zero=>rfl
  |succ n x=>
   unfold Ba;rw[d];simpa using x
 ·have e:(fun i=>(bK l.toArray.size false).getD i false)=fun _=>false:=funext fun i=>d i
  rw[e];exact h
end
end MM
namespace MM
section
variable {κ:de}
def O7{k:Int}{v:bF}{d:Nat}:∀ (a:List dd) (i:Nat),bS (.int κ) (I κ k) a i=Z O→∃ p,bS (.int κ) (I κ k) (a++ [⟨I κ k,v,d⟩]) i=Z (Z (p,v))
 | [],i,_=>⟨i,by simp[bS,cI]⟩
 |e::a,i,h=>by
  simp only[bS,cZ] at h ⊢;cases c:cI (.int κ) (I κ k) e.key with
  |none=>rw[c] at h;simp at h
  |some b=>
   cases b with
   |true=>rw[c] at h;simp at h
   |false=>
    rw[c] at h;exact O7 a (i+1) h
def O8{k f:Int}{v u:bF}{d p:Nat}:∀ (a:List dd) (i:Nat),bS (.int κ) (I κ k) a i=Z (Z (p,u))→bS (.int κ) (I κ k) (a++ [⟨I κ f,v,d⟩]) i=Z (Z (p,u))
 | [],i,h=>by simp[bS] at h
 |e::a,i,h=>by
  simp only[bS,cZ] at h ⊢;cases c:cI (.int κ) (I κ k) e.key with
  |none=>rw[c] at h;simp at h
  |some b=>
   cases b with
   |true=>rw[c] at h;exact h
   |false=>
    rw[c] at h;exact O8 a (i+1) h
def O6{k f:Int}{v:bF}{g:Nat}(d:k≠f):∀ (a:List dd) (i:Nat),bS (.int κ) (I κ k) a i=Z O→bS (.int κ) (I κ k) (a++ [⟨I κ f,v,g⟩]) i=Z O
 | [],i,_=>by simp[bS,cI,beq_false_of_ne d]
 |e::a,i,h=>by
  simp only[bS,cZ] at h ⊢;cases c:cI (.int κ) (I κ k) e.key with
  |none=>rw[c] at h;simp at h
  |some b=>
   cases b with
   |true=>rw[c] at h;simp at h
   |false=>
    rw[c] at h;exact O6 d a (i+1) h
end
section
variable {P:bX} {w:bG} {b:Nat} {es:Array dd} {clk:Nat} {κ:de} {k:Int} {v:bF} {mty kt et:cm}
def YC(e:P.underlying mty=Z (.map kt et))(c:P.underlying kt=Z (.int κ))(a:w.heap[b]? =Z (.map es clk))(h:bS (.int κ) (I κ k) es.toList 0=Z O):
  (dE mty (.map (Z b)) (I κ k) v).run P w=.ok () {w with heap:=w.heap.setIfInBounds b (.map (es.push ⟨I κ k,v,clk⟩) (clk+1))}:=by
 have d:(Instr.checkKey false 10000 kt (I κ k)).run P w=.ok () w:=MapKept.run_checkKey (k:=I κ k) c (by simp[MapKept.IsKey]) false 9999;simp[dE,run_underlying e,MapKept.run_getObj_map a,d,MapKept.run_findKey c h,MapKept.run_setObj_map _ a,da]
end
@[reducible] def Src:=bF ⊕ Nat
def srcV(vs:Nat→bF):Src→bF
 | .inl v=>v
 | .inr j=>vs j
structure N7(l:List bY)(κ:de)(mty:cm)(n m0:Nat)(t0:Tmp)(e:Nat×Int×Src)(o:bY)(y:Operand):Prop where
 at_:l[e.1]? =Z o
 lt:e.1<n
 dst:o.dst=O
 op:o.op=.insert mty (.tmp t0) (.const (I κ e.2.1)) y
 m0:BH l.toArray e.1 m0=true
 src:match e.2.2 with
  | .inl v=>∀ A:Act,A.eval y=v
  | .inr j=>∃ t,y=.tmp t∧Av l.toArray j=Z t∧BH l.toArray e.1 j=true
section
variable {P:bX} {id:Nat} {l:List bY} {Q:dK→Act→bG→Prop} {a:Act} {w:bG} {n m0:Nat} {t0:Tmp} {κ:de} {mty kt et:cm} {K:List (Nat×Int×Src)} {F:Nat→bF→bG→Prop}
def Rf(w:bG)(κ:de)(m0:Nat)(K:List (Nat×Int×Src))(L:Nat→Bool)(vs:Nat→bF)(w':bG):Prop:=
 L m0=true→∃ (b:Nat) (c:Array dd) (d:Nat),vs m0=.map (Z b)∧w.heap.size≤b∧w'.heap[b]? =Z (.map c d)∧
  (∀ e∈K,L e.1=true→∃ p,bS (.int κ) (I κ e.2.1) c.toList 0=Z (Z (p,srcV vs e.2.2)))∧
  ∀ k,(∀ e∈K,e.2.1=k→L e.1=false)→bS (.int κ) (I κ k) c.toList 0=Z O
def Nq{e:Nat×Int×Src}{o:bY}{y:Operand}(c:N7 l κ mty n m0 t0 e o y){vs vs':Nat→bF}(h:∀ j,BH l.toArray e.1 j=true→vs j=vs' j):srcV vs e.2.2=srcV vs' e.2.2:=by
 obtain⟨i,k,s⟩:=e;cases s with
 |inl v=>rfl
 |inr j=>
  obtain⟨t,_,_,b⟩:=c.src;exact h j b
def ZN(n m0:Nat)(t0:Tmp)(κ:de)(mty kt et:cm)(K:List (Nat×Int×Src))(F:Nat→bF→bG→Prop)
  (hm:P.follows .mixedOrders=true) (hh:CO l.toArray n a.tmps.size=true) (hr:GV l.toArray n=true)
  (aY:P.underlying mty=Z (.map kt et)) (aU:P.underlying kt=Z (.int κ))
  (h0:Av l.toArray m0=Z t0) (aA:m0<n) (aN:∃ o,l[m0]? =Z o∧o.op=.makeMap mty O)
  (hK:∀ e∈K,∃ o y,N7 l κ mty n m0 t0 e o y) (aT:(K.map (·.2.1)).Nodup) (aS:(K.map (·.1)).Nodup)
  (hFf:∀ i v w',(i=m0∨i∈K.map (·.1))→F i v w')
  (aO:∀ i v w' s,F i v w'→Rel w w' s→F i v s)
  (hoth:∀ i o,l[i]? =Z o→i<n→i≠m0→i∉K.map (·.1)→∀ (A:Act) w',Bl w w'→
   (∀ j t,Av l.toArray j=Z t→j<n→By l.toArray i j→F j (A.eval (.tmp t)) w')→(∀ t,(∀ j,j<n→Av l.toArray j≠Z t)→A.eval (.tmp t)=a.eval (.tmp t))→
   Bd P o A w' (fun v s=>Bl w' s∧F i v s))
  (hend:∀ (vs:Nat→bF) w' (g:Nat) (r:Array dd) (m:Nat),Bl w w'→(∀ i,i<n→F i (vs i) w')→vs m0=.map (Z g)→w.heap.size≤g→w'.heap[g]? =Z (.map r m)→
   (∀ e∈K,∃ p,bS (.int κ) (I κ e.2.1) r.toList 0=Z (Z (p,srcV vs e.2.2)))→c6 P l.toArray Q (l.drop n) (Ar l.toArray vs a n) w'):
  (cz id l.toArray true).wp P Q a w:=by
 obtain⟨hn,bb,aD⟩:=DM hh;have hd:∀ j k,j<n→k<n→j≠k→∀ t,Av l.toArray j=Z t→Av l.toArray k≠Z t:=fun j k d E N t x=>by
  obtain⟨o,H⟩:=aD k E;exact(H.apart j d N t x).1
 have aj:∀ (vs:Nat→bF) j t,j<n→Av l.toArray j=Z t→(Ar l.toArray vs a n).eval (.tmp t)=vs j:=fun vs j t d x=>by
  obtain⟨la,aE,aq⟩:=Jo (ops:=l.toArray) (vs:=vs) (a:=a) n;obtain⟨oj,Hj⟩:=aD j d;rw[aq];exact Hz d (aE j d) x (Hj.low t (by simpa[Av,Hj.at_] using x)) hd
 have aM:∀ (vs:Nat→bF) t,(∀ j,j<n→Av l.toArray j≠Z t)→(Ar l.toArray vs a n).eval (.tmp t)=a.eval (.tmp t):=fun vs t x=>by
  obtain⟨la,aE,aq⟩:=Jo (ops:=l.toArray) (vs:=vs) (a:=a) n;rw[aq];exact Gy n (fun j d _=>x j d)
 have aF:m0∉K.map (·.1):=by
  intro aX;obtain⟨e,c,C⟩:=cO.1 aX;obtain⟨o,y,H⟩:=hK e c;have:o.dst=Z t0:=by
   have z:=h0;rw[←C] at z;simpa[Av,H.at_] using z
  rw[H.dst] at this;cases this
 refine N5 n hm hh hr (fun i vs w'=>F i (vs i) w') (Rf w κ m0 K) ?_ ?_ ?_ ?_ ?_ ?_
 ·intro i vs vs' w' _ d h;rw[←d i (.inl rfl)];exact h
 ·intro i vs w' s _ h hrel;exact aO i _ w' s h hrel
 ·intro w' s S hrel;exact Rel.below S hrel
 ·intro i o ho hi L vs w' S ae aQ al hV hI;have ba:l.toArray[i]? =Z o:=by simpa using ho
  by_cases aa:i∈K.map (·.1)
  ·obtain⟨e,c,rfl⟩:=cO.1 aa;obtain⟨o2,y,H⟩:=hK e c;obtain rfl:o2=o:=bI (H.at_.symm.trans ho);have aV:L m0=true:=aQ m0 (.base H.m0);obtain⟨g,r,m,C,z,D,X,h5⟩:=hI aV;have aG:bS (.int κ) (I κ e.2.1) r.toList 0=Z O:=h5 _ fun f B E=>by
    have:f=e:=by
     obtain⟨p,R,rfl⟩:=cD c;obtain⟨q,hq,rfl⟩:=cD B;have:=(dC (i:=q) (j:=p) (h₀:=by simpa using hq) (h₁:=by simpa using R) aT).1 (by simpa using E);subst this;rfl
    rw[this];exact ae
   have eA:(Ar l.toArray vs a n).eval (.tmp t0)=.map (Z g):=(aj vs m0 t0 aA h0).trans C;have eV:(Ar l.toArray vs a n).eval y=srcV vs e.2.2:=by
    have hs:=H.src;obtain⟨ei,ek,aL⟩:=e;cases aL with
    |inl v=>exact hs _
    |inr j=>
     obtain⟨t,rfl,x,hw⟩:=hs;exact aj vs j t (by have:=CD hh hi hw;omega) x
   have N:m0≠e.1:=fun h=>aF (h ▸ aa);have aH:=YC (P:=P) (w:=w') (k:=e.2.1) (v:=srcV vs e.2.2) aY aU D aG;have ap:g<w'.heap.size:=(bC.1 D).1;generalize hW:({w' with heap:=w'.heap.setIfInBounds g (.map (r.push ⟨I κ e.2.1,srcV vs e.2.2,m⟩) (m+1))}:bG)=s at aH;have am:(b3 (Ar l.toArray vs a n).eval o2).run P w'=.ok .skip s:=by
    simp only[b3,H.op,dm];rw[eA,eV];rw[show (Ar l.toArray vs a n).eval (.const (I κ e.2.1))=I κ e.2.1 from rfl];rw[aH];rfl
   unfold Bd;rw[am];refine⟨?_,hFf _ _ _ (.inr aa),?_⟩
   ·rw[←hW];refine⟨rfl,rfl,rfl,by simp,fun b a8=>?_⟩;by_cases e0:b=g
    ·subst e0;exact .inr ⟨z,r,m,D⟩
    ·refine .inl ?_;simp only[cA];rw[if_neg (Ne.symm e0)]
   ·intro _;have a2:∀ f∈K,L f.1=true→srcV (fun j=>if j=e.1 then cr else vs j) f.2.2=srcV vs f.2.2:=fun f B V=>by
     obtain⟨o',y',u⟩:=hK f B;refine Nq u fun j d=>?_
     rw[if_neg];rintro rfl;have:=al _ _ u.lt V (.base d);rw[ae] at this;cases this
    have a3:srcV (fun j=>if j=e.1 then cr else vs j) e.2.2=srcV vs e.2.2:=by
     refine Nq H fun j d=>?_
     rw[if_neg];have:=CD hh hi d;omega
    refine⟨g,r.push ⟨I κ e.2.1,srcV vs e.2.2,m⟩,m+1,?_,z,?_,?_,?_⟩
    ·exact(if_neg N).trans C
    ·rw[←hW];simp only[cA,if_pos ap,if_true]
    ·intro f B V;rw[dw];by_cases e1:f.1=e.1
     ·have:f=e:=by
       obtain⟨p,R,rfl⟩:=cD c;obtain⟨q,hq,rfl⟩:=cD B;have:=(dC (i:=q) (j:=p) (h₀:=by simpa using hq) (h₁:=by simpa using R) aS).1 (by simpa using e1);subst this;rfl
      subst this;rw[a3];exact O7 _ _ aG
     ·replace V:L f.1=true:=(if_neg e1).symm.trans V;obtain⟨p,R⟩:=X f B V;rw[a2 f B V];exact⟨p,O8 _ _ R⟩
    ·intro k E;rw[dw];refine O6 ?_ _ _ (h5 k fun f B ao=>?_)
     ·rintro rfl;have:=E e c rfl;simp at this
     ·have:=E f B ao;by_cases W:f.1=e.1
      ·exact absurd ((if_pos W).symm.trans this) (by simp)
      ·exact(if_neg W).symm.trans this
  ·by_cases ag:i=m0
   ·subst ag;obtain⟨o2,aZ,a0⟩:=aN;obtain rfl:o2=o:=bI (aZ.symm.trans ho);have am:(b3 (Ar l.toArray vs a n).eval o2).run P w'=.ok (.value (.map (Z w'.heap.size))) (w'.alloc (.map #[] 0)):=by
     simp[-dF,b3,a0,run_makeMap_plain,da]
    unfold Bd;rw[am];refine⟨Rel.C9 ((bM _ _).alloc (bH _) _),hFf _ _ _ (.inl rfl),fun _=>⟨w'.heap.size,#[],0,if_pos rfl,S.size,by simp[-dF,World.alloc],fun e c M=>?_,fun k _=>rfl⟩⟩;exfalso;obtain⟨o',y',u⟩:=hK e c;have N:e.1≠i:=fun h=>aF (h ▸ cO.2 ⟨e,c,rfl⟩);replace M:L e.1=true:=(if_neg N).symm.trans M;have:=al _ _ u.lt M (.base u.m0);rw[ae] at this;cases this
   ·refine KR (hoth i o ho hi ag aa (Ar l.toArray vs a n) w' S (fun j t x d ha=>by rw[aj vs j t d x];exact hV j ha) (aM vs)) fun v s h=>?_
    refine⟨Rel.C9 h.1,by simp only[if_true];exact h.2,fun M=>?_⟩;replace M:L m0=true:=(if_neg (Ne.symm ag)).symm.trans M;obtain⟨g,r,m,C,z,D,X,h5⟩:=hI M;have ap:g<w'.heap.size:=(bC.1 D).1;refine⟨g,r,m,(if_neg (Ne.symm ag)).trans C,z,(h.1.block _ ap).trans D,fun e c ah=>?_,fun k E=>h5 k fun e c ao=>?_⟩
    ·obtain⟨o',y',u⟩:=hK e c;have N:e.1≠i:=fun h=>aa (h ▸ cO.2 ⟨e,c,rfl⟩);replace ah:L e.1=true:=(if_neg N).symm.trans ah;obtain⟨p,R⟩:=X e c ah;refine⟨p,?_⟩;rw[R,Nq u (vs':=fun j=>if j=i then v else vs j)];intro j d;rw[if_neg];rintro rfl;have:=al _ _ u.lt ah (.base d);rw[ae] at this;cases this
    ·have:=E e c ao;by_cases W:e.1=i
     ·exact absurd ((if_pos W).symm.trans this) (by simp)
     ·exact(if_neg W).symm.trans this
 ·intro h;cases h
 ·intro L vs w' S hL hV hI;obtain⟨g,r,m,C,z,D,X,_⟩:=hI (hL m0 aA);refine hend vs w' g r m S hV C z D fun e c=>X e c ?_
  obtain⟨o',y',u⟩:=hK e c;exact hL _ u.lt
end
end MM
def Ci(n:Int)(d:List Int)(p g:List Wt):Bool:=decide (1≤n) && decide (n≤16) && decide ((d.length:Int)≤n) && (decide (AY p) && decide (AY g)) && (p.length==0||(d.length:Int)==n) && (g.length==0||d.length==0) && !g.any (fun y=>y.val !=0)
def CQ(p g:List Wt)(q:Int):Bool:=decide (0≤q) && !(p++g).any (fun x=>decide (x.proc=q))
def R2(w:bG)(o a:Obj):((w.alloc o).alloc a).heap[w.heap.size+1]? =Z a:=by
 have:=b8 (w.alloc o) a;simpa using this
def Zi(n:Int)(M P N:bF)(d:List Int)(p g:List Wt)(w:bG)(K:Af U w 0 M d)(A:Al w 0 P p)(u:Al w 0 N g)(R:Ck p)(Q:Ck g)(ai:p.length≤100000)(ah:g.length≤100000):
  ct prog 187 #[.agg #[I J n,M,P,N]] w fun e w'=>e=.returned (.bool (Ci n d p g))∧Bl w w':=by
 obtain⟨x,z,rfl,_,_,_⟩:=K.open_;obtain⟨s,t,rfl,_,_,_⟩:=A.open_;obtain⟨m,q,rfl,_,_,_⟩:=u.open_;have v:Hq (Bl w (w.alloc (T #[I J n,Y x d.length z,Y s p.length t,Y m g.length q] 111))):=(bM _ w).alloc (bH _) _;obtain⟨l,r⟩:=ex ((w.alloc (T #[I J n,Y x d.length z,Y s p.length t,Y m g.length q] 111)).alloc (T #[Y s p.length t,Y m g.length q] 93));have b:Hq (Bl w l):=by subst r;exact((bM _ w).alloc (bH _) _).alloc (by simp) _
 have c:Hq (l.heap[w.heap.size]? =Z (T #[I J n,Y x d.length z,Y s p.length t,Y m g.length q] 111 (0,0))):=by subst r;exact(dA _ _ _ (by simp)).trans (b8 w _)
 have a:Hq (ct prog 188 #[Y (Z ⟨w.heap.size+1,0,O⟩) 2 2] l fun e w'=>e=.returned (.bool (decide (AY p) && decide (AY g)))∧Bl l w'):=by
  have H:=Pt (Y (Z ⟨w.heap.size+1,0,O⟩) 2 2) [p,g] l (by subst r;exact Ds.two (by simp) (A.alloc _) (u.alloc _)) (by simp) (fun y L=>by simp only[dJ,List.not_mem_nil,or_false] at L;rcases L with rfl|rfl<;>first|exact⟨R,ai⟩|exact⟨Q,ah⟩)
  rw[show (!([p,g].any (fun y=>!decide (AY y))))=(decide (AY p) && decide (AY g)) from by simp only[List.any_cons,List.any_nil];cases decide (AY p)<;>cases decide (AY g)<;>rfl] at H;exact H
 have i:Hq (∀ W,Bl w W→ct prog 189 #[Y m g.length q] W fun e w'=>e=.returned (.bool (!g.any (fun y=>y.val !=0)))∧Bl W w'):=fun W hb=>Oa _ g W (u.below hb) (by omega);have k:=HH r;clear K A u R Q r;by_cases D:1≤n
 ·by_cases E:n≤16
  ·by_cases F:(d.length:Int)≤n
   ·cases j:(decide (AY p) && decide (AY g)) with
    |false=>
     rw[j] at a;rw[show Ci n d p g=false by simp only[Ci,j];simp];clear j i;go_enter func187,ntmps187;go_wp2_with fail;rw[←k.o];refine a.o.mono ?_;rintro e w2 ⟨rfl,f⟩;have h:=HH (b.o.trans (f.mono b.o.size));clear f a;go_wp2_with fail;go_ret;exact⟨rfl,h.o⟩
    |true=>
     rw[j] at a;have B:Hq (Ci n d p g=((p.length==0||(d.length:Int)==n) && (g.length==0||d.length==0) && !g.any (fun y=>y.val !=0))):=by show _=_;simp only[Ci,j,decide_eq_true D,decide_eq_true E,decide_eq_true F];simp
     rw[B.o];clear B j;generalize (!g.any (fun y=>y.val !=0))=br at i ⊢;have X:((p.length:Int)==0)=(p.length==0):=by rw[db];simp
     have ab:((g.length:Int)==0)=(g.length==0):=by rw[db];simp
     have ae:((d.length:Int)==0)=(d.length==0):=by rw[db];simp
     cases V:(p.length==0)<;>cases hF:((d.length:Int)==n)<;>cases hG:(g.length==0)<;>cases hH:(d.length==0)
     all_goals
      rw[V] at X;rw[hG] at ab;rw[hH] at ae;go_enter func187,ntmps187;go_wp2_with fail;rw[←k.o];refine a.o.mono ?_;rintro e w2 ⟨rfl,f⟩;have h:=HH (b.o.trans (f.mono b.o.size));obtain⟨x0,x1,x2,x3,_,_,_,_⟩:=Az ((f.block _ (Aa c.o)).trans c.o);have hx:=Aa ((f.block _ (Aa c.o)).trans c.o);clear f a;go_wp2_with (go_at_call 189;refine(i.o _ h.o).mono ?_;rintro e w3 ⟨rfl,C⟩;have S:=HH (h.o.trans (C.mono h.o.size));clear C);go_ret;exact⟨A8 (by first|rfl|simp),by first|exact h.o|exact S.o⟩
   ·rw[show Ci n d p g=false by simp[Ci,F]];clear a i k b c;go_enter func187,ntmps187;go_wp2_with fail;go_ret;exact⟨rfl,v.o⟩
  ·rw[show Ci n d p g=false by simp[Ci,E]];clear a i k b c;go_enter func187,ntmps187;go_wp2_with fail;go_ret;exact⟨rfl,v.o⟩
 ·rw[show Ci n d p g=false by simp[Ci,D]];clear a i k b c;go_enter func187,ntmps187;go_wp2_with fail;go_ret;exact⟨rfl,v.o⟩
def NC(w:bG)(n:Int)(d:List Int)(p g:List Wt)(q:Int)(e:Ending)(w':bG):Prop:=
 ∃ a b f c,e=.returned (.tuple #[G (Z ⟨a,0,O⟩),.bool (Ci n d p g && CQ p g q)])∧w.heap.size≤a∧w'.heap[a]? =Z (T #[I J n,b,f,c] 261 (0,0))∧AA w' w.heap.size b d∧Ax w' w.heap.size f p∧Ax w' w.heap.size c g∧Bl w w'
def Ht(n:Int)(q:Int)(vd vp vg:bF)(d:List Int)(p g:List Wt)(w:bG)(hd:Af U w 0 vd d)(hp:Al w 0 vp p)(hg:Al w 0 vg g)(wp:Ck p)(wg:Ck g)(a6:d.length≤40000)(a8:p.length≤40000)(a7:g.length≤40000):
  ct prog 160 #[.agg #[I J n,vd,vp,vg],I J q] w (NC w n d p g q):=by
 obtain⟨ad,cd,rfl,_,_,_⟩:=hd.open_;obtain⟨t,z,rfl,_,_,_⟩:=hp.open_;obtain⟨s,y,rfl,_,_,_⟩:=hg.open_;obtain⟨a,ab⟩:=ex (w.alloc (T #[I J n,Y ad d.length cd,Y t p.length z,Y s g.length y] 111));have k:Hq (Bl w a):=by subst ab;exact(bM _ w).alloc (bH _) _
 have l:Hq (a.heap[w.heap.size]? =Z (T #[I J n,Y ad d.length cd,Y t p.length z,Y s g.length y] 111 (0,0))):=by subst ab;exact b8 w _
 obtain⟨HD,HP,HG,WP,WG,aN⟩:=H6 (hd.below k.o) (hp.below k.o) (hg.below k.o) wp wg ab;have h:=Aa l.o;obtain⟨F,H,K,L,_,_,_,_⟩:=Az l.o;clear hd hp hg wp wg ab;go_enter func160,ntmps160;go_upto_region 1 with (fail);rw[←aN.o]
 go_cut [6] (fun s6 V=>∃ (B:Nat) (ac af ae:bF),s6=G (Z ⟨B,0,O⟩)∧Hq (a.heap.size≤B∧V.heap[B]? =Z (T #[I J n,ac,af,ae] 261 (0,0))∧AA V a.heap.size ac d∧Ax V a.heap.size af p∧Ax V a.heap.size ae g∧Bl a V))
 case first=>
  go_region_held3 (fun w'=>w'.cell? ⟨w.heap.size,0,O⟩=Z (I J n)∧w'.cell? ⟨w.heap.size,1,O⟩=Z (Y ad d.length cd)∧w'.cell? ⟨w.heap.size,2,O⟩=Z (Y t p.length z)∧w'.cell? ⟨w.heap.size,3,O⟩=Z (Y s g.length y)) (first|go_keep|(refine⟨?_,?_,?_,?_⟩<;>assumption))
   ((first
    |(go_at_call 27;(refine(Gj _ d _ (by exact HD.o) (by omega)).mono ?_);rintro e E ⟨v2,rfl,Q,c⟩;replace c:Bl a E:=(by first|exact c|exact EM c);replace Q:C5 E a.heap.size v2 d:=Q;obtain⟨a2,c2,rfl⟩:=Bq Q;have T2:Hq (AA E a.heap.size (Y a2 d.length c2) d):=Ty.Bw Q;have X:=HH c;obtain⟨r0,r1,r2,r3,_,_,_,_⟩:=Az ((c.block _ h).trans l.o);have a9:w.heap.size<E.heap.size:=ch h c.size;clear Q c)
    |(go_at_call_of 112 (dl t p.length z);(refine(GK _ p _ (by exact HP.o.below X.o) (by omega)).mono ?_);rintro e i ⟨v3,rfl,R,u⟩;replace u:Bl E i:=(by first|exact u|exact EM u);replace R:i.ownsRow E.heap.size 161 3 v3 p.length (cellsW p):=R;obtain⟨a3,c3,rfl⟩:=Bq R;have T3:Hq (Ax i a.heap.size (Y a3 p.length c3) p):=Ty.mono (Ty.Bw R) X.o.size;have aP:Hq (AA i a.heap.size (Y a2 d.length c2) d):=Ty.below T2.o u;have m:=HH (X.o.trans (u.mono X.o.size));obtain⟨bg,bh,bi,bj,_,_,_,_⟩:=Az ((m.o.block _ h).trans l.o);have ba:w.heap.size<i.heap.size:=ch h m.o.size;clear R u)
    |(go_at_call_of 112 (dl s g.length y);(refine(GK _ g _ (by exact HG.o.below m.o) (by omega)).mono ?_);rintro e j ⟨v4,rfl,S,f⟩;replace f:Bl i j:=(by first|exact f|exact EM f);replace S:j.ownsRow i.heap.size 161 3 v4 g.length (cellsW g):=S;obtain⟨a4,c4,rfl⟩:=Bq S;have T4:Hq (Ax j a.heap.size (Y a4 g.length c4) g):=Ty.mono (Ty.Bw S) m.o.size;have aS:Hq (Ax j a.heap.size (Y a3 p.length c3) p):=Ty.below T3.o f;have aQ:Hq (AA j a.heap.size (Y a2 d.length c2) d):=Ty.below aP.o f;have N:=HH (m.o.trans (f.mono m.o.size));obtain⟨bk,bl,bm,bn,_,_,_,_⟩:=Az ((N.o.block _ h).trans l.o);have bb:w.heap.size<j.heap.size:=ch h N.o.size;clear S f)))
  all_goals
   go_wp2_with fail
   go_meet
   exact⟨_,_,_,_,rfl,N.o.size,b8 j _,Ty.alloc aQ.o _,Ty.alloc aS.o _,Ty.alloc T4.o _,N.o.alloc N.o.size _⟩
 case rest=>
  obtain⟨B,ac,af,ae,rfl,A⟩:=hcut;obtain⟨hA1,hA2,hA3,hA4,hA5,hA6⟩:=A.o;obtain⟨wr,rfl⟩:=ex wc;have ax:w.heap.size≤a.heap.size:=k.o.size;have ai:Hq (∀ W (b:Bool),Bl wr W→b=(Ci n d p g && CQ p g q)→NC w n d p g q (.returned (.tuple #[G (Z ⟨B,0,O⟩),.bool b])) W):=fun W b P he=>by
   subst he;have aX:=hA6.trans (P.mono hA6.size);exact⟨B,ac,af,ae,rfl,by omega,(P.block _ (Aa hA2)).trans hA2,Ty.mono (Ty.below hA3 P) ax,Ty.mono (Ty.below hA4 P) ax,Ty.mono (Ty.below hA5 P) ax,k.o.trans (aX.mono k.o.size)⟩
  obtain⟨M,ah⟩:=H2 hA6 ((hA6.block _ h).trans l.o);clear A hA1 hA2 hA3 hA4 hA5 hA6 F H K L;obtain⟨F,H,K,L,_,_,_,_⟩:=Az ah.o;have hx:=Aa ah.o;go_wp2_with fail;have C:=Zi n _ _ _ d p g wr (HD.o.below M.o) (HP.o.below M.o) (HG.o.below M.o) WP.o WG.o (by omega) (by omega);cases D:Ci n d p g with
  |false=>
   rw[D] at C;have K1:=HH D;refine C.mono ?_;clear C D;rintro e w5 ⟨rfl,v⟩;have r:=HH v;clear v F H K L hx;go_wp2_with fail
   go_ret2
   exact ai.o _ _ r.o (by rw[K1.o];rfl)
  |true=>
   rw[D] at C;have K1:=HH D;refine C.mono ?_;clear C D;rintro e w5 ⟨rfl,v⟩;obtain⟨r,az⟩:=H2 v ((v.block _ hx).trans ah.o);clear v F H K L;obtain⟨F,H,K,L,_,_,_,_⟩:=Az az.o;have bc:=Aa az.o;by_cases hq:0≤q
   ·go_wp2_with fail;have ao:=M.o.trans (r.o.mono M.o.size);have hw:=KB q (Y (Z ⟨w5.heap.size,0,O⟩) 2 2) [p,g] (w5.alloc (T #[Y t p.length z,Y s g.length y] 93)) (Ds.two rfl (HP.o.below ao) (HG.o.below ao)) (by simp) (by rw[OF,List.length_append];omega);rw[OF] at hw;refine hw.mono ?_;clear hw ao;rintro e w6 ⟨rfl,b6⟩;have aq:=r.o.alloc r.o.size (T #[Y t p.length z,Y s g.length y] 93);have aL:=HH (aq.trans (b6.mono aq.size));have aB:Hq (CQ p g q=!((p++g).any fun x=>decide (x.proc=q))):=by show _=_;simp only[CQ,decide_eq_true hq,Bool.true_and]
    generalize ((p++g).any fun x=>decide (x.proc=q))=od at aB ⊢;clear b6 aq F H K L;go_wp2_with fail
    go_ret2
    exact ai.o _ _ aL.o (by rw[K1.o,aB.o];rfl)
   ·have HM:Hq (CQ p g q=false):=by show _=_;simp[CQ,hq]
    go_wp2_with fail
    go_ret2
    exact ai.o _ _ r.o (by rw[K1.o,HM.o];rfl)
def Cb(n:Int)(d:List Int)(p g:List Wt)(q r v:Int):List Int×List Wt×List Wt×Bool×Int×Int:=
 if(Ci n d p g && CQ p g q)=false then(d,p,g,false,-1,2) else match g with
  |x::m=>(d,p,m,true,x.proc,0)
  | []=>if(d.length:Int)<n then(d++ [v],p,[],true,-1,0) else(d,Cl p ⟨q,r,v⟩,[],false,-1,0)
def getBu(n:Int)(d:List Int)(p g:List Wt)(q r:Int):List Int×List Wt×List Wt×Int×Bool×Int×Int:=
 if(Ci n d p g && CQ p g q)=false then(d,p,g,0,false,-1,2) else match d with
  | []=>([],p,Cl g ⟨q,r,0⟩,0,false,-1,0)
  |y::t=>match p with
   |x::m=>(t++ [x.val],m,g,y,true,x.proc,0)
   | []=>(t,[],g,y,true,-1,0)
section
variable {n:Int} {d t:List Int} {p g m:List Wt} {q r v y:Int} {x:Wt}
def PW(h:(Ci n d p g && CQ p g q)=false):Cb n d p g q r v=(d,p,g,false,-1,2):=by simp only[Cb,h,if_pos]
def Qb(h:(Ci n d p g && CQ p g q)=true)(a:g=x::m):Cb n d p g q r v=(d,p,m,true,x.proc,0):=by subst a;simp only[Cb,h];rfl
def PY(h:(Ci n d p g && CQ p g q)=true)(a:g=[])(b:(d.length:Int)<n):Cb n d p g q r v=(d++ [v],p,[],true,-1,0):=by subst a;simp[Cb,h,b]
def Qa(h:(Ci n d p g && CQ p g q)=true)(a:g=[])(b:¬(d.length:Int)<n):Cb n d p g q r v=(d,Cl p ⟨q,r,v⟩,[],false,-1,0):=by subst a;simp[Cb,h,b]
def OI(h:(Ci n d p g && CQ p g q)=false):getBu n d p g q r=(d,p,g,0,false,-1,2):=by simp only[getBu,h,if_pos]
def OL(h:(Ci n d p g && CQ p g q)=true)(a:d=[]):getBu n d p g q r=([],p,Cl g ⟨q,r,0⟩,0,false,-1,0):=by subst a;simp only[getBu,h];rfl
def OM(h:(Ci n d p g && CQ p g q)=true)(a:d=y::t)(b:p=x::m):getBu n d p g q r=(t++ [x.val],m,g,y,true,x.proc,0):=by subst a;subst b;simp only[getBu,h];rfl
def OJ(h:(Ci n d p g && CQ p g q)=true)(a:d=y::t)(b:p=[]):getBu n d p g q r=(t,[],g,y,true,-1,0):=by subst a;subst b;simp only[getBu,h];rfl
end
def NJ(w:bG)(n:Int)(d:List Int)(p g:List Wt)(f h i:bF)(e:Ending)(w':bG):Prop:=∃ a c b,e=.returned (.tuple #[.agg #[I J n,a,c,b],f,h,i])∧AA w' w.heap.size a d∧Ax w' w.heap.size c p∧Ax w' w.heap.size b g∧Bl w w'
def NK(w:bG)(n:Int)(d:List Int)(p g:List Wt)(f h i j:bF)(e:Ending)(w':bG):Prop:=∃ a c b,e=.returned (.tuple #[.agg #[I J n,a,c,b],f,h,i,j])∧AA w' w.heap.size a d∧Ax w' w.heap.size c p∧Ax w' w.heap.size b g∧Bl w w'
def Df(W:bG)(g:Nat)(a b c d:bF):bG:=(((W.setCell ⟨g,0,O⟩ a).setCell ⟨g,1,O⟩ b).setCell ⟨g,2,O⟩ c).setCell ⟨g,3,O⟩ d
def Ty.Df{w:bG}{B sz n g:Nat}{t k:cm}{v:bF}{l:List bF}{m o p q:bF}(h:Ty w B t sz v n l)(j:w.heap[g]? =Z (T #[m,o,p,q] k (0,0)))(e:k≠t)(a b c d:bF):Ty (Df w g a b c d) B t sz v n l:=by
 have f:=(I4 j a).1;have i:=(I4 f b).2.1;have r:=(I4 i c).2.2.1;exact(((h.set j e).set f e).set i e).set r e
def Yi{w W:bG}{B g:Nat}(h:Below B w W)(e:B≤g)(a b c d:bF):Below B w (Df W g a b c d):=
 (((h.setCell (p:=⟨g,0,O⟩) e a).setCell (p:=⟨g,1,O⟩) e b).setCell (p:=⟨g,2,O⟩) e c).setCell (p:=⟨g,3,O⟩) e d
structure AM(w W:bG)(n0:Int)(d0 p0 g0:bF)(gb:Nat)(n:Int)(vd vp vg:bF)(d:List Int)(p g:List Wt):Prop where
 arg:W.heap[w.heap.size]? =Z (T #[I J n0,d0,p0,g0] 111 (0,0))
 res:W.heap[w.heap.size+1]? =Z (T #[I J 0,Y O 0 0,Y O 0 0,Y O 0 0] 111 (0,0))
 ge:w.heap.size+2≤gb
 obj:W.heap[gb]? =Z (T #[I J n,vd,vp,vg] 261 (0,0))
 td:AA W (w.heap.size+2) vd d
 tp:Ax W (w.heap.size+2) vp p
 tg:Ax W (w.heap.size+2) vg g
 bel:Bl w W
section
variable {w W W':bG} {n0 n:Int} {d0 p0 g0 vd vp vg v':bF} {gb:Nat} {d d':List Int} {p g p' g':List Wt}
def AM.next(m:AM w W n0 d0 p0 g0 gb n vd vp vg d p g)(a:Bl W W'):AM w W' n0 d0 p0 g0 gb n vd vp vg d p g:=
 ⟨(a.block _ (Aa m.arg)).trans m.arg,(a.block _ (Aa m.res)).trans m.res,m.ge,(a.block _ (Aa m.obj)).trans m.obj,Ty.below m.td a,Ty.below m.tp a,Ty.below m.tg a,m.bel.trans (a.mono m.bel.size)⟩
def AM.drew(m:AM w W n0 d0 p0 g0 gb n vd vp vg d p g):AM w W.drew n0 d0 p0 g0 gb n vd vp vg d p g:=⟨m.arg,m.res,m.ge,m.obj,m.td,m.tp,m.tg,m.bel.drew⟩
def AM.drewN(m:AM w W n0 d0 p0 g0 gb n vd vp vg d p g)(k:Nat):AM w (W.drewN k) n0 d0 p0 g0 gb n vd vp vg d p g:=⟨m.arg,m.res,m.ge,m.obj,m.td,m.tp,m.tg,JO m.bel k⟩
def AM.alloc(m:AM w W n0 d0 p0 g0 gb n vd vp vg d p g)(o:Obj):AM w (W.alloc o) n0 d0 p0 g0 gb n vd vp vg d p g:=m.next ((bM _ _).alloc (bH _) _)
def AM.set{j:Nat}{u a c b:bF}(m:AM w W n0 d0 p0 g0 gb n vd vp vg d p g)(i:(W.setCell ⟨gb,j,O⟩ u).heap[gb]? =Z (T #[I J n,a,c,b] 261 (0,0)))(e:AA W (w.heap.size+2) a d')(f:Ax W (w.heap.size+2) c p')(h:Ax W (w.heap.size+2) b g'):AM w (W.setCell ⟨gb,j,O⟩ u) n0 d0 p0 g0 gb n a c b d' p' g':=by
 have k:=m.ge;exact⟨(cE _ _ _ _ (by show w.heap.size≠gb;omega)).trans m.arg,(cE _ _ _ _ (by show w.heap.size+1≠gb;omega)).trans m.res,m.ge,i,Ty.set e m.obj (by decide),Ty.set f m.obj (by decide),Ty.set h m.obj (by decide),m.bel.setCell (p:=⟨gb,j,O⟩) (by show _≤gb;omega) u⟩
def AM.Lm(m:AM w W n0 d0 p0 g0 gb n vd vp vg d p g)(h:AA W (w.heap.size+2) v' d'):AM w (W.setCell ⟨gb,1,O⟩ v') n0 d0 p0 g0 gb n v' vp vg d' p g:=m.set (I4 m.obj _).2.1 h m.tp m.tg
def AM.Yl(m:AM w W n0 d0 p0 g0 gb n vd vp vg d p g)(h:Ax W (w.heap.size+2) v' p'):AM w (W.setCell ⟨gb,2,O⟩ v') n0 d0 p0 g0 gb n vd v' vg d p' g:=m.set (I4 m.obj _).2.2.1 m.td h m.tg
def AM.Yk(m:AM w W n0 d0 p0 g0 gb n vd vp vg d p g)(h:Ax W (w.heap.size+2) v' g'):AM w (W.setCell ⟨gb,3,O⟩ v') n0 d0 p0 g0 gb n vd vp v' d p g':=m.set (I4 m.obj _).2.2.2 m.td m.tp h
def AM.sz(m:AM w W n0 d0 p0 g0 gb n vd vp vg d p g):w.heap.size+2≤W.heap.size:=by have a:=m.ge;have b:=Aa m.obj;omega
def AM.Ux(m:AM w W n0 d0 p0 g0 gb n vd vp vg d p g)(c:W'.heap[gb]? =Z (T ((#[I J n,vd,vp,vg]:Array bF).setIfInBounds 3 v') 261 (0,0)))(f:Ax W' (w.heap.size+2) v' g')(a:W.grownBy W' (Z gb)):AM w W' n0 d0 p0 g0 gb n vd vp v' d p g':=by
 have h:=m.ge;exact⟨(a.block _ (Aa m.arg) (by intro e;cases e;omega)).trans m.arg,(a.block _ (Aa m.res) (by intro e;cases e;omega)).trans m.res,m.ge,c,Ty.grown m.td a m.obj (by decide),Ty.grown m.tp a m.obj (by decide),f,m.bel.grown a m.bel.size (fun b e=>by cases e;omega)⟩
def AM.O9(m:AM w W n0 d0 p0 g0 gb n vd vp vg d p g)(c:W'.heap[gb]? =Z (T ((#[I J n,vd,vp,vg]:Array bF).setIfInBounds 2 v') 261 (0,0)))(f:Ax W' (w.heap.size+2) v' p')(a:W.grownBy W' (Z gb)):AM w W' n0 d0 p0 g0 gb n vd v' vg d p' g:=by
 have h:=m.ge;exact⟨(a.block _ (Aa m.arg) (by intro e;cases e;omega)).trans m.arg,(a.block _ (Aa m.res) (by intro e;cases e;omega)).trans m.res,m.ge,c,Ty.grown m.td a m.obj (by decide),f,Ty.grown m.tg a m.obj (by decide),m.bel.grown a m.bel.size (fun b e=>by cases e;omega)⟩
def AM.store{e:Ending}(m:AM w W n0 d0 p0 g0 gb n vd vp vg d p g)(h:LL W gb n vp vg (w.heap.size+2) d' e W'):∃ v',e=.returned (.tuple #[])∧AM w W' n0 d0 p0 g0 gb n v' vp vg d' p g:=by
 obtain⟨v',k,l,o,j,r,f⟩:=h;have q:=m.ge;have i:∀ (b:Nat) (a:Array bF),W.heap[b]? =Z (Obj.cells a 161 (0,0))→W'.heap[b]? =Z (Obj.cells a 161 (0,0)):=fun b a c=>f b a _ _ (by
  rintro rfl;rw[m.obj] at c;simp only[cQ,dq] at c;exact absurd c.2.1 (by decide)) c (by decide)
 exact⟨v',k,f _ _ _ _ (by omega) m.arg (by decide),f _ _ _ _ (by omega) m.res (by decide),m.ge,l,o,Ty.Ag m.tp i,Ty.Ag m.tg i,m.bel.trans (j.mono (by omega))⟩
def AM.last(m:AM w W n0 d0 p0 g0 gb n vd vp vg d p g)(a b c e:bF):AA (Df W (w.heap.size+1) a b c e) w.heap.size vd d∧Ax (Df W (w.heap.size+1) a b c e) w.heap.size vp p∧Ax (Df W (w.heap.size+1) a b c e) w.heap.size vg g∧Bl w (Df W (w.heap.size+1) a b c e):=
 ⟨Ty.mono (Ty.Df m.td m.res (by decide) a b c e) (by omega),Ty.mono (Ty.Df m.tp m.res (by decide) a b c e) (by omega),Ty.mono (Ty.Df m.tg m.res (by decide) a b c e) (by omega),Yi m.bel (by omega) a b c e⟩
def AM.fin(m:AM w W n0 d0 p0 g0 gb n vd vp vg d p g)(f:d=d')(i:p=p')(h:g=g')(a b c e:bF):AA (Df W (w.heap.size+1) a b c e) w.heap.size vd d'∧Ax (Df W (w.heap.size+1) a b c e) w.heap.size vp p'∧Ax (Df W (w.heap.size+1) a b c e) w.heap.size vg g'∧Bl w (Df W (w.heap.size+1) a b c e):=by
 subst f i h;exact m.last a b c e
def AM.Mi(m:AM w W n0 d0 p0 g0 gb n vd vp vg d p g)(k:d=d')(o:p=p')(l:g=g')(a b c e:bF)(X:Obj):AA ((Df W (w.heap.size+1) a b c e).alloc X).drew w.heap.size vd d'∧Ax ((Df W (w.heap.size+1) a b c e).alloc X).drew w.heap.size vp p'∧Ax ((Df W (w.heap.size+1) a b c e).alloc X).drew w.heap.size vg g'∧Bl w ((Df W (w.heap.size+1) a b c e).alloc X).drew:=by
 obtain⟨h,i,j,f⟩:=m.fin k o l a b c e;exact⟨Ty.alloc h X,Ty.alloc i X,Ty.alloc j X,(f.alloc f.size X).drew⟩
def AM.O5(m:AM w W n0 d0 p0 g0 gb n vd vp vg d p g)(k:d=d')(o:p=p')(l:g=g')(a b c e:bF):AA (Df W (w.heap.size+1) a b c e).drew w.heap.size vd d'∧Ax (Df W (w.heap.size+1) a b c e).drew w.heap.size vp p'∧Ax (Df W (w.heap.size+1) a b c e).drew w.heap.size vg g'∧Bl w (Df W (w.heap.size+1) a b c e).drew:=by
 obtain⟨f,h,i,j⟩:=m.fin k o l a b c e;exact⟨Ty.drew f,Ty.drew h,Ty.drew i,j.drew⟩
def AM.new{a:bG}(b:a=(w.alloc (T #[I J n0,d0,p0,g0] 111)).alloc (T #[I J 0,Y O 0 0,Y O 0 0,Y O 0 0] 111))(j:a.heap.size≤gb)(m:W.heap[gb]? =Z (T #[I J n,vd,vp,vg] 261 (0,0)))(f:AA W a.heap.size vd d)(h:Ax W a.heap.size vp p)(i:Ax W a.heap.size vg g)(c:Bl a W):AM w W n0 d0 p0 g0 gb n vd vp vg d p g:=by
 have o:a.heap.size=w.heap.size+2:=by subst b;simp
 have k:a.heap[w.heap.size]? =Z (T #[I J n0,d0,p0,g0] 111 (0,0)):=by subst b;exact(dA _ _ _ (by simp)).trans (b8 w _)
 have l:a.heap[w.heap.size+1]? =Z (T #[I J 0,Y O 0 0,Y O 0 0,Y O 0 0] 111 (0,0)):=by subst b;exact R2 w _ _
 have e:Bl w a:=by subst b;exact((bM _ w).alloc (bH _) _).alloc (by simp) _
 rw[o] at f h i j;exact⟨(c.block _ (by omega)).trans k,(c.block _ (by omega)).trans l,j,m,f,h,i,e.trans (c.mono e.size)⟩
end
def AA.QC{w:bG}{B b d c:Nat}{x:Int}{m l:List Int}(h:AA w B (Y (Z ⟨b,d,O⟩) l.length c) l)(f:l=x::m)(e:c=1):AA w B (Y (Z ⟨b,d,O⟩) 0 0) m:=by
 have a:=h.Nu f e;obtain⟨_,cap,g,i,_⟩:=h;simp only[cP] at g;rw[show l.length-1=0 by omega] at a;exact a
def AA.head{w:bG}{B:Nat}{a:Option dB}{c:Nat}{y:Int}{t l:List Int}(h:AA w B (Y a l.length c) l)(i:l=y::t):∃ b d,a=Z ⟨b,d,O⟩∧1≤l.length∧l.length≤c∧b<w.heap.size∧w.cell? ⟨b,d,O⟩=Z (I U y):=by
 subst i;obtain⟨m,cap,g,e,o,p,j⟩:=h;simp only[cP] at g;obtain⟨rfl,_,rfl⟩:=g;obtain⟨b,d,n,rfl,q,f,r,k⟩:=j (by simp at e;omega);refine⟨b,d,rfl,by simp,e,Aa f,?_⟩;rw[cN w _ _ _ _ _ f];exact k 0 _ rfl
def MH{α:Type}(l:List α):l=[]∨∃ x m,l=x::m:=by
 cases l with
 |nil=>exact .inl rfl
 |cons x m=>exact .inr ⟨x,m,rfl⟩
def Yj(n:Int)(q r v:Int)(vd vp vg:bF)(d:List Int)(p g:List Wt)(w:bG)(hd:Af U w 0 vd d)(hp:Al w 0 vp p)(hg:Al w 0 vg g)(wp:Ck p)(wg:Ck g)(az:d.length≤40000)(aB:p.length≤40000)(aA:g.length≤40000):
  ct prog 123 #[.agg #[I J n,vd,vp,vg],I J q,I J r,I U v] w (NJ w n (Cb n d p g q r v).1 (Cb n d p g q r v).2.1 (Cb n d p g q r v).2.2.1 (.bool (Cb n d p g q r v).2.2.2.1) (I J (Cb n d p g q r v).2.2.2.2.1) (I J (Cb n d p g q r v).2.2.2.2.2)):=by
 obtain⟨ad,cd,rfl,_,_,_⟩:=hd.open_;obtain⟨ap,cp,rfl,_,_,_⟩:=hp.open_;obtain⟨ag,cg,rfl,_,_,_⟩:=hg.open_;obtain⟨W0,aD⟩:=ex ((w.alloc (T #[I J n,Y ad d.length cd,Y ap p.length cp,Y ag g.length cg] 111)).alloc (T #[I J 0,Y O 0 0,Y O 0 0,Y O 0 0] 111));have B0:Hq (Bl w W0):=by subst aD;exact((bM _ w).alloc (bH _) _).alloc (by simp) _
 obtain⟨HD,HP,HG,WP,WG,af⟩:=H6 (hd.below B0.o) (hp.below B0.o) (hg.below B0.o) wp wg aD;clear hd hp hg wp wg aD;cases k1:(Ci n d p g && CQ p g q) with
 |false=>
  rw[PW k1];have K1:=HH k1;clear k1;go_enter func123,ntmps123;go_wp2_with fail;rw[←af.o];refine(Ht n q _ _ _ d p g W0 HD.o HP.o HG.o WP.o WG.o az aB aA).mono ?_;rintro e w1 ⟨b,aK,aM,aL,rfl,c,ab,k,s,l,b1⟩;obtain⟨a1,c1,rfl⟩:=Ty.shape k;obtain⟨a2,c2,rfl⟩:=Ty.shape s;obtain⟨a3,c3,rfl⟩:=Ty.shape l;rw[K1.o];have a:=HH (AM.new af.o c ab k s l b1);clear c ab k s l b1;obtain⟨M,N,P,Q,R,S,V,W⟩:=Az a.o.arg;obtain⟨i,j,r2,r3,r4,r5,r6,r7⟩:=Az a.o.res;obtain⟨D,u,E,y,F,H,K,L⟩:=Az a.o.obj;have z:=Aa a.o.arg;have t:=Aa a.o.res;have C:=Aa a.o.obj;have c:=a.o.ge;have A:b≠w.heap.size+1:=by omega
  have B:w.heap.size+1≠b:=by omega
  go_wp2_with fail;refine ce (v:=.tuple #[.agg #[I J n,Y a1 d.length c1,Y a2 p.length c2,Y a3 g.length c3],.bool false,I J (-1),I J 2]) (by simp[cL,results123,go_sem,i,j,r2,r3]) rfl ?_;exact⟨_,_,_,rfl,a.o.last _ _ _ _⟩
 |true=>
  have K1:=HH k1;rcases MH g with aP|⟨x,m,aQ⟩
  ·have ai:=HH aP;clear aP;by_cases hl:(d.length:Int)<n
   ·rw[PY k1 ai.o hl];clear k1;go_enter func123,ntmps123;go_wp2_with fail;rw[←af.o];refine(Ht n q _ _ _ d p g W0 HD.o HP.o HG.o WP.o WG.o az aB aA).mono ?_;rintro e w1 ⟨b,aK,aM,aL,rfl,c,ab,k,s,l,b1⟩;obtain⟨a1,c1,rfl⟩:=Ty.shape k;obtain⟨a2,c2,rfl⟩:=Ty.shape s;obtain⟨a3,c3,rfl⟩:=Ty.shape l;rw[K1.o];have a:=HH (AM.new af.o c ab k s l b1);clear c ab k s l b1;obtain⟨M,N,P,Q,R,S,V,W⟩:=Az a.o.arg;obtain⟨i,j,r2,r3,r4,r5,r6,r7⟩:=Az a.o.res;obtain⟨D,u,E,y,F,H,K,L⟩:=Az a.o.obj;have z:=Aa a.o.arg;have t:=Aa a.o.res;have C:=Aa a.o.obj;have c:=a.o.ge;have A:b≠w.heap.size+1:=by omega
    have B:w.heap.size+1≠b:=by omega
    go_wp2_with fail;refine(KN b 3 _ (w.heap.size+2) _ w1 a.o.obj rfl (ai.o ▸ a.o.tg)).mono ?_;rintro e w2 ⟨rfl,b2⟩;obtain⟨f,h⟩:=H2 ((a.o.next b2).alloc (T #[I J (-1),I J 0,I U 0] 161)) (a.o.next b2);clear b2 a;clear M N P Q R S V W i j r2 r3 r4 r5 r6 r7 D u E y F H K L z t C c A B;obtain⟨M,N,P,Q,R,S,V,W⟩:=Az h.o.arg;obtain⟨i,j,r2,r3,r4,r5,r6,r7⟩:=Az h.o.res;obtain⟨D,u,E,y,F,H,K,L⟩:=Az h.o.obj;have z:=Aa h.o.arg;have t:=Aa h.o.res;have C:=Aa h.o.obj;have c:=h.o.ge;have A:b≠w.heap.size+1:=by omega
    have B:w.heap.size+1≠b:=by omega
    clear h;go_wp2_with fail
    go_quiet (fail)
    go_wp2_with fail;refine(Ns b n v _ _ _ (w.heap.size+2) d _ (f.o.drewN _).obj (f.o.drewN _).td f.o.ge (by omega)).mono ?_;rintro e w3 hs;obtain⟨v3,rfl,aG⟩:=(f.o.drewN _).store hs;obtain⟨a4,c4,rfl⟩:=Ty.shape aG.td;have X:=HH aG;clear hs aG f;clear M N P Q R S V W i j r2 r3 r4 r5 r6 r7 D u E y F H K L z t C c A B;obtain⟨M,N,P,Q,R,S,V,W⟩:=Az X.o.arg;obtain⟨i,j,r2,r3,r4,r5,r6,r7⟩:=Az X.o.res;obtain⟨D,u,E,y,F,H,K,L⟩:=Az X.o.obj;have z:=Aa X.o.arg;have t:=Aa X.o.res;have C:=Aa X.o.obj;have c:=X.o.ge;have A:b≠w.heap.size+1:=by omega
    have B:w.heap.size+1≠b:=by omega
    generalize (d++ [v]).length=m4 at X u ⊢;go_wp2_with fail;refine ce (v:=.tuple #[.agg #[I J n,Y a4 m4 c4,Y a2 p.length c2,Y a3 g.length c3],.bool true,I J (-1),I J 0]) (by simp[cL,results123,go_sem,i,j,r2,r3]) rfl ?_;exact⟨_,_,_,rfl,X.o.fin rfl rfl ai.o _ _ _ _⟩
   ·rw[Qa k1 ai.o hl];clear k1;go_enter func123,ntmps123;go_wp2_with fail;rw[←af.o];refine(Ht n q _ _ _ d p g W0 HD.o HP.o HG.o WP.o WG.o az aB aA).mono ?_;rintro e w1 ⟨b,aK,aM,aL,rfl,c,ab,k,s,l,b1⟩;obtain⟨a1,c1,rfl⟩:=Ty.shape k;obtain⟨a2,c2,rfl⟩:=Ty.shape s;obtain⟨a3,c3,rfl⟩:=Ty.shape l;rw[K1.o];have a:=HH (AM.new af.o c ab k s l b1);clear c ab k s l b1;obtain⟨M,N,P,Q,R,S,V,W⟩:=Az a.o.arg;obtain⟨i,j,r2,r3,r4,r5,r6,r7⟩:=Az a.o.res;obtain⟨D,u,E,y,F,H,K,L⟩:=Az a.o.obj;have z:=Aa a.o.arg;have t:=Aa a.o.res;have C:=Aa a.o.obj;have c:=a.o.ge;have A:b≠w.heap.size+1:=by omega
    have B:w.heap.size+1≠b:=by omega
    go_wp2_with fail;refine(KN b 3 _ (w.heap.size+2) _ w1 a.o.obj rfl (ai.o ▸ a.o.tg)).mono ?_;rintro e w2 ⟨rfl,b2⟩;obtain⟨f,h⟩:=H2 ((a.o.next b2).alloc (T #[I J (-1),I J 0,I U 0] 161)) (a.o.next b2);clear b2 a;clear M N P Q R S V W i j r2 r3 r4 r5 r6 r7 D u E y F H K L z t C c A B;obtain⟨M,N,P,Q,R,S,V,W⟩:=Az h.o.arg;obtain⟨i,j,r2,r3,r4,r5,r6,r7⟩:=Az h.o.res;obtain⟨D,u,E,y,F,H,K,L⟩:=Az h.o.obj;have z:=Aa h.o.arg;have t:=Aa h.o.res;have C:=Aa h.o.obj;have c:=h.o.ge;have A:b≠w.heap.size+1:=by omega
    have B:w.heap.size+1≠b:=by omega
    clear h;go_wp2_with fail
    go_quiet (fail)
    go_wp2_with fail;refine(JV _ p ⟨q,r,v⟩ _ (f.o.drewN _).tp.rd (by omega)).mono ?_;rintro e w3 ⟨v3,rfl,aH,aO⟩;obtain⟨a4,c4,rfl⟩:=Bq aH;have ae:=HH ((f.o.drewN _).next aO);have X:=HH (ae.o.Yl (Ty.mono (Ty.Bw aH) (f.o.drewN _).sz));clear aH aO f;clear M N P Q R S V W i j r2 r3 r4 r5 r6 r7 D u E y F H K L z t C c A B;obtain⟨M,N,P,Q,R,S,V,W⟩:=Az ae.o.arg;obtain⟨i,j,r2,r3,r4,r5,r6,r7⟩:=Az ae.o.res;obtain⟨D,u,E,y,F,H,K,L⟩:=Az ae.o.obj;have z:=Aa ae.o.arg;have t:=Aa ae.o.res;have C:=Aa ae.o.obj;have c:=ae.o.ge;have A:b≠w.heap.size+1:=by omega
    have B:w.heap.size+1≠b:=by omega
    clear ae;generalize (Cl p ⟨q,r,v⟩).length=m4 at X ⊢;go_wp2_with fail;refine ce (v:=.tuple #[.agg #[I J n,Y a1 d.length c1,Y a4 m4 c4,Y a3 g.length c3],.bool false,I J (-1),I J 0]) (by simp[cL,results123,go_sem,i,j,r2,r3]) rfl ?_;exact⟨_,_,_,rfl,X.o.fin rfl rfl ai.o _ _ _ _⟩
  ·have aN:=HH aQ;clear aQ;rw[Qb k1 aN.o];clear k1;go_enter func123,ntmps123;go_wp2_with fail;rw[←af.o];refine(Ht n q _ _ _ d p g W0 HD.o HP.o HG.o WP.o WG.o az aB aA).mono ?_;rintro e w1 ⟨b,aK,aM,aL,rfl,c,ab,k,s,l,b1⟩;obtain⟨a1,c1,rfl⟩:=Ty.shape k;obtain⟨a2,c2,rfl⟩:=Ty.shape s;obtain⟨a3,c3,rfl⟩:=Ty.shape l;rw[K1.o];have a:=HH (AM.new af.o c ab k s l b1);clear c ab k s l b1;obtain⟨M,N,P,Q,R,S,V,W⟩:=Az a.o.arg;obtain⟨i,j,r2,r3,r4,r5,r6,r7⟩:=Az a.o.res;obtain⟨D,u,E,y,F,H,K,L⟩:=Az a.o.obj;have z:=Aa a.o.arg;have t:=Aa a.o.res;have C:=Aa a.o.obj;have c:=a.o.ge;have A:b≠w.heap.size+1:=by omega
   have B:w.heap.size+1≠b:=by omega
   go_wp2_with fail;refine(Mj b 3 _ (w.heap.size+2) _ x m w1 a.o.obj rfl (aN.o ▸ a.o.tg)).mono ?_;rintro e w2 ⟨v4,rfl,ho,ht,aR⟩;obtain⟨a4,c4,rfl⟩:=Ty.shape ht;have f:=HH (a.o.Ux ho ht aR);clear ho ht aR a;clear M N P Q R S V W i j r2 r3 r4 r5 r6 r7 D u E y F H K L z t C c A B;obtain⟨M,N,P,Q,R,S,V,W⟩:=Az f.o.arg;obtain⟨i,j,r2,r3,r4,r5,r6,r7⟩:=Az f.o.res;obtain⟨D,u,E,y,F,H,K,L⟩:=Az f.o.obj;have z:=Aa f.o.arg;have t:=Aa f.o.res;have C:=Aa f.o.obj;have c:=f.o.ge;have A:b≠w.heap.size+1:=by omega
   have B:w.heap.size+1≠b:=by omega
   generalize m.length=m4 at f y ⊢;go_wp2_with fail
   go_region
   all_goals
    go_wp2_with fail;refine ce (v:=.tuple #[.agg #[I J n,Y a1 d.length c1,Y a2 p.length c2,Y a4 m4 c4],.bool true,I J x.proc,I J 0]) (by simp[cL,results123,go_sem,i,j,r2,r3,t]) rfl ?_;exact⟨_,_,_,rfl,f.o.Mi rfl rfl rfl _ _ _ _ _⟩
def Uz(n:Int)(q r:Int)(vd vp vg:bF)(d:List Int)(p g:List Wt)(w:bG)(hd:Af U w 0 vd d)(hp:Al w 0 vp p)(hg:Al w 0 vg g)(wp:Ck p)(wg:Ck g)(aO:d.length≤40000)(aQ:p.length≤40000)(aP:g.length≤40000):
  ct prog 124 #[.agg #[I J n,vd,vp,vg],I J q,I J r] w (NK w n (getBu n d p g q r).1 (getBu n d p g q r).2.1 (getBu n d p g q r).2.2.1 (I U (getBu n d p g q r).2.2.2.1) (.bool (getBu n d p g q r).2.2.2.2.1) (I J (getBu n d p g q r).2.2.2.2.2.1) (I J (getBu n d p g q r).2.2.2.2.2.2)):=by
 obtain⟨ad,cd,rfl,_,_,_⟩:=hd.open_;obtain⟨ap,cp,rfl,_,_,_⟩:=hp.open_;obtain⟨ag,cg,rfl,_,_,_⟩:=hg.open_;obtain⟨W0,aV⟩:=ex ((w.alloc (T #[I J n,Y ad d.length cd,Y ap p.length cp,Y ag g.length cg] 111)).alloc (T #[I J 0,Y O 0 0,Y O 0 0,Y O 0 0] 111));have B0:Hq (Bl w W0):=by subst aV;exact((bM _ w).alloc (bH _) _).alloc (by simp) _
 obtain⟨HD,HP,HG,WP,WG,al⟩:=H6 (hd.below B0.o) (hp.below B0.o) (hg.below B0.o) wp wg aV;clear hd hp hg wp wg aV;cases k1:(Ci n d p g && CQ p g q) with
 |false=>
  rw[OI k1];have K1:=HH k1;clear k1;go_enter func124,ntmps124;go_wp2_with fail;rw[←al.o];refine(Ht n q _ _ _ d p g W0 HD.o HP.o HG.o WP.o WG.o aO aQ aP).mono ?_;rintro e w1 ⟨c,a8,ba,a9,rfl,f,af,X,ab,aa,b1⟩;obtain⟨a1,c1,rfl⟩:=Ty.shape X;obtain⟨a2,c2,rfl⟩:=Ty.shape ab;obtain⟨a3,c3,rfl⟩:=Ty.shape aa;rw[K1.o];have a:=HH (AM.new al.o f af X ab aa b1);clear f af X ab aa b1;obtain⟨M,N,P,Q,R,S,V,W⟩:=Az a.o.arg;obtain⟨h,i,r2,r3,r4,r5,r6,r7⟩:=Az a.o.res;obtain⟨D,s,u,E,F,H,K,L⟩:=Az a.o.obj;have z:=Aa a.o.arg;have l:=Aa a.o.res;have C:=Aa a.o.obj;have f:=a.o.ge;have A:c≠w.heap.size+1:=by omega
  have B:w.heap.size+1≠c:=by omega
  go_wp2_with fail;refine ce (v:=.tuple #[.agg #[I J n,Y a1 d.length c1,Y a2 p.length c2,Y a3 g.length c3],I U 0,.bool false,I J (-1),I J 2]) (by simp[cL,results124,go_sem,h,i,r2,r3]) rfl ?_;exact⟨_,_,_,rfl,a.o.last _ _ _ _⟩
 |true=>
  have K1:=HH k1;rcases MH d with aN|⟨y,t,ar⟩
  ·have bc:=HH aN;have hz:(d.length==0)=true:=by simp[aN]
   have bD:((d.length:Int)==0)=true:=by simp[aN]
   rw[OL k1 bc.o];clear k1 aN;go_enter func124,ntmps124;go_wp2_with fail;rw[←al.o];refine(Ht n q _ _ _ d p g W0 HD.o HP.o HG.o WP.o WG.o aO aQ aP).mono ?_;rintro e w1 ⟨c,a8,ba,a9,rfl,f,af,X,ab,aa,b1⟩;obtain⟨a1,c1,rfl⟩:=Ty.shape X;obtain⟨a2,c2,rfl⟩:=Ty.shape ab;obtain⟨a3,c3,rfl⟩:=Ty.shape aa;rw[K1.o];have a:=HH (AM.new al.o f af X ab aa b1);clear f af X ab aa b1;obtain⟨M,N,P,Q,R,S,V,W⟩:=Az a.o.arg;obtain⟨h,i,r2,r3,r4,r5,r6,r7⟩:=Az a.o.res;obtain⟨D,s,u,E,F,H,K,L⟩:=Az a.o.obj;have z:=Aa a.o.arg;have l:=Aa a.o.res;have C:=Aa a.o.obj;have f:=a.o.ge;have A:c≠w.heap.size+1:=by omega
   have B:w.heap.size+1≠c:=by omega
   go_wp2_with fail;refine(JV _ g ⟨q,r,0⟩ _ a.o.tg.rd (by omega)).mono ?_;rintro e w3 ⟨v3,rfl,aY,be⟩;obtain⟨a4,c4,rfl⟩:=Bq aY;have ak:=HH (a.o.next be);have b:=HH (ak.o.Yk (Ty.mono (Ty.Bw aY) a.o.sz));clear aY be a;clear M N P Q R S V W h i r2 r3 r4 r5 r6 r7 D s u E F H K L z l C f A B;obtain⟨M,N,P,Q,R,S,V,W⟩:=Az ak.o.arg;obtain⟨h,i,r2,r3,r4,r5,r6,r7⟩:=Az ak.o.res;obtain⟨D,s,u,E,F,H,K,L⟩:=Az ak.o.obj;have z:=Aa ak.o.arg;have l:=Aa ak.o.res;have C:=Aa ak.o.obj;have f:=ak.o.ge;have A:c≠w.heap.size+1:=by omega
   have B:w.heap.size+1≠c:=by omega
   clear ak;generalize (Cl g ⟨q,r,0⟩).length=m4 at b ⊢;go_wp2_with fail;refine ce (v:=.tuple #[.agg #[I J n,Y a1 d.length c1,Y a2 p.length c2,Y a4 m4 c4],I U 0,.bool false,I J (-1),I J 0]) (by simp[cL,results124,go_sem,h,i,r2,r3]) rfl ?_;exact⟨_,_,_,rfl,b.o.fin bc.o rfl rfl _ _ _ _⟩
  ·have aj:=HH ar;have hz:(d.length==0)=false:=by simp[ar]
   have bD:((d.length:Int)==0)=false:=by rw[beq_eq_false_iff_ne];have:=congrArg dN ar;simp at this;omega
   clear ar;have bJ:t.length≤40000:=by have:=congrArg dN aj.o;simp at this;omega
   rcases MH p with bf|⟨x,m,bg⟩
   ·have au:=HH bf;clear bf;rw[OJ k1 aj.o au.o];clear k1;go_enter func124,ntmps124;go_wp2_with fail;rw[←al.o];refine(Ht n q _ _ _ d p g W0 HD.o HP.o HG.o WP.o WG.o aO aQ aP).mono ?_;rintro e w1 ⟨c,a8,ba,a9,rfl,f,af,X,ab,aa,b1⟩;obtain⟨a1,c1,rfl⟩:=Ty.shape X;obtain⟨a2,c2,rfl⟩:=Ty.shape ab;obtain⟨a3,c3,rfl⟩:=Ty.shape aa;rw[K1.o];have a:=HH (AM.new al.o f af X ab aa b1);clear f af X ab aa b1;obtain⟨M,N,P,Q,R,S,V,W⟩:=Az a.o.arg;obtain⟨h,i,r2,r3,r4,r5,r6,r7⟩:=Az a.o.res;obtain⟨D,s,u,E,F,H,K,L⟩:=Az a.o.obj;have z:=Aa a.o.arg;have l:=Aa a.o.res;have C:=Aa a.o.obj;have f:=a.o.ge;have A:c≠w.heap.size+1:=by omega
    have B:w.heap.size+1≠c:=by omega
    obtain⟨bd,a7,rfl,ar,bt,bu,y0⟩:=a.o.td.head aj.o;have bw:(1:Int)≤(d.length:Int):=by omega
    have bx:(d.length:Int)≤(c1:Int):=by omega
    have bz:(0:Int)<(d.length:Int):=by omega
    by_cases aB:c1=1
    ·subst aB;have j:=HH (a.o.Lm (a.o.td.QC aj.o rfl));go_wp2_with fail;refine(KN c 2 _ (w.heap.size+2) _ _ j.o.obj rfl (au.o ▸ j.o.tp)).mono ?_;rintro e w2 ⟨rfl,b2⟩;have b:=HH (j.o.next b2);clear b2 a j y0;clear M N P Q R S V W h i r2 r3 r4 r5 r6 r7 D s u E F H K L z l C f A B;obtain⟨M,N,P,Q,R,S,V,W⟩:=Az b.o.arg;obtain⟨h,i,r2,r3,r4,r5,r6,r7⟩:=Az b.o.res;obtain⟨D,s,u,E,F,H,K,L⟩:=Az b.o.obj;have z:=Aa b.o.arg;have l:=Aa b.o.res;have C:=Aa b.o.obj;have f:=b.o.ge;have A:c≠w.heap.size+1:=by omega
     have B:w.heap.size+1≠c:=by omega
     go_wp2_with fail
     go_region
     all_goals
      go_wp2_with fail;refine ce (v:=.tuple #[.agg #[I J n,Y (Z ⟨bd,a7,O⟩) 0 0,Y a2 p.length c2,Y a3 g.length c3],I U y,.bool true,I J (-1),I J 0]) (by simp[cL,results124,go_sem,h,i,r2,r3,l]) rfl ?_;exact⟨_,_,_,rfl,b.o.Mi rfl au.o rfl _ _ _ _ _⟩
    ·have j:=HH (a.o.Lm (a.o.td.L5 aj.o aB));go_wp2_with fail;refine(KN c 2 _ (w.heap.size+2) _ _ j.o.obj rfl (au.o ▸ j.o.tp)).mono ?_;rintro e w2 ⟨rfl,b2⟩;have b:=HH (j.o.next b2);clear b2 a j y0;clear M N P Q R S V W h i r2 r3 r4 r5 r6 r7 D s u E F H K L z l C f A B;obtain⟨M,N,P,Q,R,S,V,W⟩:=Az b.o.arg;obtain⟨h,i,r2,r3,r4,r5,r6,r7⟩:=Az b.o.res;obtain⟨D,s,u,E,F,H,K,L⟩:=Az b.o.obj;have z:=Aa b.o.arg;have l:=Aa b.o.res;have C:=Aa b.o.obj;have f:=b.o.ge;have A:c≠w.heap.size+1:=by omega
     have B:w.heap.size+1≠c:=by omega
     go_wp2_with fail
     go_region
     all_goals
      go_wp2_with fail;refine ce (v:=.tuple #[.agg #[I J n,Y (Z ⟨bd,a7+1,O⟩) (d.length-1) (c1-1),Y a2 p.length c2,Y a3 g.length c3],I U y,.bool true,I J (-1),I J 0]) (by simp[cL,results124,go_sem,h,i,r2,r3,l]) rfl ?_;exact⟨_,_,_,rfl,b.o.Mi rfl au.o rfl _ _ _ _ _⟩
   ·have aS:=HH bg;clear bg;rw[OM k1 aj.o aS.o];clear k1;go_enter func124,ntmps124;go_wp2_with fail;rw[←al.o];refine(Ht n q _ _ _ d p g W0 HD.o HP.o HG.o WP.o WG.o aO aQ aP).mono ?_;rintro e w1 ⟨c,a8,ba,a9,rfl,f,af,X,ab,aa,b1⟩;obtain⟨a1,c1,rfl⟩:=Ty.shape X;obtain⟨a2,c2,rfl⟩:=Ty.shape ab;obtain⟨a3,c3,rfl⟩:=Ty.shape aa;rw[K1.o];have a:=HH (AM.new al.o f af X ab aa b1);clear f af X ab aa b1;obtain⟨M,N,P,Q,R,S,V,W⟩:=Az a.o.arg;obtain⟨h,i,r2,r3,r4,r5,r6,r7⟩:=Az a.o.res;obtain⟨D,s,u,E,F,H,K,L⟩:=Az a.o.obj;have z:=Aa a.o.arg;have l:=Aa a.o.res;have C:=Aa a.o.obj;have f:=a.o.ge;have A:c≠w.heap.size+1:=by omega
    have B:w.heap.size+1≠c:=by omega
    obtain⟨bd,a7,rfl,ar,bt,bu,y0⟩:=a.o.td.head aj.o;have bw:(1:Int)≤(d.length:Int):=by omega
    have bx:(d.length:Int)≤(c1:Int):=by omega
    have bz:(0:Int)<(d.length:Int):=by omega
    by_cases aB:c1=1
    ·subst aB;have j:=HH (a.o.Lm (a.o.td.QC aj.o rfl));go_wp2_with fail;refine(Mj c 2 _ (w.heap.size+2) _ x m _ j.o.obj rfl (aS.o ▸ j.o.tp)).mono ?_;rintro e w2 ⟨v4,rfl,ho,ht,aC⟩;obtain⟨a4,c4,rfl⟩:=Ty.shape ht;have b:=HH (j.o.O9 ho ht aC);clear ho ht aC a j y0;clear M N P Q R S V W h i r2 r3 r4 r5 r6 r7 D s u E F H K L z l C f A B;obtain⟨M,N,P,Q,R,S,V,W⟩:=Az b.o.arg;obtain⟨h,i,r2,r3,r4,r5,r6,r7⟩:=Az b.o.res;obtain⟨D,s,u,E,F,H,K,L⟩:=Az b.o.obj;have z:=Aa b.o.arg;have l:=Aa b.o.res;have C:=Aa b.o.obj;have f:=b.o.ge;have A:c≠w.heap.size+1:=by omega
     have B:w.heap.size+1≠c:=by omega
     obtain⟨ac,V3⟩:=H2 (b.o.alloc (T #[I J x.proc,I J x.prio,I U x.val] 161)) (b8 w2 (T #[I J x.proc,I J x.prio,I U x.val] 161));have a0:w2.heap.size≠c:=by omega
     have bA:w2.heap.size≠w.heap.size+1:=by omega
     generalize m.length=m4 at b ac u ⊢;go_upto_region 11 with (fail)
     go_region_with (go_at_call 162;refine(Ns c n x.val _ _ _ (w.heap.size+2) t _ ac.o.drew.obj ac.o.drew.td ac.o.ge (by omega)).mono ?_;rintro e w3 hs;obtain⟨v5,rfl,ao⟩:=ac.o.drew.store hs;obtain⟨_,_,_,_,_,_,hk⟩:=hs;have V4:=HH (hk w2.heap.size _ _ _ a0 V3.o (by decide));obtain⟨a5,c5,rfl⟩:=Ty.shape ao.td;have k:=HH ao;clear ao hk)
     all_goals
      clear b ac V3;clear M N P Q R S V W h i r2 r3 r4 r5 r6 r7 D s u E F H K L z l C f A B;obtain⟨M,N,P,Q,R,S,V,W⟩:=Az k.o.arg;obtain⟨h,i,r2,r3,r4,r5,r6,r7⟩:=Az k.o.res;obtain⟨D,s,u,E,F,H,K,L⟩:=Az k.o.obj;have z:=Aa k.o.arg;have l:=Aa k.o.res;have C:=Aa k.o.obj;have f:=k.o.ge;have A:c≠w.heap.size+1:=by omega
      have B:w.heap.size+1≠c:=by omega
      obtain⟨v0,v1,v2,_,_,_⟩:=Aj V4.o;have bB:=Aa V4.o;generalize (t++ [x.val]).length=m5 at k s ⊢;go_wp2_with fail
      go_region
      all_goals
       go_wp2_with fail;refine ce (v:=.tuple #[.agg #[I J n,Y a5 m5 c5,Y a4 m4 c4,Y a3 g.length c3],I U y,.bool true,I J x.proc,I J 0]) (by simp[cL,results124,go_sem,h,i,r2,r3]) rfl ?_;exact⟨_,_,_,rfl,k.o.O5 rfl rfl rfl _ _ _ _⟩
    ·have j:=HH (a.o.Lm (a.o.td.L5 aj.o aB));go_wp2_with fail;refine(Mj c 2 _ (w.heap.size+2) _ x m _ j.o.obj rfl (aS.o ▸ j.o.tp)).mono ?_;rintro e w2 ⟨v4,rfl,ho,ht,aC⟩;obtain⟨a4,c4,rfl⟩:=Ty.shape ht;have b:=HH (j.o.O9 ho ht aC);clear ho ht aC a j y0;clear M N P Q R S V W h i r2 r3 r4 r5 r6 r7 D s u E F H K L z l C f A B;obtain⟨M,N,P,Q,R,S,V,W⟩:=Az b.o.arg;obtain⟨h,i,r2,r3,r4,r5,r6,r7⟩:=Az b.o.res;obtain⟨D,s,u,E,F,H,K,L⟩:=Az b.o.obj;have z:=Aa b.o.arg;have l:=Aa b.o.res;have C:=Aa b.o.obj;have f:=b.o.ge;have A:c≠w.heap.size+1:=by omega
     have B:w.heap.size+1≠c:=by omega
     obtain⟨ac,V3⟩:=H2 (b.o.alloc (T #[I J x.proc,I J x.prio,I U x.val] 161)) (b8 w2 (T #[I J x.proc,I J x.prio,I U x.val] 161));have a0:w2.heap.size≠c:=by omega
     have bA:w2.heap.size≠w.heap.size+1:=by omega
     generalize m.length=m4 at b ac u ⊢;go_upto_region 11 with (fail)
     go_region_with (go_at_call 162;refine(Ns c n x.val _ _ _ (w.heap.size+2) t _ ac.o.drew.obj ac.o.drew.td ac.o.ge (by omega)).mono ?_;rintro e w3 hs;obtain⟨v5,rfl,ao⟩:=ac.o.drew.store hs;obtain⟨_,_,_,_,_,_,hk⟩:=hs;have V4:=HH (hk w2.heap.size _ _ _ a0 V3.o (by decide));obtain⟨a5,c5,rfl⟩:=Ty.shape ao.td;have k:=HH ao;clear ao hk)
     all_goals
      clear b ac V3;clear M N P Q R S V W h i r2 r3 r4 r5 r6 r7 D s u E F H K L z l C f A B;obtain⟨M,N,P,Q,R,S,V,W⟩:=Az k.o.arg;obtain⟨h,i,r2,r3,r4,r5,r6,r7⟩:=Az k.o.res;obtain⟨D,s,u,E,F,H,K,L⟩:=Az k.o.obj;have z:=Aa k.o.arg;have l:=Aa k.o.res;have C:=Aa k.o.obj;have f:=k.o.ge;have A:c≠w.heap.size+1:=by omega
      have B:w.heap.size+1≠c:=by omega
      obtain⟨v0,v1,v2,_,_,_⟩:=Aj V4.o;have bB:=Aa V4.o;generalize (t++ [x.val]).length=m5 at k s ⊢;go_wp2_with fail
      go_region
      all_goals
       go_wp2_with fail;refine ce (v:=.tuple #[.agg #[I J n,Y a5 m5 c5,Y a4 m4 c4,Y a3 g.length c3],I U y,.bool true,I J x.proc,I J 0]) (by simp[cL,results124,go_sem,h,i,r2,r3]) rfl ?_;exact⟨_,_,_,rfl,k.o.O5 rfl rfl rfl _ _ _ _⟩
instance :Inhabited Ai:=⟨⟨0,0,0,0⟩⟩
instance :Inhabited St:=⟨⟨0,0,[]⟩⟩
structure CV where
 kind:Int
 o:Bool
 size:Int
 depth:Int
 At:Int
 deriving DecidableEq,Inhabited
structure Eu where
 prio:Int
 period:Int
 Cf:Int
 code:List Ai
 deriving DecidableEq,Inhabited
structure Ad where
 mem:Int
 semas:List Int
 events:Int
 boards:Int
 bufs:List Int
 Ab:List CV
 procs:List Eu
 deriving DecidableEq,Inhabited
structure BA where
 status:Int
 s:St
 since:Int
 release:Int
 deadline:Int
 why:Int
 on:Int
 deriving DecidableEq,Inhabited
structure Ee where
 data:List Int
 at_:Int
 has:Bool
 deriving DecidableEq,Inhabited
structure AO where
 q:List (List Int)
 wait:List Wt
 lost:Int
 deriving DecidableEq,Inhabited
structure AT where
 depth:Int
 data:List Int
 put:List Wt
 get:List Wt
 deriving DecidableEq,Inhabited
structure BE where
 has:Bool
 val:Int
 wait:List Wt
 deriving DecidableEq,Inhabited
structure BU where
 count:Int
 wait:List Wt
 deriving DecidableEq,Inhabited
structure C3 where
 up:Bool
 wait:List Wt
 deriving DecidableEq,Inhabited
structure Ae where
 mode:Int
 clock:Int
 mem:List Int
 procs:List BA
 samples:List Ee
 queues:List AO
 bufs:List AT
 boards:List BE
 semas:List BU
 events:List C3
 deriving DecidableEq,Inhabited
structure CG where
 proc:Int
 fault:Int
 code:Int
 deriving DecidableEq,Inhabited
def DZ(k:CV)(x:Ee):Bool:=
 k.kind==1 && k.depth==0 && (decide (1≤k.size) && decide (k.size≤64)) && (decide (0≤k.At) && decide (k.At≤1073741824)) &&
 (if x.has then(decide (1≤(x.data.length:Int)) && decide ((x.data.length:Int)≤k.size)) && (decide (0≤x.at_) && decide (x.at_≤1073741824)) else x.data.length==0 && x.at_==0)
def Ff(k:CV)(x:Ee)(now:Int):Bool:=DZ k x && (decide (x.at_≤now) && decide (now≤1073741824))
def writeSa(k:CV)(x:Ee)(now:Int)(m:List Int):Ee×Int:=
 if Ff k x now=false∨m=[] then(x,2) else if k.size<(m.length:Int) then(x,3) else(⟨m,now,true⟩,0)
def DN(k:CV)(x:Ee)(now:Int):List Int×Bool×Int:=
 if Ff k x now=false then([],false,2) else if x.has=false then([],false,6) else(x.data,decide (now-x.at_≤k.At),0)
def EU:BA:=⟨1,⟨0,0,[0,0,0,0]⟩,0,-1,-1,0,0⟩
def Hm(d:Ad)(mode:Int)(s:Ae):Ae:=
 {s with mode:=mode,procs:=ck d.procs.length EU,samples:=ck d.Ab.length ⟨[],0,false⟩,queues:=ck d.Ab.length ⟨[],[],0⟩,bufs:=d.bufs.map fun n=>⟨n,[],[],[]⟩,boards:=ck d.boards.toNat ⟨false,0,[]⟩,semas:=d.semas.map fun n=>⟨n,[]⟩,events:=ck d.events.toNat ⟨false,[]⟩}
def DB(d:Ad):Ae:=Hm d 1 ⟨0,0,ck d.mem.toNat 0,[],[],[],[],[],[],[]⟩
def AO.leave(p:Int)(x:AO):AO:={x with wait:=leaveW x.wait p}
def AT.leave(p:Int)(x:AT):AT:={x with put:=leaveW x.put p,get:=leaveW x.get p}
def BE.leave(p:Int)(x:BE):BE:={x with wait:=leaveW x.wait p}
def BU.leave(p:Int)(x:BU):BU:={x with wait:=leaveW x.wait p}
def C3.leave(p:Int)(x:C3):C3:={x with wait:=leaveW x.wait p}
def CX(p:Int)(s:Ae):Ae:=
 {s with queues:=s.queues.map (AO.leave p),bufs:=s.bufs.map (AT.leave p),boards:=s.boards.map (BE.leave p),semas:=s.semas.map (BU.leave p),events:=s.events.map (C3.leave p)}
def afterI(t n:Int):Int:=if n=0 then-1 else t+n
def FD(d:Ad)(i:Nat)(t:Int)(s:Ae):Ae:=
 let a:=CX i s
 {a with procs:=a.procs.set i ⟨2,⟨0,0,[0,0,0,0]⟩,t,afterI t (d.procs.getD i default).period,afterI t (d.procs.getD i default).Cf,0,0⟩}
def readyR(t:Int)(x:BA):BA:={x with status:=2,since:=t,why:=0,on:=0}
def En(i:Nat)(t:Int)(s:Ae):Ae:={s with procs:=s.procs.set i (readyR t (s.procs.getD i default))}
def Hp(d:Ad)(i:Nat)(data:List Int)(x:BA):BA:={x with s:=DS (d.procs.getD i default).code x.s data}
def Co(d:Ad)(i:Nat)(data:List Int)(s:Ae):Ae:={s with procs:=s.procs.set i (Hp d i data (s.procs.getD i default))}
def CT(d:Ad)(t:Int)(data:List Int)(s:Ae)(i:Int):Ae:=if 0≤i then En i.toNat t (Co d i.toNat data s) else s
def wakeP(d:Ad)(t:Int)(data:List Int)(l:List Int)(s:Ae):Ae:=l.foldl (CT d t data) s
def EL(d:Ad)(s:Ae)(a b:Nat):Bool:=
 if(d.procs.getD a default).prio≠(d.procs.getD b default).prio then decide ((d.procs.getD b default).prio<(d.procs.getD a default).prio) else decide ((s.procs.getD a default).since<(s.procs.getD b default).since)
def CL(d:Ad)(s:Ae)(a:Int)(i:Nat):Int:=if(s.procs.getD i default).status=2∧(a<0∨EL d s i a.toNat=true) then(i:Int) else a
def Hw(d:Ad)(s:Ae):Int:=(bT s.procs.length).foldl (CL d s) (-1)
def Dg(d:Ad)(now:Int)(i:Nat)(x:BA):BA:=
 if x.status=3∧x.why=14∧x.release≤now then {readyR now x with deadline:=afterI x.release (d.procs.getD i default).Cf,release:=x.release+(d.procs.getD i default).period} else x
def Dl(d:Ad)(now:Int)(s:Ae):Ae:={s with procs:=s.procs.mapIdx (Dg d now)}
def GP(now:Int)(x:BA):Bool:=decide (0≤x.deadline) && decide (x.deadline≤now)
def CK(now:Int)(x:BA):BA:=if GP now x then {x with deadline:=-1} else x
def C7(now:Int):Nat→List BA→List CG
 | _,[]=> []
 |i,x::l=>(if GP now x then [⟨i,1,0⟩] else [])++C7 now (i+1) l
def CP(now:Int)(s:Ae):Ae×List CG:=({s with procs:=s.procs.map (CK now)},C7 now 0 s.procs)
section
variable (d:Ad) (i:Nat) (now:Int) (a:Ac) (s:Ae)
def portA:CV:=d.Ab.getD a.a.toNat default
def prioA:Int:=(d.procs.getD i default).prio
def Q9:Ae:={s with mem:=s.mem.set a.a.toNat (a.b%256)}
def quA:AO:=s.queues.getD a.a.toNat default
def EJ:Ae:=
 if(portA d a).kind=1 then {s with samples:=s.samples.set a.a.toNat (writeSa (portA d a) (s.samples.getD a.a.toNat default) now a.data).1}
 else let r:=sendQ (portA d a).kind (portA d a).size (portA d a).depth (portA d a).At (quA a s).q (quA a s).wait (quA a s).lost a.data
  {s with queues:=s.queues.set a.a.toNat ⟨r.1,r.2.1,r.2.2.1⟩}
def Fg:Ae×Bool:=
 if(portA d a).kind=2 then
  let r:=recvQ (portA d a).kind (portA d a).size (portA d a).depth (portA d a).At (quA a s).q (quA a s).wait (quA a s).lost i (prioA d i);let b:={s with queues:=s.queues.set a.a.toNat ⟨r.1,r.2.1,(quA a s).lost⟩}
  if r.2.2.2.1 then(Co d i r.2.2.1 b,true) else(b,false)
 else
  let r:=DN (portA d a) (s.samples.getD a.a.toNat default) now
  (Co d i (if r.2.1=true∧r.2.2=0 then r.1 else []) s,true)
def Ia:BU:=s.semas.getD a.a.toNat default
def J4:Ae×Bool:=
 let r:=Eb (Ia a s).count (Ia a s).wait i (prioA d i)
 ({s with semas:=s.semas.set a.a.toNat ⟨r.1,r.2.1⟩},r.2.2.1)
def Kt:Ae:=
 let r:=Dm (Ia a s).count (Ia a s).wait
 wakeP d now [] [r.2.2.1] {s with semas:=s.semas.set a.a.toNat ⟨r.1,r.2.1⟩}
def EW:C3:=s.events.getD a.a.toNat default
def Kk:Ae:=
 let r:=DC (EW a s).up (EW a s).wait
 wakeP d now [] r.2.2.1 {s with events:=s.events.set a.a.toNat ⟨r.1,r.2.1⟩}
def Kc:Ae:={s with events:=s.events.set a.a.toNat ⟨(Iz (EW a s).up (EW a s).wait).1,(EW a s).wait⟩}
def J2:Ae×Bool:=
 let r:=Es (EW a s).up (EW a s).wait i (prioA d i)
 ({s with events:=s.events.set a.a.toNat ⟨(EW a s).up,r.1⟩},r.2.1)
def buA:AT:=s.bufs.getD a.a.toNat default
def Jn:Ae×Bool:=
 let r:=Cb (buA a s).depth (buA a s).data (buA a s).put (buA a s).get i (prioA d i) (a.data.getD 0 0)
 (wakeP d now a.data [r.2.2.2.2.1] {s with bufs:=s.bufs.set a.a.toNat ⟨(buA a s).depth,r.1,r.2.1,r.2.2.1⟩},r.2.2.2.1)
def Gt:Ae×Bool:=
 let r:=getBu (buA a s).depth (buA a s).data (buA a s).put (buA a s).get i (prioA d i);let b:=wakeP d now [] [r.2.2.2.2.2.1] {s with bufs:=s.bufs.set a.a.toNat ⟨(buA a s).depth,r.1,r.2.1,r.2.2.1⟩}
 if r.2.2.2.2.1 then(Co d i [r.2.2.2.1] b,true) else(b,false)
def boA:BE:=s.boards.getD a.a.toNat default
def Ks:Ae:=
 let r:=Dh (boA a s).has (boA a s).val (boA a s).wait (a.data.getD 0 0)
 wakeP d now a.data r.2.2.2.1 {s with boards:=s.boards.set a.a.toNat ⟨r.1,r.2.1,r.2.2.1⟩}
def Gu:Ae×Bool:=
 let r:=lookBd (boA a s).has (boA a s).val (boA a s).wait i (prioA d i);let b:={s with boards:=s.boards.set a.a.toNat ⟨(boA a s).has,(boA a s).val,r.1⟩}
 if r.2.2.1 then(Co d i [r.2.1] b,true) else(b,false)
def Ky:Ae:=let r:=FN (boA a s).has (boA a s).val (boA a s).wait;{s with boards:=s.boards.set a.a.toNat ⟨r.1,r.2.1,(boA a s).wait⟩}
def stopA:Ae:={s with procs:=s.procs.set i EU}
def nextA:Ae×Bool:=
 if(d.procs.getD i default).period=0 then(stopA i s,true) else({s with procs:=s.procs.set i {s.procs.getD i default with deadline:=-1}},false)
def actA:Ae×Bool:=
 match a.kind with
 |1=>(Q9 a s,true)|2=>(EJ d now a s,true)|3=>Fg d i now a s|4=>J4 d i a s|5=>(Kt d now a s,true)|6=>(Kk d now a s,true)
 |7=>(Kc a s,true)|8=>J2 d i a s|9=>Jn d i now a s|10=>Gt d i now a s|11=>(Ks d now a s,true)|12=>Gu d i a s|13=>(Ky a s,true)
 |14=>nextA d i s|16=>(stopA i s,true)| _=>(s,true)
end
def waitR(a:Ac)(x:BA):BA:={x with status:=3,why:=a.kind,on:=a.a}
def EI(d:Ad)(i:Nat)(now:Int)(s:Ae):Ae×Ac:=
 let r:=FZ (d.procs.getD i default).code (s.procs.getD i default).s s.mem;let a:={s with procs:=s.procs.set i {s.procs.getD i default with s:=r.1}};let t:=actA d i now r.2 a
 (if t.2 then t.1 else {t.1 with procs:=t.1.procs.set i (waitR r.2 (t.1.procs.getD i default))},r.2)
structure Im where
 ran:Int
 act:Ac
 faults:List CG
 e:Int
def FE(d:Ad)(t:Int):Nat→Ae→Ae
 |0,s=>s
 |k+1,s=>FD d k t (FE d t k s)
def A3(d:Ad)(now:Int)(s:Ae):Ae×Im:=
 if now<s.clock∨1073741824<now then(s,⟨-1,zeroA,[],2⟩)
 else if s.mode=4 then({s with clock:=now+1},⟨-1,zeroA,[],0⟩)
 else if s.mode=1∨s.mode=2 then(FE d now s.procs.length {s with clock:=now+1,mode:=3},⟨-1,zeroA,[],0⟩)
 else
  let r:=CP now (Dl d now {s with clock:=now+1});let p:=Hw d r.1
  if p<0 then(r.1,⟨p,zeroA,r.2,0⟩)
  else
   let u:=EI d p.toNat now r.1
   (u.1,⟨p,u.2,if u.2.kind=15 then r.2++ [⟨p,u.2.a%256,u.2.b⟩] else r.2,0⟩)
def Ek(d:Ad)(i:Int)(a:Bool):Option CV:=if i<0 then O else match d.Ab[i.toNat]? with|none=>O|some p=>if p.o=a then Z p else O
def Dc(d:Ad)(now a:Int)(data:List Int)(s:Ae):Ae×Int:=
 match Ek d a false with
 |none=>(s,2)
 |some p=>
  if now<s.clock∨1073741824<now∨data=[] then(s,2)
  else if p.size<(data.length:Int) then(s,3)
  else if p.kind=1 then
   let r:=writeSa p (s.samples.getD a.toNat default) now data
   ({s with clock:=now,samples:=s.samples.set a.toNat r.1},r.2)
  else
   let q:=s.queues.getD a.toNat default;let r:=sendQ p.kind p.size p.depth p.At q.q q.wait q.lost data
   (wakeP d now data [r.2.2.2.1] {s with clock:=now,queues:=s.queues.set a.toNat ⟨r.1,r.2.1,r.2.2.1⟩},r.2.2.2.2)
def ET(d:Ad)(a:Int)(s:Ae):Ae×List (List Int)×Int:=
 match Ek d a true with
 |none=>(s,[],2)
 |some _=>
  let q:=s.queues.getD a.toNat default;let x:=s.samples.getD a.toNat default
  ({s with queues:=s.queues.set a.toNat {q with q:=[]},samples:=s.samples.set a.toNat ⟨[],0,false⟩},if x.has then [x.data] else q.q,0)
def Br(d:Ad)(k p:Int)(s:Ae):Ae×Int:=
 if k<1∨6<k∨(k=2∨k=3)∧¬(0≤p∧p≤(s.procs.length:Int)-1) then(s,2)
 else if(k=2∨k=3)∧s.mode≠3 then(s,0)
 else if k=2 then(stopA p.toNat (CX p s),0)
 else if k=3 then(FD d p.toNat s.clock s,0)
 else if k=4 then(Hm d 2 s,0)
 else if k=5 then(Hm d 1 {s with mem:=ck s.mem.length 0},0)
 else if k=6 then(Hm d 4 s,0)
 else(s,0)
def Bz(n:Nat)(l:List Wt):Prop:=(l.map (·.proc)).Nodup∧∀ x∈l,0≤x.proc∧x.proc<(n:Int)
def Bf(l:List Int):Prop:=∀ z∈l,0≤z∧z≤255
structure NB(c:Eu):Prop where
 len:c.code.length≤24
 ops:∀ x∈c.code,0≤x.op∧x.op≤255
 prio:0≤c.prio∧c.prio≤255
 period:0≤c.period∧c.period≤1073741824
 Cf:0≤c.Cf∧c.Cf≤1073741824
structure Ik(d:Ad):Prop where
 procs:d.procs.length≤6
 Ab:d.Ab.length≤8
 semas:d.semas.length≤8
 bufs:d.bufs.length≤8
 events:0≤d.events∧d.events≤8
 boards:0≤d.boards∧d.boards≤8
 mem:0≤d.mem∧d.mem≤4096
 pc:∀ c∈d.procs,NB c
structure D5(x:BA):Prop where
 AG:x.s.AG.length=4
 bytes:Bf x.s.AG
 pc:0≤x.s.pc∧x.s.pc≤24
 left:0≤x.s.left∧x.s.left≤2000
 since:0≤x.since∧x.since≤4294967296
 release:-1≤x.release∧x.release≤4294967296
 deadline:-1≤x.deadline∧x.deadline≤4294967296
structure K6(x:Ee):Prop where
 len:x.data.length≤64
 bytes:Bf x.data
 at_:0≤x.at_∧x.at_≤1073741824
structure FK(n:Nat)(x:AO):Prop where
 len:x.q.length≤16
 msg:∀ m∈x.q,m.length≤64∧Bf m
 wait:Bz n x.wait
structure Hc(n:Nat)(x:AT):Prop where
 len:x.data.length≤16
 bytes:Bf x.data
 put:Bz n x.put
 get:Bz n x.get
 ID:∀ y∈x.put,0≤y.val∧y.val≤255
structure Ah(d:Ad)(s:Ae):Prop where
 ok:Ik d
 procs:s.procs.length=d.procs.length
 samples:s.samples.length=d.Ab.length
 queues:s.queues.length=d.Ab.length
 bufs:s.bufs.length=d.bufs.length
 boards:(s.boards.length:Int)=d.boards
 semas:s.semas.length=d.semas.length
 events:(s.events.length:Int)=d.events
 mem:(s.mem.length:Int)=d.mem
 I0:Bf s.mem
 pr:∀ x∈s.procs,D5 x
 sa:∀ x∈s.samples,K6 x
 qu:∀ x∈s.queues,FK d.procs.length x
 bu:∀ x∈s.bufs,Hc d.procs.length x
 bo:∀ x∈s.boards,Bz d.procs.length x.wait
 se:∀ x∈s.semas,Bz d.procs.length x.wait
 ev:∀ x∈s.events,Bz d.procs.length x.wait
 clock:0≤s.clock∧s.clock≤1073741825
def MI:∀ (n:Nat) (l:List Int),l.Nodup→(∀ x∈l,0≤x∧x<(n:Int))→l.length≤n
 |0,l,_,h=>by
  cases l with
  |nil=>simp
  |cons x l=>have:=h x (du ..);omega
 |n+1,l,b,h=>by
  by_cases d:(n:Int)∈l
  ·have c:=MI n (l.erase (n:Int)) (b.erase _) (fun x a=>by
    have e:=h x (List.mem_of_mem_erase a);have f:x≠(n:Int):=by
     rintro rfl;exact(b.mem_erase_iff.1 a).1 rfl
    omega)
   rw[List.length_erase_of_mem d] at c;omega
  ·have c:=MI n l b (fun x a=>by
    have e:=h x a;have f:x≠(n:Int):=by
     rintro rfl;exact d a
    omega)
   omega
def Bz.len{n:Nat}{l:List Wt}(h:Bz n l):l.length≤n:=by
 have:=MI n (l.map (·.proc)) h.1 (fun x a=>by
  obtain⟨y,b,rfl⟩:=cO.1 a;exact h.2 y b)
 simpa using this
def Bz.wf{n:Nat}{l:List Wt}(h:Bz n l)(d:n≤6):Ck l:=fun x c=>by
 have:=h.2 x c;have a:IntKind.i64.min≤x.proc:=by show(-9223372036854775808:Int)≤_;omega
 have b:x.proc≤IntKind.i64.max:=by show _≤(9223372036854775807:Int);omega
 show(decide (IntKind.i64.min≤x.proc) && decide (x.proc≤IntKind.i64.max))=true;rw[decide_eq_true a,decide_eq_true b];rfl
end Go.Proofs.YtiepijihpgijbaaGreatDoor
