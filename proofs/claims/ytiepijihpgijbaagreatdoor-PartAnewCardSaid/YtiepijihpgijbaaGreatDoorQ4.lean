import Derived.StillTail
import Derived.Below
import Derived.Tactics
import Derived.Tactics2
import Derived.KernelRfl
import Derived.RowKit
import Derived.Test.YtiepijihpgijbaaGreatDoorQ3
set_option linter.all false
open Option renaming some→Z,none→O
open Go.IntKind renaming u8→U,i64→J
open Go.Value renaming slice→Y,int→I,pointer→G
open Go.Obj renaming cells→T
open Array renaming getElem?_eq_some_iff→aS,replicate→br,getD→bW
open Go renaming Value→a1,World→a7,Program→bD,Oper→bF,execOp→bK,getD_replicate_false→bP,TypeId→bQ,mem_ready→bT,undef→bV,HeadInv→b2,getD_both→ca,wpList→cc,getD_in→cd,execOp_congr→ce
open Bool renaming false_eq_true→bj,and_eq_true→bH,or_eq_true→bR,not_eq_true'→bZ
open Nat renaming le_refl→bo,le_of_lt→bt,lt_succ_self→bN,lt_or_ge→cj
open Option.some renaming inj→bq
open List renaming mem_of_getElem?→bs,getElem?_eq_getElem→bu,range→bw,contains_iff_mem→bz,all_eq_true→bC,toArray→bG,getElem?_eq_some_iff→bI,drop_eq_getElem_cons→bJ,take_succ_cons→bL,mem_range→bM,mem_append_left→bU,mem_filterMap→bY,getD_eq_getElem?_getD→b3,drop_zero→b4,filterMap_append→b7,getElem?_of_mem→b8,filter_append→cb,take_zero→ch
open Go.RowKit.Below renaming refl→bE
open Go.Region renaming wanted→bO,noSelect_spec→bS,binds→bX,ready→b5,noSelect→cf
open Classical renaming byContradiction→b0
open Go.Code renaming region→b1
open Go.Oper renaming looksAt→b6,quietUpon→cg
open Go.Deferred renaming ofValue→b9
open Go.Sem renaming run_bind→ci
namespace Go.Proofs.YtiepijihpgijbaaGreatDoor
open Go.RowKit Tryz
def Iv(P:bD)(a:a1→a7→Prop):Result Next→Prop
 | .ok (.value v) w'=>a v w'
 | .ok .skip w'=>a bV w'
 | .ok (.enter f args) w'=>Calls P f args w' (fun e b=>∃ v,e=.returned v∧a v b)
 | _=>False
def Bd(P:bD)(o:bF)(a:Act)(w:a7)(b:a1→a7→Prop):Prop:=Iv P b ((bK a.eval o).run P w)
def Hr{P:bD}{o:bF}{a b:Act}{w:a7}{d:a1→a7→Prop}{K:Act→a7→Prop}{Q:Exit→Act→a7→Prop}
  (c:bK b.eval o=bK a.eval o) (h:Bd P o a w d) (hK:∀ v w',d v w'→K (b.put o.dst v) w'):o.wp P b w K Q:=by
 unfold Bd at h;rw[←c] at h;unfold Oper.wp;generalize (bK b.eval o).run P w=r at*;cases r with
 |ok n w'=>
  cases n<;>simp only[Iv] at h<;>simp only[Oper.upon]
  case value u=>exact hK _ _ h
  case skip=>exact hK _ _ h
  case enter f args=>
   exact h.mono fun e i ⟨v,c,g⟩=>by subst c;exact hK _ _ g
 |halt x w'=>simp only[Iv] at h
def Av(ops:Array bF)(i:Nat):Option Tmp:=(ops[i]?).bind (·.dst)
def Ba(ops:Array bF)(listed:Array Bool)(vs:Nat→a1)(a:Act):Nat→Act
 |0=>a
 |k+1=>if listed.getD k false then(Ba ops listed vs a k).put (Av ops k) (vs k) else Ba ops listed vs a k
def Ar(ops:Array bF)(vs:Nat→a1)(a:Act):Nat→Act
 |0=>a
 |k+1=>(Ar ops vs a k).put (Av ops k) (vs k)
section
variable {ops:Array bF} {listed:Array Bool} {vs:Nat→a1} {a:Act}
def Jp:∀ n,(∀ i,i<n→listed.getD i false=true)→Ba ops listed vs a n=Ar ops vs a n
 |0,_=>rfl
 |n+1,h=>by
  simp only[Ba,Ar,h n (bN n),if_true];rw[Jp n (fun i b=>h i (by omega))]
def Ln{c:Array Bool}{vs':Nat→a1}:∀ n,(∀ i,i<n→c.getD i false=listed.getD i false)→(∀ i,i<n→listed.getD i false=true→vs' i=vs i)→Ba ops c vs' a n=Ba ops listed vs a n
 |0,_,_=>rfl
 |n+1,h,b=>by
  simp only[Ba,h n (bN n)];rw[Ln n (fun i d=>h i (by omega)) (fun i d=>b i (by omega))];split
  ·rename_i e;rw[b n (bN n) e]
  ·rfl
def Dk{l:Array Bool}{i j:Nat}(b:i<l.size):(l.setIfInBounds i true).getD j false=if j=i then true else l.getD j false:=by
 by_cases h:j=i
 ·subst h;simp[bW,b]
 ·rw[if_neg h,getD_set_ne false (fun e=>h e.symm)]
def Jq{n i:Nat}{v:a1}(o:i<n)(c:i<listed.size)(h:listed.getD i false=false)(e:∀ j k,j<n→k<n→j≠k→∀ t,Av ops j=Z t→Av ops k≠Z t):
  Ba ops (listed.setIfInBounds i true) (fun j=>if j=i then v else vs j) a n=(Ba ops listed vs a n).put (Av ops i) v:=by
 induction n with
 |zero=>omega
 |succ n l=>
  by_cases b:n=i
  ·subst b;simp only[Ba,Dk c,if_true,h,bj,if_false];rw[Ln (listed:=listed) (vs:=vs) n (fun j f=>by rw[Dk c,if_neg (by omega)]) (fun j f _=>by rw[if_neg (by omega)])]
  ·have m:=l (by omega) (fun j k f p=>e j k (by omega) (by omega));simp only[Ba,Dk c,if_neg b];rw[m];split
   ·exact(Act.put_comm _ _ _ (fun d g=>e n i (by omega) (by omega) b d g)).symm
   ·rfl
def Nb:∀ n,(Ba ops listed vs a n).tmps.size=a.tmps.size
 |0=>rfl
 |n+1=>by
  simp only[Ba];split
  ·cases b:Av ops n<;>simp[Act.put,Nb n]
  ·exact Nb n
def Ym{b:Act}{t:Tmp}{v:a1}(c:t<b.tmps.size):(b.put (Z t) v).eval (.tmp t)=v:=by
 simp[Act.eval,Act.put,c]
def PZ{b:Act}{d:Option Tmp}{t:Tmp}{v:a1}(h:d≠Z t):(b.put d v).eval (.tmp t)=b.eval (.tmp t):=
 Act.eval_put fun f c e=>h (by rw[c];injection e with e;rw[e])
def Gy{t:Tmp}:∀ n,(∀ j,j<n→listed.getD j false=true→Av ops j≠Z t)→(Ba ops listed vs a n).eval (.tmp t)=a.eval (.tmp t)
 |0,_=>rfl
 |n+1,h=>by
  simp only[Ba];split
  ·rename_i c;rw[PZ (h n (bN n) c)];exact Gy n (fun j b=>h j (by omega))
  ·exact Gy n (fun j b=>h j (by omega))
def Hz{t:Tmp}{i n:Nat}(m:i<n)(g:listed.getD i false=true)(d:Av ops i=Z t)(h:t<a.tmps.size)(b:∀ j k,j<n→k<n→j≠k→∀ t,Av ops j=Z t→Av ops k≠Z t):
  (Ba ops listed vs a n).eval (.tmp t)=vs i:=by
 induction n with
 |zero=>omega
 |succ n l=>
  simp only[Ba];by_cases c:n=i
  ·subst c;rw[if_pos g,d,Ym (by rw[Nb];exact h)]
  ·have f:=l (by omega) (fun j k o p=>b j k (by omega) (by omega));split
   ·rw[PZ (b i n (by omega) (by omega) (fun e=>c e.symm) t d)];exact f
   ·exact f
def Jo(n:Nat):∃ l:Array Bool,(∀ i,i<n→l.getD i false=true)∧Ar ops vs a n=Ba ops l vs a n:=
 ⟨br n true,fun i b=>by simp[bW,b],(Jp n (fun i b=>by simp[bW,b])).symm⟩
end
def BH(ops:Array bF)(i j:Nat):Bool:=((ops[i]?).map fun o=>o.after.any fun e=>bX .any e && e.on==j).getD false
def CO(ops:Array bF)(n m:Nat):Bool:=
 decide (n≤ops.size) && cf ops &&
 (bw n).all (fun i=>match ops[i]? with
  |none=>false
  |some o=>o.guard.isNone && o.after.all (fun e=>!bX .any e||decide (e.on<i)) && (match o.dst with|some t=>decide (t<m)|none=>true) &&
   (bw n).all (fun j=>j==i||(match Av ops j with|none=>true|some t=>Av ops i !=Z t && (!((o.looksAt ops).contains t)||BH ops i j))) &&
   (match o.dst with|some t=>!((o.looksAt ops).contains t)|none=>true))
def GV(ops:Array bF)(n:Nat):Bool:=
 (decide (n=ops.size)||(decide (n<ops.size) && Region.sinkB .any ops n && Region.chainB .any ops n)) &&
 Region.seqB .any ops (ops.size-n) n ((br n true)++(br (ops.size-n) false))
section
variable {ops:Array bF} {n m:Nat}
structure Rc(ops:Array bF)(n m i:Nat)(o:bF):Prop where
 at_:ops[i]? =Z o
 Jh:o.guard=O
 back:∀ e∈o.after,bX .any e=true→e.on<i
 low:∀ t,o.dst=Z t→t<m
 apart:∀ j,j<n→j≠i→∀ t,Av ops j=Z t→Av ops i≠Z t∧(t∈o.looksAt ops→BH ops i j=true)
 own:∀ t,o.dst=Z t→t∉o.looksAt ops
def DM(h:CO ops n m=true):n≤ops.size∧cf ops=true∧∀ i,i<n→∃ o,Rc ops n m i o:=by
 simp only[CO,bH,decide_eq_true_eq,bC,bM] at h;obtain⟨⟨q,r⟩,s⟩:=h;refine⟨q,r,fun i w=>?_⟩;have b:=s i w;cases d:ops[i]? with
 |none=>simp[d] at b
 |some o=>
  simp only[d,bH,bC,bM] at b;obtain⟨⟨⟨⟨f,g⟩,k⟩,l⟩,p⟩:=b;refine⟨o,d,by simpa using f,fun e v u=>?_,fun t a=>?_,fun j x z t a=>?_,fun t a=>?_⟩
  ·have:=(Array.all_eq_true_iff_forall_mem.1 g) e v;simpa[u] using this
  ·simpa[a] using k
  ·have:=l j x;simp only[bR,beq_iff_eq,z,false_or,a,bH,bne_iff_ne,ne_eq,bZ] at this;refine⟨this.1,fun y=>?_⟩;rcases this.2 with c|c
   ·simp[y] at c
   ·exact c
  ·simpa[a] using p
def Cq(listed:Array Bool):Nat→Nat
 |0=>0
 |n+1=>Cq listed n+if listed.getD n false then 0 else 1
def Ie{listed:Array Bool}:∀ {n},Cq listed n=0→∀ i,i<n→listed.getD i false=true
 |n+1,h,i,b=>by
  simp only[Cq] at h;by_cases e:i=n
  ·subst e;cases a:listed.getD i false
   ·rw[a] at h;simp at h
   ·rfl
  ·exact Ie (n:=n) (by omega) i (by omega)
def I9{listed:Array Bool}:∀ {n},0<Cq listed n→∃ i,i<n∧listed.getD i false=false∧∀ j,j<i→listed.getD j false=true
 |n+1,h=>by
  by_cases b:0<Cq listed n
  ·obtain⟨i,f,c,d⟩:=I9 b;exact⟨i,by omega,c,d⟩
  ·have a:Cq listed n=0:=by omega
   simp only[Cq,a] at h;refine⟨n,bN n,?_,Ie a⟩;cases e:listed.getD n false
   ·rfl
   ·rw[e] at h;simp at h
def QH{listed:Array Bool}{i:Nat}(a:i<listed.size):∀ {n},n≤i→Cq (listed.setIfInBounds i true) n=Cq listed n
 |0,_=>rfl
 |n+1,h=>by
  simp only[Cq];rw[QH a (by omega),Dk a,if_neg (show¬n=i by omega)]
def IA{listed:Array Bool}{i:Nat}(a:i<listed.size)(b:listed.getD i false=false):∀ {n},i<n→Cq (listed.setIfInBounds i true) n+1=Cq listed n
 |n+1,h=>by
  simp only[Cq];by_cases e:n=i
  ·subst e;rw[QH a (bo _),Dk a,if_pos rfl,b];simp
  ·have:=IA a b (n:=n) (by omega);rw[Dk a,if_neg e];omega
def G6{i j:Nat}{o:bF}(a:ops[i]? =Z o):BH ops i j=true↔∃ e∈o.after,bX .any e=true∧e.on=j:=by
 simp only[BH,a,Option.map_some,Option.getD_some,Array.any_eq_true',bH,beq_iff_eq]
end
section
variable {P:bD} {id:Nat} {l:List bF} {Q:Exit→Act→a7→Prop} {a:Act} {w:a7}
end
def Bn{P:bD}{o:bF}{a:Act}{w w':a7}{v:a1}{b:a1→a7→Prop}(h:(bK a.eval o).run P w=.ok (.value v) w')(c:b v w'):Bd P o a w b:=by
 unfold Bd;rw[h];exact c
def OO{P:bD}{o:bF}{a:Act}{w w':a7}{f:FuncId}{args:Array a1}{b:a1→a7→Prop}(h:(bK a.eval o).run P w=.ok (.enter f args) w')(c:Calls P f args w' (fun e d=>∃ v,e=.returned v∧b v d)):Bd P o a w b:=by
 unfold Bd;rw[h];exact c
def kdT(t:bQ):IntKind:=if t=5 then U else J
def Jz(t:bQ):Nat:=if t=5 then 1 else 3
def D6(t:bQ)(w:a7)(B C:Nat)(v:a1)(n:Nat):Prop:=
 ∃ (a:Option Addr) (c:Nat),v=Y a n c∧(0<n→∃ b d,a=Z ⟨b,d,O⟩∧B≤b∧b<C∧Tag w b t∧∀ k,k<n→∃ z,w.cell? ⟨b,d+k*Jz t,O⟩=Z (I (kdT t) z))
section
variable {w w':a7} {B B' C n:Nat} {t:bQ} {v:a1}
def Tag.next{g:Nat}(h:Tag w g t)(c:Bl w w'):Tag w' g t:=by
 obtain⟨b,a⟩:=h;exact⟨b,(c.block _ (Aa a)).trans a⟩
def D6.of{e:List a1}(h:Ty w B t (Jz t) v n e)(j:∀ k,k<n→∃ z,e[k*Jz t]? =Z (I (kdT t) z)):D6 t w B w.heap.size v n:=by
 obtain⟨a,c,o,u,x,y,m⟩:=h;refine⟨a,c,o,fun s=>?_⟩;obtain⟨b,r,f,i,g,d,_,p⟩:=m (by omega);refine⟨b,r,i,g,Aa d,⟨f,d⟩,fun k l=>?_⟩;obtain⟨z,q⟩:=j k l;exact⟨z,by rw[cell_of_row _ _ _ _ _ _ d];exact p _ _ q⟩
def D6.mono(h:D6 t w B C v n)(j:B'≤B):D6 t w B' C v n:=by
 obtain⟨a,c,g,f⟩:=h;refine⟨a,c,g,fun d=>?_⟩;obtain⟨b,i,e,k,r⟩:=f d;exact⟨b,i,e,by omega,r⟩
def D6.next(h:D6 t w B C v n)(d:Bl w w'):D6 t w' B C v n:=by
 obtain⟨a,c,s,q⟩:=h;refine⟨a,c,s,fun g=>?_⟩;obtain⟨b,x,l,i,j,r,m⟩:=q g;obtain⟨f,e⟩:=r;refine⟨b,x,l,i,j,Tag.next ⟨f,e⟩ d,fun k o=>?_⟩;obtain⟨z,u⟩:=m k o;exact⟨z,(d.cell (p:=⟨b,_,O⟩) (Aa e)).trans u⟩
def D6.up{d:Nat}(h:D6 t w B C v n)(m:C≤d):D6 t w B d v n:=by
 obtain⟨a,c,j,i⟩:=h;refine⟨a,c,j,fun e=>?_⟩;obtain⟨b,k,g,f,l,r⟩:=i e;exact⟨b,k,g,f,by omega,r⟩
def D6.set{t0:bQ}{d o:Nat}{u:a1}(h:D6 t w B C v n)(D:Tag w d t0)(g:w.cell? ⟨d,o,O⟩=Z u)(z:Int):D6 t (w.setCell ⟨d,o,O⟩ (I (kdT t0) z)) B C v n:=by
 obtain⟨a,c,E,A⟩:=h;refine⟨a,c,E,fun l=>?_⟩;obtain⟨b,j,r,p,q,i,x⟩:=A l;refine⟨b,j,r,p,q,i.set,fun k y=>?_⟩;by_cases e:(⟨d,o,O⟩:Addr)=⟨b,j+k*Jz t,O⟩
 ·have s:d=b:=by injection e
  subst s;obtain⟨K,m⟩:=i;obtain⟨L,f⟩:=D;rw[m] at f;simp only[Option.some.injEq,Obj.cells.injEq] at f;rw[←f.2.1,e];rw[e] at g;exact⟨z,World.cell?_setCell_same _ _ _ g⟩
 ·obtain⟨H,F⟩:=x k y;exact⟨H,by rw[World.cell?_setCell_other _ _ _ _ e];exact F⟩
def D6.at{a:Option Addr}{m c:Nat}(h:D6 t w B C (Y a m c) n)(k:Nat)(p:k<n):∃ b d z,a=Z ⟨b,d,O⟩∧B≤b∧b<C∧b<w.heap.size∧Tag w b t∧w.cell? ⟨b,d+k*Jz t,O⟩=Z (I (kdT t) z)∧w.frozen? ⟨b,d+k*Jz t,O⟩=false:=by
 obtain⟨s,u,f,q⟩:=h;simp only[Value.slice.injEq] at f;obtain⟨rfl,rfl,rfl⟩:=f;obtain⟨b,d,l,i,j,⟨g,e⟩,o⟩:=q (by omega);obtain⟨z,r⟩:=o k p;exact⟨b,d,z,l,i,j,Aa e,⟨g,e⟩,r,by simp[World.frozen?,e]⟩
end
structure TG(W0 w:a7)(g:Nat)(t:bQ)(row:Array a1)(vs:List (bQ×a1×Nat)):Prop where
 blk:w.heap[g]? =Z (T row t (0,0))
 bel:Bl W0 w
 ge:W0.heap.size≤g
 tn:∀ p∈vs,D6 p.1 w W0.heap.size g p.2.1 p.2.2
section
variable {W0 w w':a7} {g:Nat} {t:bQ} {row:Array a1} {vs:List (bQ×a1×Nat)}
def TG.next(h:TG W0 w g t row vs)(a:Bl w w'):TG W0 w' g t row vs:=
 ⟨(a.block _ (Aa h.blk)).trans h.blk,h.bel.trans (a.mono h.bel.size),h.ge,fun p b=>(h.tn p b).next a⟩
def TG.alloc(h:TG W0 w g t row vs)(o:Obj):TG W0 (w.alloc o) g t row vs:=h.next ((bE _ _).alloc (bo _) _)
def TG.set{b o:Nat}{t0:bQ}{u:a1}(h:TG W0 w g t row vs)(a:W0.heap.size≤b)(f:b<g)(e:Tag w b t0)(c:w.cell? ⟨b,o,O⟩=Z u)(z:Int):TG W0 (w.setCell ⟨b,o,O⟩ (I (kdT t0) z)) g t row vs:=
 ⟨(Below.heap_setCell _ _ _ _ (by show g≠b;omega)).trans h.blk,h.bel.setCell (p:=⟨b,o,O⟩) a _,h.ge,fun p d=>(h.tn p d).set e c z⟩
def TG.new{a:a7}(b:Bl W0 a)(d:∀ p∈vs,D6 p.1 a W0.heap.size a.heap.size p.2.1 p.2.2):TG W0 (a.alloc (T row t)) a.heap.size t row vs:=
 ⟨heap_alloc_new a _,b.alloc b.size _,b.size,fun p c=>(d p c).next ((bE _ _).alloc (bo _) _)⟩
def TG.cell(h:TG W0 w g t row vs)(j:Nat)(x:a1)(a:row[j]? =Z x):w.cell? ⟨g,j,O⟩=Z x:=by
 rw[cell_of_row w _ _ _ _ _ h.blk];exact a
end
structure Ak(w:a7) where
 W:a7
 h:Bl w W
instance (w:a7):Inhabited (Ak w):=⟨⟨w,bE _ w⟩⟩
def Au(t:Array a1)(d:List Deferred)(k:Tmp)(v:a1):(⟨t,d⟩:Act).put (Z k) v=⟨t.setIfInBounds k v,d⟩:=rfl
inductive By(ops:Array bF):Nat→Nat→Prop
 |base {i j:Nat}:BH ops i j=true→By ops i j
 |step {i k j:Nat}:BH ops i k=true→By ops k j→By ops i j
section
variable {P:bD} {id:Nat} {l:List bF} {Q:Exit→Act→a7→Prop} {a:Act} {w:a7} {ops:Array bF} {n m:Nat}
def CD(d:CO ops n m=true){i j:Nat}(g:i<n)(h:BH ops i j=true):j<i:=by
 obtain⟨_,_,f⟩:=DM d;obtain⟨o,H⟩:=f i g;obtain⟨e,c,b,rfl⟩:=(G6 H.at_).1 h;exact H.back e c b
def By.lt(c:CO ops n m=true){i j:Nat}(h:By ops i j):i<n→j<i:=by
 induction h with
 |base h=>exact fun b=>CD c b h
 |step h _ d=>exact fun b=>by have e:=CD c b h;have:=d (by omega);omega
def By.QG{i j k:Nat}(h:By ops i k)(b:BH ops k j=true):By ops i j:=by
 induction h with
 |base h=>exact .step h (.base b)
 |step h _ c=>exact .step h (c b)
def By.listed{listed:Array Bool}(d:CO ops n m=true)(q:b2 .any ops n listed){i j:Nat}(h:By ops i j):i<n→listed.getD i false=true→listed.getD j false=true:=by
 obtain⟨_,_,k⟩:=DM d;have one:∀ {i j:Nat},i<n→BH ops i j=true→listed.getD i false=true→listed.getD j false=true:=fun {i j} b h c=>by
  obtain⟨o,H⟩:=k i b;obtain⟨e,g,f,rfl⟩:=(G6 H.at_).1 h;exact q.closed i o H.at_ c e g f
 induction h with
 |base h=>exact fun b c=>one b h c
 |step h _ p=>exact fun b c=>p (by have:=CD d b h;omega) (one b h c)
def E7(d:CO ops n a.tmps.size=true){i:Nat}{o:bF}(ho:ops[i]? =Z o)(p:i<n){us vs:Nat→a1}{k u:Nat}(F:i≤k)(aj:k≤n)(W:i≤u)(X:u≤n)
  (h:∀ j,BH ops i j=true→us j=vs j):bK (Ar ops us a k).eval o=bK (Ar ops vs a u).eval o:=by
 obtain⟨hn,am,D⟩:=DM d;have R:∀ j k,j<n→k<n→j≠k→∀ t,Av ops j=Z t→Av ops k≠Z t:=fun j k c F al t ht=>by
  obtain⟨o,H⟩:=D k F;exact(H.apart j c al t ht).1
 obtain⟨z,H⟩:=D i p;obtain rfl:z=o:=bq (H.at_.symm.trans ho);refine ce z (fun cs bb=>bS am i z cs bb ho) (fun x hx=>?_);cases x with
 |tmp t=>
  have aa:t∈z.looksAt ops:=by
   unfold b6;exact bU _ (bY.2 ⟨.tmp t,by simpa using hx,rfl⟩)
  have L:∀ (A:Nat→a1) (q:Nat),i≤q→q≤n→(∃ j,BH ops i j=true∧Av ops j=Z t∧(Ar ops A a q).eval (.tmp t)=A j)∨((∀ j,j<n→Av ops j≠Z t)∧(Ar ops A a q).eval (.tmp t)=a.eval (.tmp t)):=fun A q hq ar=>by
   obtain⟨la,ak,ad⟩:=Jo (ops:=ops) (vs:=A) (a:=a) q;by_cases S:∃ j,j<n∧Av ops j=Z t
   ·obtain⟨j,c,b⟩:=S;have ah:j≠i:=by
     rintro rfl;have:z.dst=Z t:=by simpa[Av,H.at_] using b
     exact H.own t this aa
    have ao:t<a.tmps.size:=by
     obtain⟨oj,M⟩:=D j c;exact M.low t (by simpa[Av,M.at_] using b)
    have r:=(H.apart j c ah t b).2 aa;have V:=CD d p r;refine .inl ⟨j,r,b,?_⟩;rw[ad];exact Hz (by omega) (ak j (by omega)) b ao (fun x y hx hy=>R x y (by omega) (by omega))
   ·have B:∀ j,j<n→Av ops j≠Z t:=fun j c e=>S ⟨j,c,e⟩;refine .inr ⟨B,?_⟩;rw[ad];exact Gy q (fun j c _=>B j (by omega))
  rcases L us k F aj with ⟨j,r,b,e⟩|⟨B,e⟩
  ·rcases L vs u W X with ⟨C,K,E,s⟩|⟨ab,s⟩
   ·have V:=CD d p r;have ai:=CD d p K;by_cases N:j=C
    ·subst N;rw[e,s,h j r]
    ·exact absurd E (R j C (by omega) (by omega) N t b)
   ·have V:=CD d p r;exact absurd b (ab j (by omega))
  ·rcases L vs u W X with ⟨C,K,E,s⟩|⟨ab,s⟩
   ·have ai:=CD d p K;exact absurd E (B C (by omega))
   ·rw[e,s]
 |const v=>rfl
 |global g=>rfl
 |func f=>rfl
def LW(z:CO l.toArray n a.tmps.size=true)(hr:GV l.toArray n=true)
  (V:Nat→(Nat→a1)→a7→Prop)
  (ar:∀ i vs vs' w',i<n→(∀ j,j=i∨By l.toArray i j→vs j=vs' j)→V i vs w'→V i vs' w')
  (hV:∀ i vs w' s,i<n→V i vs w'→Bl w' s→V i vs s)
  (aL:∀ i o,l[i]? =Z o→i<n→∀ vs w',Bl w w'→(∀ j,By l.toArray i j→V j vs w')→Bd P o (Ar l.toArray vs a n) w' (fun v s=>Bl w' s∧V i (fun j=>if j=i then v else vs j) s))
  (hend:∀ vs w',Bl w w'→(∀ i,i<n→V i vs w')→cc P l.toArray Q (l.drop n) (Ar l.toArray vs a n) w'):
  ∀ (k:Nat) (listed:Array Bool) (b:Act) (w':a7),Cq listed n=k→b2 .any l.toArray n listed→
   (∃ vs,b=Ba l.toArray listed vs a n∧Bl w w'∧∀ i,i<n→listed.getD i false=true→V i vs w')→wpAny P .any l.toArray Q (k+(l.toArray.size-n)) listed b w':=by
 obtain⟨hn,aJ,C⟩:=DM z;have K:∀ j k,j<n→k<n→j≠k→∀ t,Av l.toArray j=Z t→Av l.toArray k≠Z t:=fun j k c hk aD t ht=>by
  obtain⟨o,H⟩:=C k hk;exact(H.apart j c aD t ht).1
 simp only[GV,bH,bR,decide_eq_true_eq] at hr;obtain⟨aG,aH⟩:=hr;intro k
 induction k with
 |zero=>
  rintro listed b w' hu p ⟨vs,rfl,y,D⟩;have u:=Ie hu;have aB:listed=br n true++br (l.toArray.size-n) false:=by
   apply Array.ext
   ·simp only[Array.size_append,Array.size_replicate,p.size];omega
   ·intro i h1 h2;have aM:=p.size;by_cases d:i<n
    ·have:=u i d;simp only[bW,h1,dif_pos] at this;rw[Array.getElem_append_left (by simpa using d)];simpa using this
    ·have:=p.tail i (by omega) (by omega);simp only[bW,h1,dif_pos] at this;rw[Array.getElem_append_right (by simpa using d)];simpa using this
  have ad:(l.drop n).length=l.toArray.size-n:=by simp
  have:=wpAny_of_seq (P:=P) (md:=.any) (ops:=l.toArray) (Q':=Q) (l.drop n) n listed (Ar l.toArray vs a n) w' (fun j=>by simp[List.getElem?_drop]) (by rw[ad,aB];exact aH) (hend vs w' y (fun i d=>D i d (u i d)));rw[ad] at this;rw[Nat.zero_add,Jp n u];exact this
 |succ k ih=>
  rintro listed b w' hu p ⟨vs,rfl,y,D⟩;obtain⟨E,af,aO,aC⟩:=I9 (listed:=listed) (n:=n) (by omega);have aM:=p.size;have am:listed.getD E true=false:=cd (by omega) aO;have aj:E∈b5 .any l.toArray listed:=by
   obtain⟨o,H⟩:=C E af;exact bT.2 ⟨am,o,H.at_,fun e M F=>aC e.on (H.back e M F)⟩
  rw[show k+1+(l.toArray.size-n)=(k+(l.toArray.size-n))+1 by omega];refine⟨fun h=>(by rw[h] at aj;cases aj),fun i d=>?_⟩;obtain⟨ax,o',B,u⟩:=bT.1 d;have r:i<n:=by
   rcases cj i n with h|h
   ·exact h
   ·rcases aG with e|⟨⟨e,hs⟩,hc⟩
    ·have:=(aS.1 B).1;omega
    ·exact absurd d (tail_waits hs hc e p _ E rfl af am i h)
  obtain⟨o,H⟩:=C i r;obtain rfl:o=o':=bq (H.at_.symm.trans B);have S:i<listed.size:=by have:=(aS.1 B).1;omega
  have N:listed.getD i false=false:=ca ax;have L:∀ j,BH l.toArray i j=true→listed.getD j false=true:=fun j c=>by
   obtain⟨e,M,F,rfl⟩:=(G6 H.at_).1 c;exact u e M F
  have av:∀ j,By l.toArray i j→listed.getD j false=true:=fun j c=>by
   cases c with
   |base h=>exact L j h
   |step h h2=>exact h2.listed z p (by have:=CD z r h;omega) (L _ h)
  have aP:bO o (yielded l.toArray (Ba l.toArray listed vs a n).tmps)=true:=by simp[bO,H.Jh]
  have aw:bK (Ba l.toArray listed vs a n).eval o=bK (Ar l.toArray vs a n).eval o:=by
   refine ce o (fun cs bb=>bS aJ i o cs bb H.at_) (fun x hx=>?_);cases x with
   |tmp t=>
    have ag:t∈o.looksAt l.toArray:=by
     unfold b6;exact bU _ (bY.2 ⟨.tmp t,by simpa using hx,rfl⟩)
    obtain⟨la,aA,aE⟩:=Jo (ops:=l.toArray) (vs:=vs) (a:=a) n;rw[aE];by_cases ae:∃ j,j<n∧Av l.toArray j=Z t
    ·obtain⟨j,c,A⟩:=ae;have ay:j≠i:=by
      rintro rfl;have:o.dst=Z t:=by simpa[Av,H.at_] using A
      exact H.own t this ag
     have ak:t<a.tmps.size:=by
      obtain⟨oj,Hj⟩:=C j c;exact Hj.low t (by simpa[Av,Hj.at_] using A)
     rw[Hz c (L j ((H.apart j c ay t A).2 ag)) A ak K,Hz c (aA j c) A ak K]
    ·have ah:∀ j,j<n→Av l.toArray j≠Z t:=fun j c e=>ae ⟨j,c,e⟩;rw[Gy n (fun j c _=>ah j c),Gy n (fun j c _=>ah j c)]
   |const v=>rfl
   |global g=>rfl
   |func f=>rfl
  have aK:=aL i o (by simpa using H.at_) r vs w' y (fun j c=>D j (by have:=c.lt z r;omega) (av j c));unfold wpOp;simp only[B,aP,if_true];refine .inl (Hr aw aK fun v s W=>ih _ _ _ ?_ (p.set d r) ⟨fun j=>if j=i then v else vs j,?_,y.trans (W.1.mono y.size),fun j c R=>?_⟩)
  ·have:=IA S N (n:=n) r;omega
  ·have au:Av l.toArray i=o.dst:=by simp[Av,B]
   rw[Jq r S N K,au]
  ·by_cases e:j=i
   ·subst e;exact W.2
   ·rw[Dk S,if_neg e] at R;refine hV j _ w' s c (ar j vs _ w' c (fun q X=>?_) (D j c R)) W.1;have aF:q≠i:=by
     rcases X with rfl|X
     ·exact e
     ·rintro rfl;have:=X.listed z p c R;rw[N] at this;cases this
    rw[if_neg aF]
def N5(n:Nat)(u:P.follows .mixedOrders=true)(e:CO l.toArray n a.tmps.size=true)(h:GV l.toArray n=true)
  (V:Nat→(Nat→a1)→a7→Prop)
  (g:∀ i vs vs' w',i<n→(∀ j,j=i∨By l.toArray i j→vs j=vs' j)→V i vs w'→V i vs' w')
  (f:∀ i vs w' c,i<n→V i vs w'→Bl w' c→V i vs c)
  (k:∀ i o,l[i]? =Z o→i<n→∀ vs w',Bl w w'→(∀ j,By l.toArray i j→V j vs w')→Bd P o (Ar l.toArray vs a n) w' (fun v c=>Bl w' c∧V i (fun j=>if j=i then v else vs j) c))
  (hend:∀ vs w',Bl w w'→(∀ i,i<n→V i vs w')→cc P l.toArray Q (l.drop n) (Ar l.toArray vs a n) w'):
  (b1 id l.toArray true).wp P Q a w:=by
 have q:=(DM e).1;have d:∀ i:Nat,(br l.toArray.size false).getD i false=false:=fun i=>bP _ _
 have r:Cq (br l.toArray.size false) n=n:=by
  clear e h g f k hend q
  induction n with
  |zero=>rfl
  |succ n p=>
   unfold Cq;rw[d,p];simp
 have s:b2 .any l.toArray n (br l.toArray.size false):=
  ⟨by simp,fun j y _ b=>(by rw[d] at b;cases b),fun t _ x=>cd (by simpa using x) (bP _ _)⟩
 refine wp_region_any u ?_;have:=LW (P:=P) (Q:=Q) (w:=w) e h V g f k hend n (br l.toArray.size false) a {w with drawn:=w.drawn+1} r s ⟨fun _=>bV,?_,(bE _ w).drew,fun i _ b=>(by rw[d] at b;cases b)⟩
 ·rw[show n+(l.toArray.size-n)=l.toArray.size by omega] at this;exact this
 ·clear r s e h g f k hend q
  induction n with
  |zero=>rfl
  |succ n p=>
   unfold Ba;rw[d];simpa using p
def Hx:Op→Bool
 | .move _| .assign _| .pick _ _ _| .load _ _| .nilCheck _| .binOp _ _ _ _ _| .unOp _ _ _| .convert _ _ _| .fieldAddr _ _ _| .field _ _ _| .indexAddr _ _ _| .index _ _ _| .extract _ _| .build _ _| .slice _ _ _ _ _| .makeInterface _ _| .makeFunc _ _ _=>true
 | .call c=>match c.callee with| .builtin .len=>true| .builtin .cap=>true| _=>false
 | _=>false
def JI(s:Sem Next):Prop:=∀ (P:bD) (w w':a7) (x:Next),s.run P w=.ok x w'→∃ v,x=.value v
def IE{α:Type}{s:Sem α}{f:α→Sem Next}(h:∀ y,JI (f y)):JI (s>>=f):=fun P w w' x b=>by
 simp only[ci] at b;generalize s.run P w=r at b;cases r with
 |ok u c=>exact h u P c w' x b
 |halt e c=>simp[Result.andThen] at b
def GZ(v:a1):JI (pure (.value v)):=fun P w w' x b=>by
 simp only[Sem.run_pure,Result.ok.injEq] at b;exact⟨v,b.1.symm⟩
def Zo(h:Halt):JI (.halt h):=fun P w w' x b=>by
 simp at b
def L7:JI (runtimePanic .nilDeref):=IE fun _=>Zo _
def Yg{P:bD}{o:bF}(h:Hx o.op=true){ρ:Operand→a1}{w w':a7}{x:Next}(d:(bK ρ o).run P w=.ok x w'):∃ v,x=.value v:=by
 unfold bK at d;cases f:o.op<;>simp only[f,Hx,bj] at h d
 case move=>exact GZ _ _ _ _ _ d
 case assign=>exact GZ _ _ _ _ _ d
 case nilCheck y=>
  split at d
  ·exact L7 _ _ _ _ d
  ·exact L7 _ _ _ _ d
  ·exact L7 _ _ _ _ d
  ·split at d
   ·exact L7 _ _ _ _ d
   ·refine IE (fun y=>IE fun z=>?_) _ _ _ _ d;split
    ·exact IE fun _=>GZ _
    ·exact GZ _
   ·exact GZ _ _ _ _ _ d
  ·exact GZ _ _ _ _ _ d
 case call c=>
  cases e:c.callee with
  |builtin b=>
   simp only[e] at h;simp only[resolve,e,pure_bind,invoke] at d;cases b<;>simp only[bj] at h
   ·exact IE (fun _=>GZ _) _ _ _ _ d
   ·exact IE (fun _=>GZ _) _ _ _ _ d
  |value x=>simp only[e,bj] at h
  |invoke r n=>simp only[e,bj] at h
 all_goals exact IE (fun _=>GZ _) _ _ _ _ d
def Du(P:bD)(ops:Array bF)(mk:Nat→Bool)(V:Nat→a1→a7→Prop)(w:a7)(E:(Nat→a1)→Act→Prop):Nat→List bF→(Nat→a1)→Act→Prop
 | _,[],vs,A=>E vs A
 |i,o::rest,vs,A=>
  if mk i then
   (∀ w',Bl w w'→(∀ j,mk j=true→By ops i j→V j (vs j) w')→Bd P o A w' (fun v b=>Bl w' b∧V i v b))∧
   ∀ v w',Bl w w'→V i v w'→Du P ops mk V w E (i+1) rest (fun j=>if j=i then v else vs j) (A.put o.dst v)
  else o.quiet P A (fun w'=>∃ p:Ak w,w'=p.W) (Du P ops mk V w E (i+1) rest vs)
def MX(ops:Array bF)(mk:Nat→Bool)(n:Nat):Bool:=(bw n).all fun i=>mk i||match ops[i]? with|none=>false|some o=>Hx o.op
def Bg(P:bD)(o:bF)(A:Act)(w:a7)(u:a1):Prop:=(bK A.eval o).run P w=.ok (.value u) w
def D1{P:bD}{o:bF}{A:Act}{C:a7→Prop}{w:a7}{u:a1}(b:Hx o.op=true)(h:o.quietAt P A C w u):Bg P o A w u:=by
 unfold Oper.quietAt at h;unfold Bg;generalize c:(bK A.eval o).run P w=r at h;cases r with
 |ok x d=>
  obtain⟨v,rfl⟩:=Yg b c;simp only[cg] at h;rw[h.1,h.2]
 |halt e d=>simp only[cg] at h
def Mv{P:bD}{o:bF}{a:Act}{w:a7}{b:a1→a7→Prop}(h:Bd P o a w b):∃ v w',b v w':=by
 unfold Bd at h;generalize (bK a.eval o).run P w=r at h;cases r with
 |ok n d=>
  cases n<;>simp only[Iv] at h
  case value v=>exact⟨_,_,h⟩
  case skip=>exact⟨_,_,h⟩
  case enter f args=>
   obtain⟨e,w',g,⟨v,_,c⟩,_⟩:=h [];exact⟨v,w',c⟩
 |halt e d=>simp only[Iv] at h
def IY{P:bD}{o:bF}{a b:Act}{w:a7}{c:a1→a7→Prop}(d:bK a.eval o=bK b.eval o)(h:Bd P o a w c):Bd P o b w c:=by
 unfold Bd at*;rw[←d];exact h
def KR{P:bD}{o:bF}{a:Act}{w:a7}{c d:a1→a7→Prop}(h:Bd P o a w c)(b:∀ v w',c v w'→d v w'):Bd P o a w d:=by
 unfold Bd at*;generalize (bK a.eval o).run P w=r at*;cases r with
 |ok n w'=>
  cases n<;>simp only[Iv] at h ⊢
  case value u=>exact b _ _ h
  case skip=>exact b _ _ h
  case enter f args=>exact h.mono fun e j ⟨v,g,i⟩=>⟨v,g,b _ _ i⟩
 | _=>simp only[Iv] at h
section
variable {mk:Nat→Bool} {V:Nat→a1→a7→Prop} {E:(Nat→a1)→Act→Prop}
def I3{us vs:Nat→a1}:∀ n,(∀ j,j<n→us j=vs j)→Ar ops us a n=Ar ops vs a n
 |0,_=>rfl
 |n+1,h=>by
  simp only[Ar];rw[I3 n (fun j b=>h j (by omega)),h n (bN n)]
def Gf(P:bD)(ops:Array bF)(n:Nat)(mk:Nat→Bool)(V:Nat→a1→a7→Prop)(a:Act)(w:a7)(i:Nat)(vs:Nat→a1)(w':a7):Prop:=
 if mk i then V i (vs i) w' else ∀ o,ops[i]? =Z o→Bg P o (Ar ops vs a n) w (vs i)
def Px(x:CO ops n a.tmps.size=true)(hp:MX ops mk n=true)(N:∀ i v w' ac,V i v w'→Bl w' ac→V i v ac)
  (X:ops=l.toArray) (H:Du P ops mk V w E 0 (l.take n) (fun _=>bV) a) (S:Nat→Prop) (hS:∀ i j,i<n→S i→BH ops i j=true→S j)
  (vs:Nat→a1) (w':a7) (an:Bl w w') (ab:∀ i,i<n→S i→Gf P ops n mk V a w i vs w'):
  ∀ k,k≤n→∃ (us z:Nat→a1) (g:a7),Du P ops mk V w E k ((l.take n).drop k) z (Ar ops us a k)∧(∀ j,j<k→S j→us j=vs j)∧(∀ j,j<k→mk j=true→z j=us j)∧
   Bl w g∧(∀ j,j<k→mk j=true→V j (us j) g)∧(∀ j,j<n→S j→mk j=true→V j (vs j) g):=by
 have hn:=(DM x).1;have ar:n≤l.length:=by simpa[X] using hn
 intro k
 induction k with
 |zero=>exact fun _=>⟨fun _=>bV,fun _=>bV,w',by rw[b4];exact H,fun j b=>absurd b (by omega),fun j b=>absurd b (by omega),an,fun j b=>absurd b (by omega),fun j b d r=>by
   have:=ab j b d;simpa only[Gf,r,if_true] using this⟩
 |succ k ih=>
  intro hk;obtain⟨us,z,g,p,B,C,u,D,F⟩:=ih (by omega);have ai:k<l.length:=by omega
  have af:(l.take n).drop k=l[k]::(l.take n).drop (k+1):=by
   rw[bJ (by simp;omega)];simp
  have y:ops[k]? =Z l[k]:=by simp[X,ai]
  rw[af] at p;have ag:Av ops k=l[k].dst:=by simp[Av,y]
  have aa:∀ v,(Ar ops us a k).put l[k].dst v=Ar ops (fun j=>if j=k then v else us j) a (k+1):=fun v=>by
   simp only[Ar,if_true,ag];rw[I3 (us:=us) (vs:=fun j=>if j=k then v else us j) k (fun j b=>by simp only[if_neg (show¬j=k by omega)])]
  simp only[Du] at p;by_cases r:mk k=true
  ·simp only[r,if_true] at p;obtain⟨A,t⟩:=p;have ap:∃ v o,Bl g o∧V k v o∧(S k→v=vs k):=by
    by_cases M:S k
    ·exact⟨vs k,g,bE _ _,F k (by omega) M r,fun _=>rfl⟩
    ·obtain⟨v,o,q,f⟩:=Mv (A g u (fun j b ha=>by
      have:=ha.lt x (by omega);rw[C j this b];exact D j this b))
     exact⟨v,o,q,f,fun h=>absurd h M⟩
   obtain⟨v,o,q,f,am⟩:=ap;have R:Bl w o:=u.trans (q.mono u.size);have L:=t v o R f;rw[aa v] at L;refine⟨_,_,o,L,fun j b d=>?_,fun j b c=>?_,R,fun j b c=>?_,fun j b d c=>N _ _ _ _ (F j b d c) q⟩
   ·by_cases e:j=k
    ·subst e;simp only[if_true];exact am d
    ·rw[if_neg e];exact B j (by omega) d
   ·by_cases e:j=k
    ·simp only[e,if_true]
    ·simp only[if_neg e];exact C j (by omega) c
   ·by_cases e:j=k
    ·subst e;simp only[if_true];exact f
    ·rw[if_neg e];exact N _ _ _ _ (D j (by omega) c) q
  ·have s:mk k=false:=by simpa using r
   simp only[s,bj,if_false] at p;obtain⟨v,A,t⟩:=p;rw[aa v] at t;have al:Hx l[k].op=true:=by
    have:=bC.1 hp k (bM.2 (by omega));simpa[s,y] using this
   refine⟨_,z,g,t,fun j b d=>?_,fun j b c=>?_,u,fun j b c=>?_,F⟩
   ·by_cases e:j=k
    ·subst e;simp only[if_true];have K:=D1 al (A w ⟨⟨w,bE _ w⟩,rfl⟩);have f:=ab j (by omega) d;simp only[Gf,s,bj,if_false] at f;have f:=f _ y;have he:=E7 x y (by omega) (bo _) (by omega) (show j≤n by omega) (bo _) (us:=us) (vs:=vs) (fun i W=>B i (CD x (by omega) W) (hS j i (by omega) d W));unfold Bg at K f;rw[he,f] at K;simpa using K.symm
    ·rw[if_neg e];exact B j (by omega) d
   ·have e:j≠k:=by rintro rfl;rw[s] at c;cases c
    rw[if_neg e];exact C j (by omega) c
   ·have e:j≠k:=by rintro rfl;rw[s] at c;cases c
    rw[if_neg e];exact D j (by omega) c
def ZO(n:Nat)(mk:Nat→Bool)(V:Nat→a1→a7→Prop)(s:P.follows .mixedOrders=true)(e:CO l.toArray n a.tmps.size=true)(hr:GV l.toArray n=true)(C:MX l.toArray mk n=true)
  (x:∀ i v w' t,V i v w'→Bl w' t→V i v t)
  (H:Du P l.toArray mk V w (fun vs A=>∀ w',Bl w w'→(∀ j,j<n→mk j=true→V j (vs j) w')→cc P l.toArray Q (l.drop n) A w') 0 (l.take n) (fun _=>bV) a):
  (b1 id l.toArray true).wp P Q a w:=by
 have hn:=(DM e).1;have an:n≤l.length:=by simpa using hn
 refine N5 n s e hr (Gf P l.toArray n mk V a w) ?_ ?_ ?_ ?_
 ·intro i vs vs' w' c b h;unfold Gf at*;split
  ·rename_i f;rw[if_pos f] at h;rw[←b i (.inl rfl)];exact h
  ·rename_i f;rw[if_neg f] at h;intro o r;have d:=h o r;unfold Bg at*;rw[←b i (.inl rfl),←E7 e r c (bt c) (bo _) (bt c) (bo _) (fun j ad=>b j (.inr (.base ad)))];exact d
 ·intro i vs w' t c h q;unfold Gf at*;split
  ·rename_i f;rw[if_pos f] at h;exact x _ _ _ _ h q
  ·rename_i f;rw[if_neg f] at h;exact h
 ·intro i o r c vs w' q K;obtain⟨us,xs,w1,d,p,u,W,X,h6⟩:=Px e C x rfl H (fun j=>By l.toArray i j) (fun j k _ d p=>d.QG p) vs w' q (fun j _ b=>K j b) i (bt c);have ac:i<l.length:=by omega
  have ae:l[i]=o:=by
   rw[bu ac] at r;exact bq r
  have ab:(l.take n).drop i=o::(l.take n).drop (i+1):=by
   rw[bJ (by simp;omega)];simp[ae]
  have B:l.toArray[i]? =Z o:=by simpa using r
  rw[ab] at d;simp only[Du] at d;have L:=E7 e B c (bo _) (bt c) (bt c) (bo _) (us:=us) (vs:=vs) (fun j b=>p j (CD e c b) (.base b));by_cases f:mk i=true
  ·simp only[f,if_true] at d;have g:=d.1 w' q (fun j b y=>by
    have M:=y.lt e c;rw[u j M b,p j M y];have:=K j y;simpa only[Gf,b,if_true] using this)
   refine KR (IY L g) fun v t h=>⟨h.1,?_⟩;simp only[Gf,f,if_true];exact h.2
  ·have z:mk i=false:=by simpa using f
   simp only[z,bj,if_false] at d;obtain⟨v,D,_⟩:=d;have N:Hx o.op=true:=by
    have:=bC.1 C i (bM.2 c);simpa[z,r] using this
   have S:=D1 N (D w' ⟨⟨w',q⟩,rfl⟩);have R:=D1 N (D w ⟨⟨w,bE _ w⟩,rfl⟩);refine IY L ?_;unfold Bg at S R;unfold Bd;rw[S];refine⟨bE _ _,?_⟩;simp only[Gf,z,bj,if_false,if_true];intro o2 ah;obtain rfl:o2=o:=bq (ah.symm.trans B);unfold Bg;rw[←E7 e B c (bo _) (bt c) (bt c) (bo _) (us:=us) (vs:=fun j=>if j=i then v else vs j) (fun j b=>by
    have:=CD e c b;rw[if_neg (by omega)];exact p j this (.base b))]
   exact R
 ·intro vs w' q F;obtain⟨us,xs,w1,d,p,u,W,X,h6⟩:=Px e C x rfl H (fun j=>j<n) (fun i j c _ hw=>by have:=CD e c hw;omega) vs w' q (fun i c _=>F i c) n (bo _);have ag:(l.take n).drop n=[]:=by simp
  rw[ag] at d;simp only[Du] at d;have:=d w' q (fun j b s=>by
   rw[u j b s,p j b b];have:=F j b;simpa only[Gf,s,if_true] using this)
  rw[I3 n (fun j b=>p j b b)] at this;exact this
end
section
variable {mk:Nat→Bool} {V:Nat→a1→a7→Prop} {E:(Nat→a1)→Act→Prop} {i k:Nat} {o:bF} {rest:List bF} {vs:Nat→a1} {A:Act}
def Xq(b:mk i=false)(h:∀ K:Act→Prop,(∀ a,Du P ops mk V w E (i+1) (rest.take k) vs a→K a)→o.quiet P A (fun w'=>∃ p:Ak w,w'=p.W) K):Du P ops mk V w E i ((o::rest).take (k+1)) vs A:=by
 rw[bL];simp only[Du,b,bj,if_false];exact h _ fun _ h=>h
def Xp(d:mk i=true)(c:∀ w',Bl w w'→(∀ j,mk j=true→By ops i j→V j (vs j) w')→Bd P o A w' (fun v b=>Bl w' b∧V i v b))
  (e:∀ v w',Bl w w'→V i v w'→Du P ops mk V w E (i+1) (rest.take k) (fun j=>if j=i then v else vs j) (A.put o.dst v)):Du P ops mk V w E i ((o::rest).take (k+1)) vs A:=by
 rw[bL];simp only[Du,d,if_true];exact⟨c,e⟩
def BN(h:E vs A):Du P ops mk V w E i (rest.take 0) vs A:=by
 rw[ch];exact h
def AD{f:FuncId}{al:List a1}{c:Call}{b:a1→a7→Prop}(s:o.op=.call c)(j:c.callee=.value (.func f))(g:c.args.toList.map A.eval=al)(d:∀ args w,(callFunc f args).run P w=.ok (.enter f args) w)
  {w':a7} (h:Calls P f al.toArray w' (fun e t=>∃ v,e=.returned v∧b v t)):Bd P o A w' b:=by
 refine OO (f:=f) (args:=al.toArray) (w':=w') ?_ h;have q:Array.map A.eval c.args=al.toArray:=Array.ext' (by rw[Array.toList_map,g]);have p:A.eval (.func f)=.func (.func f) #[] #[]:=rfl;have r:∀ args:Array a1,(b9 (.func (.func f) #[] #[]) args).run P w'=.ok {target:=.fn (.func f) #[],args:=args} w':=fun args=>by
  simp[b9]
 unfold bK;simp only[s,resolve,j,p,ci,q];rw[r];simp only[Result.andThen_ok,invoke,Array.append_empty];exact d _ _
end
@[reducible] def Mk:=List (Nat×(a1→a7→Prop))
def AP(M:Mk)(i:Nat):Bool:=(M.lookup i).isSome
def AZ(M:Mk)(i:Nat)(v:a1)(w:a7):Prop:=match M.lookup i with|some f=>f v w|none=>True
def DO(f:a1→a7→Prop):Prop:=∀ v w w',f v w→Bl w w'→f v w'
def Kv:Mk→Prop
 | []=>True
 |x::M=>DO x.2∧Kv M
def Ly:∀ {M:Mk} {i:Nat} {f:a1→a7→Prop},Kv M→M.lookup i=Z f→DO f
 | [],_,_,_,h=>by cases h
 |(k,g)::M,i,f,b,h=>by
  simp only[List.lookup] at h;split at h
  ·injection h with h;subst h;exact b.1
  ·exact Ly b.2 h
def Ch{p:a1→Prop}:DO fun v _=>p v:=fun _ _ _ h _=>h
section
variable {M:Mk} {E:(Nat→a1)→Act→Prop} {i k:Nat} {o:bF} {rest:List bF} {vs:Nat→a1} {A:Act}
def BQ(n:Nat)(M:Mk)(t:Kv M)
  (H:Du P l.toArray (AP M) (AZ M) w (fun vs A=>∀ w',Bl w w'→(∀ j f,j<n→M.lookup j=Z f→f (vs j) w')→cc P l.toArray Q (l.drop n) A w') 0 (l.take n) (fun _=>bV) a)(q:P.follows .mixedOrders=true:=by kernel_rfl)(g:CO l.toArray n a.tmps.size=true:=by kernel_rfl)(s:GV l.toArray n=true:=by kernel_rfl)(r:MX l.toArray (AP M) n=true:=by kernel_rfl):
  (b1 id l.toArray true).wp P Q a w:=by
 refine ZO n (AP M) (AZ M) q g s r (fun i v w' u h e=>?_) ?_
 ·unfold AZ at*;cases b:M.lookup i with
  |none=>trivial
  |some f=>
   rw[b] at h;exact Ly t b v w' u h e
 ·have:(fun(vs:Nat→a1) (A:Act)=>∀ w',Bl w w'→(∀ j f,j<n→M.lookup j=Z f→f (vs j) w')→cc P l.toArray Q (l.drop n) A w')=(fun vs A=>∀ w',Bl w w'→(∀ j,j<n→AP M j=true→AZ M j (vs j) w')→cc P l.toArray Q (l.drop n) A w'):=by
   funext vs A;refine forall_congr fun w'=>?_
   refine forall_congr fun e=>?_
   refine propext ⟨fun h d=>h fun j f c b=>?_,fun h d=>h fun j c p=>?_⟩
   ·have:=d j c (by simp[AP,b]);simpa[AZ,b] using this
   ·unfold AP at p;unfold AZ;cases b:M.lookup j with
    |none=>trivial
    |some f=>exact d j f c b
  rw[←this];exact H
def AK(b:AP M i=false)(h:∀ K:Act→Prop,(∀ a,Du P ops (AP M) (AZ M) w E (i+1) (rest.take k) vs a→K a)→o.quiet P A (fun w'=>∃ p:Ak w,w'=p.W) K):Du P ops (AP M) (AZ M) w E i ((o::rest).take (k+1)) vs A:=
 Xq b h
def Ca{f:a1→a7→Prop}(c:M.lookup i=Z f)(q:∀ w',Bl w w'→(∀ j g,M.lookup j=Z g→By ops i j→g (vs j) w')→Bd P o A w' (fun v e=>Bl w' e∧f v e))
  (r:∀ v w',Bl w w'→f v w'→Du P ops (AP M) (AZ M) w E (i+1) (rest.take k) (fun j=>if j=i then v else vs j) (A.put o.dst v)):Du P ops (AP M) (AZ M) w E i ((o::rest).take (k+1)) vs A:=by
 refine Xp (by simp[AP,c]) (fun w' b h=>?_) (fun v w' b s=>r v w' b (by simpa[AZ,c] using s));have:=q w' b (fun j g d p=>by
  have:=h j (by simp[AP,d]) p;simpa[AZ,d] using this)
 simpa[AZ,c] using this
def EY{P:bD}{o:bF}{A:Act}{c:a1→a7→Prop}{w':a7}(b:Obj)(e:(bK A.eval o).run P w'=.ok (.value (G (Z ⟨w'.heap.size,0,O⟩))) (w'.alloc b))
  (h:c (G (Z ⟨w'.heap.size,0,O⟩)) (w'.alloc b)):Bd P o A w' (fun v d=>Bl w' d∧c v d):=
 Bn e ⟨(bE _ _).alloc (bo _) _,h⟩
end
end
def qC{w:a7}{r:Addr}{v:a1}(h:w.cell? r=Z v)(a:r.block<w.heap.size):∀ p:Ak w,p.W.cell? r=Z v:=fun p=>(p.h.cell a).trans h
section
variable {w:a7} {b:Nat} {t:bQ} {r:List a1}
def q2{c d:a1}{f:Nat×Nat}(h:w.heap[b]? =Z (T (bG (c::d::r)) t f)):(∀ p:Ak w,p.W.cell? ⟨b,0,O⟩=Z c)∧(∀ p:Ak w,p.W.cell? ⟨b,1,O⟩=Z d):=by
 have a:=(aS.1 h).1;obtain⟨e,g⟩:=r2 h;exact⟨qC e a,qC g a⟩
def q3{c d e:a1}{f:Nat×Nat}(h:w.heap[b]? =Z (T (bG (c::d::e::r)) t f)):(∀ p:Ak w,p.W.cell? ⟨b,0,O⟩=Z c)∧(∀ p:Ak w,p.W.cell? ⟨b,1,O⟩=Z d)∧(∀ p:Ak w,p.W.cell? ⟨b,2,O⟩=Z e):=by
 have a:=(aS.1 h).1;obtain⟨g,i,j⟩:=r3 h;exact⟨qC g a,qC i a,qC j a⟩
def q4{c d e g:a1}{f:Nat×Nat}(h:w.heap[b]? =Z (T (bG (c::d::e::g::r)) t f)):(∀ p:Ak w,p.W.cell? ⟨b,0,O⟩=Z c)∧(∀ p:Ak w,p.W.cell? ⟨b,1,O⟩=Z d)∧(∀ p:Ak w,p.W.cell? ⟨b,2,O⟩=Z e)∧(∀ p:Ak w,p.W.cell? ⟨b,3,O⟩=Z g):=by
 have a:=(aS.1 h).1;obtain⟨i,j,k,l⟩:=r4 h;exact⟨qC i a,qC j a,qC k a,qC l a⟩
def q5{c d e g i:a1}{f:Nat×Nat}(h:w.heap[b]? =Z (T (bG (c::d::e::g::i::r)) t f)):(∀ p:Ak w,p.W.cell? ⟨b,0,O⟩=Z c)∧(∀ p:Ak w,p.W.cell? ⟨b,1,O⟩=Z d)∧(∀ p:Ak w,p.W.cell? ⟨b,2,O⟩=Z e)∧(∀ p:Ak w,p.W.cell? ⟨b,3,O⟩=Z g)∧(∀ p:Ak w,p.W.cell? ⟨b,4,O⟩=Z i):=by
 have a:=(aS.1 h).1;obtain⟨j,k,l,m,n⟩:=r5 h;exact⟨qC j a,qC k a,qC l a,qC m a,qC n a⟩
def q6{c d e g i j:a1}{f:Nat×Nat}(h:w.heap[b]? =Z (T (bG (c::d::e::g::i::j::r)) t f)):(∀ p:Ak w,p.W.cell? ⟨b,0,O⟩=Z c)∧(∀ p:Ak w,p.W.cell? ⟨b,1,O⟩=Z d)∧(∀ p:Ak w,p.W.cell? ⟨b,2,O⟩=Z e)∧(∀ p:Ak w,p.W.cell? ⟨b,3,O⟩=Z g)∧(∀ p:Ak w,p.W.cell? ⟨b,4,O⟩=Z i)∧(∀ p:Ak w,p.W.cell? ⟨b,5,O⟩=Z j):=by
 have a:=(aS.1 h).1;obtain⟨k,l,m,n,o,q⟩:=r6 h;exact⟨qC k a,qC l a,qC m a,qC n a,qC o a,qC q a⟩
def q7{c d e g i j k:a1}{f:Nat×Nat}(h:w.heap[b]? =Z (T (bG (c::d::e::g::i::j::k::r)) t f)):(∀ p:Ak w,p.W.cell? ⟨b,0,O⟩=Z c)∧(∀ p:Ak w,p.W.cell? ⟨b,1,O⟩=Z d)∧(∀ p:Ak w,p.W.cell? ⟨b,2,O⟩=Z e)∧(∀ p:Ak w,p.W.cell? ⟨b,3,O⟩=Z g)∧(∀ p:Ak w,p.W.cell? ⟨b,4,O⟩=Z i)∧(∀ p:Ak w,p.W.cell? ⟨b,5,O⟩=Z j)∧(∀ p:Ak w,p.W.cell? ⟨b,6,O⟩=Z k):=by
 have a:=(aS.1 h).1;obtain⟨l,m,n,o,q,s,u⟩:=r7 h;exact⟨qC l a,qC m a,qC n a,qC o a,qC q a,qC s a,qC u a⟩
def q8{c d e g i j k l:a1}{f:Nat×Nat}(h:w.heap[b]? =Z (T (bG (c::d::e::g::i::j::k::l::r)) t f)):(∀ p:Ak w,p.W.cell? ⟨b,0,O⟩=Z c)∧(∀ p:Ak w,p.W.cell? ⟨b,1,O⟩=Z d)∧(∀ p:Ak w,p.W.cell? ⟨b,2,O⟩=Z e)∧(∀ p:Ak w,p.W.cell? ⟨b,3,O⟩=Z g)∧(∀ p:Ak w,p.W.cell? ⟨b,4,O⟩=Z i)∧(∀ p:Ak w,p.W.cell? ⟨b,5,O⟩=Z j)∧(∀ p:Ak w,p.W.cell? ⟨b,6,O⟩=Z k)∧(∀ p:Ak w,p.W.cell? ⟨b,7,O⟩=Z l):=by
 have a:=(aS.1 h).1;obtain⟨m,n,o,q,s,u,v,x⟩:=r8 h;exact⟨qC m a,qC n a,qC o a,qC q a,qC s a,qC u a,qC v a,qC x a⟩
def q9{c d e g i j k l m:a1}{f:Nat×Nat}(h:w.heap[b]? =Z (T (bG (c::d::e::g::i::j::k::l::m::r)) t f)):(∀ p:Ak w,p.W.cell? ⟨b,0,O⟩=Z c)∧(∀ p:Ak w,p.W.cell? ⟨b,1,O⟩=Z d)∧(∀ p:Ak w,p.W.cell? ⟨b,2,O⟩=Z e)∧(∀ p:Ak w,p.W.cell? ⟨b,3,O⟩=Z g)∧(∀ p:Ak w,p.W.cell? ⟨b,4,O⟩=Z i)∧(∀ p:Ak w,p.W.cell? ⟨b,5,O⟩=Z j)∧(∀ p:Ak w,p.W.cell? ⟨b,6,O⟩=Z k)∧(∀ p:Ak w,p.W.cell? ⟨b,7,O⟩=Z l)∧(∀ p:Ak w,p.W.cell? ⟨b,8,O⟩=Z m):=by
 have a:=(aS.1 h).1;obtain⟨n,o,q,s,u,v,x,y,z⟩:=r9 h;exact⟨qC n a,qC o a,qC q a,qC s a,qC u a,qC v a,qC x a,qC y a,qC z a⟩
def q10{c d e g i j k l m n:a1}{f:Nat×Nat}(h:w.heap[b]? =Z (T (bG (c::d::e::g::i::j::k::l::m::n::r)) t f)):(∀ p:Ak w,p.W.cell? ⟨b,0,O⟩=Z c)∧(∀ p:Ak w,p.W.cell? ⟨b,1,O⟩=Z d)∧(∀ p:Ak w,p.W.cell? ⟨b,2,O⟩=Z e)∧(∀ p:Ak w,p.W.cell? ⟨b,3,O⟩=Z g)∧(∀ p:Ak w,p.W.cell? ⟨b,4,O⟩=Z i)∧(∀ p:Ak w,p.W.cell? ⟨b,5,O⟩=Z j)∧(∀ p:Ak w,p.W.cell? ⟨b,6,O⟩=Z k)∧(∀ p:Ak w,p.W.cell? ⟨b,7,O⟩=Z l)∧(∀ p:Ak w,p.W.cell? ⟨b,8,O⟩=Z m)∧(∀ p:Ak w,p.W.cell? ⟨b,9,O⟩=Z n):=by
 have a:=(aS.1 h).1;obtain⟨o,q,s,u,v,x,y,z,A,B⟩:=DV h;exact⟨qC o a,qC q a,qC s a,qC u a,qC v a,qC x a,qC y a,qC z a,qC A a,qC B a⟩
def q11{c d g i j k l m n o e:a1}{f:Nat×Nat}(h:w.heap[b]? =Z (T (bG (c::d::g::i::j::k::l::m::n::o::e::r)) t f)):(∀ p:Ak w,p.W.cell? ⟨b,0,O⟩=Z c)∧(∀ p:Ak w,p.W.cell? ⟨b,1,O⟩=Z d)∧(∀ p:Ak w,p.W.cell? ⟨b,2,O⟩=Z g)∧(∀ p:Ak w,p.W.cell? ⟨b,3,O⟩=Z i)∧(∀ p:Ak w,p.W.cell? ⟨b,4,O⟩=Z j)∧(∀ p:Ak w,p.W.cell? ⟨b,5,O⟩=Z k)∧(∀ p:Ak w,p.W.cell? ⟨b,6,O⟩=Z l)∧(∀ p:Ak w,p.W.cell? ⟨b,7,O⟩=Z m)∧(∀ p:Ak w,p.W.cell? ⟨b,8,O⟩=Z n)∧(∀ p:Ak w,p.W.cell? ⟨b,9,O⟩=Z o)∧(∀ p:Ak w,p.W.cell? ⟨b,10,O⟩=Z e):=by
 have a:=(aS.1 h).1;obtain⟨q,s,v,x,y,z,A,B,C,D,u⟩:=Yn h;exact⟨qC q a,qC s a,qC v a,qC x a,qC y a,qC z a,qC A a,qC B a,qC C a,qC D a,qC u a⟩
def q12{c d i j k l m n o q e g:a1}{f:Nat×Nat}(h:w.heap[b]? =Z (T (bG (c::d::i::j::k::l::m::n::o::q::e::g::r)) t f)):(∀ p:Ak w,p.W.cell? ⟨b,0,O⟩=Z c)∧(∀ p:Ak w,p.W.cell? ⟨b,1,O⟩=Z d)∧(∀ p:Ak w,p.W.cell? ⟨b,2,O⟩=Z i)∧(∀ p:Ak w,p.W.cell? ⟨b,3,O⟩=Z j)∧(∀ p:Ak w,p.W.cell? ⟨b,4,O⟩=Z k)∧(∀ p:Ak w,p.W.cell? ⟨b,5,O⟩=Z l)∧(∀ p:Ak w,p.W.cell? ⟨b,6,O⟩=Z m)∧(∀ p:Ak w,p.W.cell? ⟨b,7,O⟩=Z n)∧(∀ p:Ak w,p.W.cell? ⟨b,8,O⟩=Z o)∧(∀ p:Ak w,p.W.cell? ⟨b,9,O⟩=Z q)∧(∀ p:Ak w,p.W.cell? ⟨b,10,O⟩=Z e)∧(∀ p:Ak w,p.W.cell? ⟨b,11,O⟩=Z g):=by
 have a:=(aS.1 h).1;obtain⟨s,u,y,z,A,B,C,D,E,F,v,x⟩:=Yo h;exact⟨qC s a,qC u a,qC y a,qC z a,qC A a,qC B a,qC C a,qC D a,qC E a,qC F a,qC v a,qC x a⟩
end
structure LA where
 W:a7
instance :Inhabited LA:=⟨⟨default⟩⟩
section
variable {P:bD} {id:Nat} {l:List bF} {Q:Exit→Act→a7→Prop} {a:Act} {w:a7} {ops:Array bF} {n:Nat}
def LU(ops:Array bF)(s:Nat):List Nat:=(bw s).foldr (fun i b=>if b.any (fun j=>BH ops j i) then i::b else b) [s]
def R3{s:Nat}:∀ i∈LU ops s,i=s∨By ops s i:=by
 unfold LU;generalize bw s=r
 induction r with
 |nil=>intro i b;simp at b;exact .inl b
 |cons x r c=>
  intro i b;simp only[List.foldr_cons] at b;split at b
  ·rename_i h;rcases List.mem_cons.1 b with rfl|b
   ·obtain⟨j,f,d⟩:=List.any_eq_true.1 h;rcases c j f with rfl|e
    ·exact .inr (.base d)
    ·exact .inr (e.QG d)
   ·exact c i b
  ·exact c i b
def Lx(ops:Array bF)(n:Nat)(S F:List Nat)(mk:Nat→Bool):Bool:=
 (bw n).filter (fun i=>S.contains i)==S &&
 (match S with
 | []=>false
 |s::_=>let b:=LU ops s;(bw n).all (fun i=>S.contains i||F.contains i||b.contains i)) &&
 (bw n).all (fun i=>S.contains i||mk i||match ops[i]? with|none=>false|some o=>Hx o.op) &&
 S.all (fun i=>!mk i && Av ops i==O) && F.all (fun i=>!mk i && !S.contains i) &&
 (bw (S.length-1)).all (fun m=>BH ops (S.getD (m+1) 0) (S.getD m 0))
structure Ge(ops:Array bF)(n:Nat)(S F:List Nat)(mk:Nat→Bool)(s:Nat):Prop where
 list:(bw n).filter (fun i=>S.contains i)=S
 fst:S[0]? =Z s
 Om:∀ i,i<n→i∉S→i∉F→By ops s i
 Lk:∀ i,i<n→i∉S→mk i=false→∃ o,ops[i]? =Z o∧Hx o.op=true
 DW:∀ i∈S,i<n∧mk i=false∧Av ops i=O
 Gs:∀ i∈F,mk i=false∧i∉S
 IS:∀ m i j,S[m]? =Z i→S[m+1]? =Z j→BH ops j i=true
def Q4{S F:List Nat}{mk:Nat→Bool}(h:Lx ops n S F mk=true):∃ s,Ge ops n S F mk s:=by
 simp only[Lx,bH,beq_iff_eq] at h;obtain⟨⟨⟨⟨⟨d,e⟩,p⟩,q⟩,r⟩,t⟩:=h;cases S with
 |nil=>simp at e
 |cons s k=>
  have A:∀ i∈s::k,i<n:=fun i b=>by
   rw[←d] at b;exact bM.1 (List.mem_filter.1 b).1
  refine⟨s,d,rfl,fun i b c v=>?_,fun i b c z=>?_,fun i b=>?_,fun i b=>?_,fun m i j b g=>?_⟩
  ·have:=bC.1 e i (bM.2 b);simp only[bR,bz] at this;rcases this with (h|h)|h
   ·exact absurd h c
   ·exact absurd h v
   ·rcases R3 i h with rfl|u
    ·exact absurd (List.mem_cons_self ..) c
    ·exact u
  ·have:=bC.1 p i (bM.2 b);simp only[bR,bz,z,bj,or_false] at this;rcases this with h|h
   ·exact absurd h c
   ·split at h
    ·cases h
    ·rename_i o B;exact⟨o,B,h⟩
  ·have:=bC.1 q i b;simp only[bH,bZ,beq_iff_eq] at this;exact⟨A i b,this⟩
  ·have:=bC.1 r i b;simp only[bH,bZ] at this;refine⟨this.1,fun x=>?_⟩;have f:=this.2;rw[bz.2 x] at f;cases f
  ·have y:=(bI.1 g).1;have:=bC.1 t m (bM.2 (by simp at y ⊢;omega));rw[b3,b3,b,g] at this;exact this
def AQ(P:bD)(ops:Array bF)(S F:List Nat)(mk:Nat→Bool)(V:Nat→a1→a7→Prop)(w:a7)(E:List bF→(Nat→a1)→Act→Prop):Nat→List bF→List bF→(Nat→a1)→Act→Prop
 | _,[],os,vs,A=>E os vs A
 |i,o::rest,os,vs,A=>
  if S.contains i then AQ P ops S F mk V w E (i+1) rest (os++ [o]) vs A
  else if mk i then
   (∀ w',Bl w w'→(∀ j,mk j=true→By ops i j→V j (vs j) w')→Bd P o A w' (fun v b=>Bl w' b∧V i v b))∧
   ∀ v w',Bl w w'→V i v w'→AQ P ops S F mk V w E (i+1) rest os (fun j=>if j=i then v else vs j) (A.put o.dst v)
  else if F.contains i then o.quiet P A (fun w'=>∃ p:LA,w'=p.W) (AQ P ops S F mk V w E (i+1) rest os vs)
  else o.quiet P A (fun w'=>∃ p:Ak w,w'=p.W) (AQ P ops S F mk V w E (i+1) rest os vs)
def A7(P:bD)(A:Act):List bF→a7→(a7→Prop)→Prop
 | [],w,K=>K w
 |o::os,w,K=>∃ w',(bK A.eval o).run P w=.ok .skip w'∧A7 P A os w' K
section
variable {S F:List Nat} {mk:Nat→Bool} {V:Nat→a1→a7→Prop} {E:List bF→(Nat→a1)→Act→Prop}
def Dw(P:bD)(ops:Array bF)(n:Nat)(F:List Nat)(mk:Nat→Bool)(V:Nat→a1→a7→Prop)(a:Act)(w:a7)(i:Nat)(vs:Nat→a1)(w':a7):Prop:=
 if mk i then V i (vs i) w' else ∀ o,ops[i]? =Z o→Bg P o (Ar ops vs a n) w (vs i)∧(F.contains i=true→∀ x,Bg P o (Ar ops vs a n) x (vs i))
def Ge.inc{s:Nat}{f:Nat}(c:CO ops n f=true)(h:Ge ops n S F mk s):∀ (q m i j:Nat),S[m]? =Z i→S[m+1+q]? =Z j→i<j
 |0,m,i,j,d,b=>CD c (h.DW j (bs b)).1 (h.IS m i j d b)
 |q+1,m,i,j,d,b=>by
  have o:=(bI.1 b).1;obtain⟨x,e⟩:∃ x,S[m+1+q]? =Z x:=⟨_,bu (by omega)⟩;have g:=Ge.inc c h q m i x d e;have k:=CD c (h.DW j (bs b)).1 (h.IS (m+1+q) x j e b);omega
def KG(C:CO ops n a.tmps.size=true){i:Nat}{o:bF}(u:ops[i]? =Z o)(D:i<n){listed:Array Bool}{us:Nat→a1}(B:∀ j,BH ops i j=true→listed.getD j false=true):
  bK (Ba ops listed us a n).eval o=bK (Ar ops us a n).eval o:=by
 obtain⟨hn,W,h⟩:=DM C;have p:∀ j k,j<n→k<n→j≠k→∀ t,Av ops j=Z t→Av ops k≠Z t:=fun j k b L N t X=>by
  obtain⟨o,H⟩:=h k L;exact(H.apart j b N t X).1
 obtain⟨d,H⟩:=h i D;obtain rfl:d=o:=bq (H.at_.symm.trans u);refine ce d (fun A z=>bS W i d A z u) (fun x hx=>?_);cases x with
 |tmp t=>
  have r:t∈d.looksAt ops:=by
   unfold b6;exact bU _ (bY.2 ⟨.tmp t,by simpa using hx,rfl⟩)
  obtain⟨la,M,R⟩:=Jo (ops:=ops) (vs:=us) (a:=a) n;rw[R];by_cases q:∃ j,j<n∧Av ops j=Z t
  ·obtain⟨j,b,c⟩:=q;have K:j≠i:=by
    rintro rfl;have:d.dst=Z t:=by simpa[Av,H.at_] using c
    exact H.own t this r
   have y:t<a.tmps.size:=by
    obtain⟨oj,m⟩:=h j b;exact m.low t (by simpa[Av,m.at_] using c)
   rw[Hz b (B j ((H.apart j b K t c).2 r)) c y p,Hz b (M j b) c y p]
  ·have s:∀ j,j<n→Av ops j≠Z t:=fun j b e=>q ⟨j,b,e⟩;rw[Gy n (fun j b _=>s j b),Gy n (fun j b _=>s j b)]
 |const v=>rfl
 |global g=>rfl
 |func f=>rfl
def MV(hh:CO ops n a.tmps.size=true)(aT:n=ops.size){s:Nat}(A:Ge ops n S F mk s)(us:Nat→a1)
  (hF:∀ i∈F,∀ o,ops[i]? =Z o→∀ x,Bg P o (Ar ops us a n) x (us i)):
  ∀ (k:Nat) (listed:Array Bool) (w':a7) (m:Nat),Cq listed n=k→b2 .any ops n listed→(∀ i,i<n→listed.getD i false=false→i∈F∨∃ j,m≤j∧S[j]? =Z i)→(∀ j i,m≤j→S[j]? =Z i→listed.getD i false=false)→
   A7 P (Ar ops us a n) ((S.drop m).filterMap (fun i=>ops[i]?)) w' (Q .normal (Ar ops us a n))→wpAny P .any ops Q k listed (Ba ops listed us a n) w':=by
 obtain⟨hn,aU,ac⟩:=DM hh;have hd:∀ j k,j<n→k<n→j≠k→∀ t,Av ops j=Z t→Av ops k≠Z t:=fun j k b hk N t ht=>by
  obtain⟨o,H⟩:=ac k hk;exact(H.apart j b N t ht).1
 intro k
 induction k with
 |zero=>
  intro listed w' m hu R u C f;have K:=Ie hu;rw[Jp n K];have hm:S.drop m=[]:=by
   apply List.drop_eq_nil_of_le;apply b0;intro p;obtain⟨x,c⟩:∃ x,S[m]? =Z x:=⟨_,bu (by omega)⟩;have D:=C m x (bo _) c;rw[K x (A.DW x (bs c)).1] at D;cases D
  rw[hm] at f;refine⟨?_,f⟩;apply List.eq_nil_iff_forall_not_mem.2;intro i L;obtain⟨aJ,o,ho,_⟩:=bT.1 L;have p:=(aS.1 ho).1;have u:=K i (by omega);rw[ca aJ] at u;cases u
 |succ k ih=>
  intro listed w' m hu R u C f;obtain⟨i0,ay,aK,aD⟩:=I9 (listed:=listed) (n:=n) (by omega);have aV:=R.size;have aL:listed.getD i0 true=false:=cd (by omega) aK;have ap:i0∈b5 .any ops listed:=by
   obtain⟨o,H⟩:=ac i0 ay;exact bT.2 ⟨aL,o,H.at_,fun e X W=>aD e.on (H.back e X W)⟩
  refine⟨fun h=>(by rw[h] at ap;cases ap),fun i L=>?_⟩;obtain⟨az,o',r,K⟩:=bT.1 L;have y:i<n:=by have:=(aS.1 r).1;omega
  obtain⟨o,H⟩:=ac i y;obtain rfl:o=o':=bq (H.at_.symm.trans r);have p:i<listed.size:=by have:=(aS.1 r).1;omega
  have ad:listed.getD i false=false:=ca az;have ak:∀ j,BH ops i j=true→listed.getD j false=true:=fun j b=>by
   obtain⟨e,X,W,rfl⟩:=(G6 H.at_).1 b;exact K e X W
  have aO:bO o (yielded ops (Ba ops listed us a n).tmps)=true:=by simp[bO,H.Jh]
  have al:=KG hh r y (us:=us) ak;have aj:Av ops i=o.dst:=by simp[Av,r]
  have am:Cq (listed.setIfInBounds i true) n=k:=by
   have:=IA p ad (n:=n) y;omega
  have ao:∀ v,(i∈F→v=us i)→(i∉F→o.dst=O)→(Ba ops listed us a n).put o.dst v=Ba ops (listed.setIfInBounds i true) us a n:=fun v hv aF=>by
   have h5:=Jq (ops:=ops) (listed:=listed) (vs:=us) (a:=a) (n:=n) (v:=us i) y p ad hd;have h6:(fun j=>if j=i then us i else us j)=us:=by
    funext j;by_cases e:j=i
    ·rw[if_pos e,e]
    ·rw[if_neg e]
   rw[h6] at h5;rw[h5,aj];by_cases g:i∈F
   ·rw[hv g]
   ·rw[aF g];rfl
  unfold wpOp;simp only[r,aO,if_true];rcases u i y ad with g|⟨j,aR,b⟩
  ·have an:=hF i g o r w';have hg:Bd P o (Ar ops us a n) w' (fun v M=>v=us i∧M=w'):=by
    unfold Bd;unfold Bg at an;rw[an];exact⟨rfl,rfl⟩
   refine .inl (Hr al hg fun v M hp=>?_);obtain⟨rfl,rfl⟩:=hp;rw[ao _ (fun _=>rfl) (fun h=>absurd g h)];refine ih _ _ m am (R.set L y) (fun q B d=>?_) (fun q x B c=>?_) f
   ·rw[Dk p] at d;split at d
    ·cases d
    ·exact u q B d
   ·rw[Dk p,if_neg]
    ·exact C q x B c
    ·rintro rfl;exact(A.Gs x g).2 (bs c)
  ·have aA:j=m:=by
    apply b0;intro N;have ae:=(bI.1 b).1;obtain⟨x,c⟩:∃ x,S[j-1]? =Z x:=⟨_,bu (by omega)⟩;have hw:=A.IS (j-1) x i c (by rw[←b];congr 1;omega);have D:=C (j-1) x (by omega) c;rw[ak x hw] at D;cases D
   subst aA;have ae:=(bI.1 b).1;have aw:S.drop j=i::S.drop (j+1):=by
    rw[bJ ae]
    congr 1
    rw[bu ae] at b;exact bq b
   rw[aw,List.filterMap_cons,r] at f;obtain⟨w2,hr,f⟩:=f;have aE:i∉F:=fun g=>(A.Gs i g).2 (bs b);have hg:Bd P o (Ar ops us a n) w' (fun v M=>M=w2):=by
    unfold Bd;rw[hr];rfl
   refine .inl (Hr al hg fun v M hp=>?_);subst hp;rw[ao _ (fun h=>absurd h aE) (fun _=>by rw[←aj];exact(A.DW i (bs b)).2.2)];refine ih _ _ (j+1) am (R.set L y) (fun q B d=>?_) (fun q x B c=>?_) f
   ·rw[Dk p] at d;split at d
    ·cases d
    ·rename_i N;rcases u q B d with h|⟨z,hz,ag⟩
     ·exact .inl h
     ·refine .inr ⟨z,?_,ag⟩;rcases cj j z with h|h
      ·omega
      ·obtain rfl:z=j:=by omega
       rw[b] at ag;exact absurd (bq ag).symm N
   ·rw[Dk p,if_neg]
    ·exact C q x (by omega) c
    ·rintro rfl;have:=A.inc hh (q-j-1) j x x b (by rw[←c];congr 1;omega);omega
def Kf(hh:CO ops n a.tmps.size=true){s:Nat}(N:Ge ops n S F mk s)(hV:∀ i v w' ay,V i v w'→Bl w' ay→V i v ay)
  (hl:ops=l.toArray) (H:AQ P ops S F mk V w E 0 (l.take n) [] (fun _=>bV) a) (t:Nat→Prop) (hZ:∀ i j,i<n→t i→BH ops i j=true→t j) (aB:∀ i,t i→i∉S)
  (vs:Nat→a1) (w':a7) (aR:Bl w w') (ax:∀ i,i<n→t i→i∉S→Dw P ops n F mk V a w i vs w'):
  ∀ k,k≤n→∃ (us L:Nat→a1) (r:a7),AQ P ops S F mk V w E k ((l.take n).drop k) (((bw k).filter (fun i=>S.contains i)).filterMap (fun i=>ops[i]?)) L (Ar ops us a k)∧(∀ j,j<k→t j→j∉S→us j=vs j)∧(∀ j,j<k→mk j=true→L j=us j)∧
   Bl w r∧(∀ j,j<k→mk j=true→V j (us j) r)∧(∀ j,j<n→t j→mk j=true→V j (vs j) r)∧((∀ j,j<n→mk j=true→t j)→r=w')∧
   (∀ j,j<k→j∈F→∀ o,ops[j]? =Z o→∀ x,Bg P o (Ar ops us a j) x (us j)):=by
 have hn:=(DM hh).1;have aW:n≤l.length:=by simpa[hl] using hn
 have aT:∀ i,mk i=true→i∉S:=fun i f p=>by rw[(N.DW i p).2.1] at f;cases f
 intro k
 induction k with
 |zero=>exact fun _=>⟨fun _=>bV,fun _=>bV,w',by rw[b4];exact H,fun j b=>absurd b (by omega),fun j b=>absurd b (by omega),aR,fun j b=>absurd b (by omega),fun j b p f=>by
   have:=ax j b p (aT j f);simpa only[Dw,f,if_true] using this,fun _=>rfl,fun j b=>absurd b (by omega)⟩
 |succ k ih=>
  intro hk;obtain⟨us,L,r,g,X,h3,M,h5,h6,h7,h8⟩:=ih (by omega);have aJ:k<l.length:=by omega
  have aE:(l.take n).drop k=l[k]::(l.take n).drop (k+1):=by
   rw[bJ (by simp;omega)];simp
  have K:ops[k]? =Z l[k]:=by simp[hl,aJ]
  rw[aE] at g;have aG:Av ops k=l[k].dst:=by simp[Av,K]
  have av:∀ v,(Ar ops us a k).put l[k].dst v=Ar ops (fun j=>if j=k then v else us j) a (k+1):=fun v=>by
   simp only[Ar,if_true,aG];rw[I3 (us:=us) (vs:=fun j=>if j=k then v else us j) k (fun j b=>by simp only[if_neg (show¬j=k by omega)])]
  have aq:∀ (v:a1),(k∈F→∀ x,Bg P l[k] (Ar ops us a k) x v)→∀ j,j<k+1→j∈F→∀ o,ops[j]? =Z o→∀ x,Bg P o (Ar ops (fun j=>if j=k then v else us j) a j) x ((fun j=>if j=k then v else us j) j):=fun v m j b d o W x=>by
   have hc:Ar ops (fun j=>if j=k then v else us j) a j=Ar ops us a j:=I3 j (fun q hq=>by simp only[if_neg (show¬q=k by omega)]);rw[hc];by_cases e:j=k
   ·subst e;simp only[if_true];rw[K] at W;injection W with W;subst W;exact m d x
   ·simp only[if_neg e];exact h8 j (by omega) d o W x
  have aw:bw (k+1)=bw k++ [k]:=List.range_succ;simp only[AQ] at g;by_cases p:S.contains k=true
  ·rw[if_pos p] at g;have A:k∈S:=bz.1 p;obtain⟨_,B,aF⟩:=N.DW k A;have aL:k∉F:=fun d=>(N.Gs k d).2 A;refine⟨us,L,r,?_,fun j b u D=>?_,fun j b c=>?_,M,fun j b c=>?_,h6,h7,fun j b d=>?_⟩
   ·rw[aw,cb,b7];have e1:([k].filter (fun i=>S.contains i)).filterMap (fun i=>ops[i]?)=[l[k]]:=by simp[A,K]
    rw[e1];have e2:Ar ops us a (k+1)=Ar ops us a k:=by
     simp only[Ar,aF];rfl
    rw[e2];exact g
   ·exact X j (by have:j≠k:=(by rintro rfl;exact D A);omega) u D
   ·exact h3 j (by have:j≠k:=(by rintro rfl;rw[B] at c;cases c);omega) c
   ·exact h5 j (by have:j≠k:=(by rintro rfl;rw[B] at c;cases c);omega) c
   ·exact h8 j (by have:j≠k:=(by rintro rfl;exact aL d);omega) d
  ·have aX:S.contains k=false:=by simpa using p
   have A:k∉S:=fun h=>p (bz.2 h);rw[if_neg p] at g;have aN:((bw (k+1)).filter (fun i=>S.contains i)).filterMap (fun i=>ops[i]?)=((bw k).filter (fun i=>S.contains i)).filterMap (fun i=>ops[i]?):=by
    rw[aw,cb,b7];simp[A]
   rw[aN];by_cases f:mk k=true
   ·rw[if_pos f] at g;obtain⟨C,z⟩:=g;have aj:∃ v y,Bl r y∧V k v y∧(t k→v=vs k)∧(t k→y=r):=by
     by_cases ag:t k
     ·exact⟨vs k,r,bE _ _,h6 k (by omega) ag f,fun _=>rfl,fun _=>rfl⟩
     ·obtain⟨v,y,R,m⟩:=Mv (C r M (fun j b ha=>by
       have:=ha.lt hh (by omega);rw[h3 j this b];exact h5 j this b))
      exact⟨v,y,R,m,fun h=>absurd h ag,fun h=>absurd h ag⟩
    obtain⟨v,y,R,m,aP,aQ⟩:=aj;have ap:Bl w y:=M.trans (R.mono M.size);have g3:=z v y ap m;rw[av v] at g3;refine⟨_,_,y,g3,fun j b u D=>?_,fun j b c=>?_,ap,fun j b c=>?_,fun j b p c=>hV _ _ _ _ (h6 j b p c) R,fun ao=>(aQ (ao k (by omega) f)).trans (h7 ao),aq v (fun d=>by rw[(N.Gs k d).1] at f;cases f)⟩
    ·by_cases e:j=k
     ·subst e;simp only[if_true];exact aP u
     ·rw[if_neg e];exact X j (by omega) u D
    ·by_cases e:j=k
     ·simp only[e,if_true]
     ·simp only[if_neg e];exact h3 j (by omega) c
    ·by_cases e:j=k
     ·subst e;simp only[if_true];exact m
     ·rw[if_neg e];exact hV _ _ _ _ (h5 j (by omega) c) R
   ·have B:mk k=false:=by simpa using f
    rw[if_neg f] at g;obtain⟨o1,aM,ai⟩:=N.Lk k (by omega) A B;obtain rfl:o1=l[k]:=bq (aM.symm.trans K);have aj:∃ v,Bg P l[k] (Ar ops us a k) w v∧(k∈F→∀ x,Bg P l[k] (Ar ops us a k) x v)∧AQ P ops S F mk V w E (k+1) ((l.take n).drop (k+1)) (((bw k).filter (fun i=>S.contains i)).filterMap (fun i=>ops[i]?)) L ((Ar ops us a k).put l[k].dst v):=by
     by_cases d:F.contains k=true
     ·rw[if_pos d] at g;obtain⟨v,C,z⟩:=g;exact⟨v,D1 ai (C w ⟨⟨w⟩,rfl⟩),fun _ x=>D1 ai (C x ⟨⟨x⟩,rfl⟩),z⟩
     ·rw[if_neg d] at g;obtain⟨v,C,z⟩:=g;exact⟨v,D1 ai (C w ⟨⟨w,bE _ w⟩,rfl⟩),fun h=>absurd (bz.2 h) d,z⟩
    obtain⟨v,hq,aO,z⟩:=aj;rw[av v] at z;refine⟨_,L,r,z,fun j b u D=>?_,fun j b c=>?_,M,fun j b c=>?_,h6,h7,aq v aO⟩
    ·by_cases e:j=k
     ·subst e;simp only[if_true];have m:=ax j (by omega) u A;simp only[Dw,B,bj,if_false] at m;have m:=(m _ K).1;have he:=E7 hh K (by omega) (bo _) (by omega) (show j≤n by omega) (bo _) (us:=us) (vs:=vs) (fun i hi=>by
       have aI:=CD hh (by omega) hi;by_cases ar:i∈S
       ·exact absurd ar (aB i (hZ j i (by omega) u hi))
       ·exact X i aI (hZ j i (by omega) u hi) ar)
      unfold Bg at hq m;rw[he,m] at hq;simpa using hq.symm
     ·rw[if_neg e];exact X j (by omega) u D
    ·have e:j≠k:=by rintro rfl;rw[B] at c;cases c
     rw[if_neg e];exact h3 j (by omega) c
    ·have e:j≠k:=by rintro rfl;rw[B] at c;cases c
     rw[if_neg e];exact h5 j (by omega) c
def MU(z:CO l.toArray n a.tmps.size=true)(bc:n=l.toArray.size){s:Nat}(y:Ge l.toArray n S F mk s)(hV:∀ i v w' W,V i v w'→Bl w' W→V i v W)
  (H:AQ P l.toArray S F mk V w (fun os vs A=>∀ w',Bl w w'→(∀ j,j<n→mk j=true→V j (vs j) w')→A7 P A os w' (Q .normal A)) 0 (l.take n) [] (fun _=>bV) a):
  ∀ (k:Nat) (listed:Array Bool) (b:Act) (w':a7),Cq listed n=k→b2 .any l.toArray n listed→(∀ i∈S,listed.getD i false=false)→
   (∃ vs,b=Ba l.toArray listed vs a n∧Bl w w'∧∀ i,i<n→listed.getD i false=true→Dw P l.toArray n F mk V a w i vs w')→wpAny P .any l.toArray Q k listed b w':=by
 obtain⟨hn,bA,ak⟩:=DM z;have hd:∀ j k,j<n→k<n→j≠k→∀ t,Av l.toArray j=Z t→Av l.toArray k≠Z t:=fun j k c hk ba t ht=>by
  obtain⟨o,H⟩:=ak k hk;exact(H.apart j c ba t ht).1
 have aB:∀ {listed:Array Bool},b2 .any l.toArray n listed→∀ i j,i<n→listed.getD i false=true→BH l.toArray i j=true→listed.getD j false=true:=fun {listed} L i j p d hw=>by
  obtain⟨oi,Hi⟩:=ak i p;obtain⟨e,K,ad,rfl⟩:=(G6 Hi.at_).1 hw;exact L.closed i oi Hi.at_ d e K ad
 intro k
 induction k with
 |zero=>
  rintro listed b w' hu L M ⟨vs,rfl,R,ag⟩;have ar:=Ie hu;have r:=y.DW s (bs y.fst);have:=M s (bs y.fst);rw[ar s r.1] at this;cases this
 |succ k ih=>
  rintro listed b w' hu L M ⟨vs,rfl,R,ag⟩;by_cases au:∀ i,i<n→i∉S→i∉F→listed.getD i false=true
  ·obtain⟨us,xs,w1,u,h2,h3,h4,h5,h6,h7,h8⟩:=Kf z y hV rfl H (fun i=>listed.getD i false=true) (fun i j p d hw=>aB L i j p d hw) (fun i d r=>by rw[M i r] at d;cases d) vs w' R (fun i p d _=>ag i p d) n (bo _);have bb:(l.take n).drop n=[]:=by simp
   rw[bb,y.list] at u;simp only[AQ] at u;have bm:w1=w':=h7 fun j c C=>au j c (fun r=>by rw[(y.DW j r).2.1] at C;cases C) (fun B=>by rw[(y.Gs j B).1] at C;cases C);subst bm;have a0:=u w1 h4 (fun j c C=>by
    rw[h3 j c C];exact h5 j c C)
   have bf:Ba l.toArray listed vs a n=Ba l.toArray listed us a n:=Ln n (fun i _=>rfl) (fun i p d=>(h2 i p d (fun r=>by rw[M i r] at d;cases d)).symm);rw[bf];refine MV z bc y us (fun i B o ho x=>?_) (k+1) listed w1 0 hu L (fun i p d=>?_) (fun j i _ c=>M i (bs c)) ?_
   ·have f:i<n:=by have:=(aS.1 ho).1;omega
    have h9:=h8 i f B o ho x;have K:=E7 z ho f (bo _) (bt f) (bt f) (bo _) (us:=us) (vs:=us) (fun _ _=>rfl);unfold Bg at*;rw[←K];exact h9
   ·by_cases r:i∈S
    ·obtain⟨j,c⟩:=b8 r;exact .inr ⟨j,Nat.zero_le _,c⟩
    ·by_cases B:i∈F
     ·exact .inl B
     ·rw[au i p r B] at d;cases d
   ·rw[b4];exact a0
  ·obtain⟨i0,a2,bk,a9⟩:=I9 (listed:=listed) (n:=n) (by omega);have bB:=L.size;have bl:listed.getD i0 true=false:=cd (by omega) bk;have aP:i0∈b5 .any l.toArray listed:=by
    obtain⟨o,H⟩:=ak i0 a2;exact bT.2 ⟨bl,o,H.at_,fun e K ad=>a9 e.on (H.back e K ad)⟩
   refine⟨fun h=>(by rw[h] at aP;cases aP),fun i p=>?_⟩;obtain⟨a5,o',D,ar⟩:=bT.1 p;have f:i<n:=by have:=(aS.1 D).1;omega
   obtain⟨o,H'⟩:=ak i f;obtain rfl:o=o':=bq (H'.at_.symm.trans D);have al:i<listed.size:=by have:=(aS.1 D).1;omega
   have aw:listed.getD i false=false:=ca a5;have ab:∀ j,BH l.toArray i j=true→listed.getD j false=true:=fun j c=>by
    obtain⟨e,K,ad,rfl⟩:=(G6 H'.at_).1 c;exact ar e K ad
   have aJ:∀ j,By l.toArray i j→listed.getD j false=true:=fun j c=>by
    cases c with
    |base h=>exact ab j h
    |step h h2=>exact h2.listed z L (by have:=CD z f h;omega) (ab _ h)
   have av:i∉S:=fun a4=>by
    obtain⟨m,C⟩:=b8 a4;cases m with
    |zero=>
     rw[y.fst] at C;obtain rfl:=bq C;exact au fun q N bh bg=>aJ q (y.Om q N bh bg)
    |succ m=>
     have bx:=(bI.1 C).1;obtain⟨x,hx⟩:∃ x,S[m]? =Z x:=⟨_,bu (by omega)⟩;have h4:=M x (bs hx);rw[ab x (y.IS m x i hx C)] at h4;cases h4
   have bn:bO o (yielded l.toArray (Ba l.toArray listed vs a n).tmps)=true:=by simp[bO,H'.Jh]
   have aY:=KG z D f (us:=vs) ab;obtain⟨us,xs,w1,u,h2,h3,h4,h5,h6,h7,h8⟩:=Kf z y hV rfl H (fun i=>listed.getD i false=true) (fun i j p d hw=>aB L i j p d hw) (fun i d r=>by rw[M i r] at d;cases d) vs w' R (fun i p d _=>ag i p d) i (bt f);have a3:i<l.length:=by have:=(aS.1 D).1;simpa using this
   have a8:l[i]=o:=by
    have h9:l[i]? =Z o:=by simpa using D
    rw[bu a3] at h9;exact bq h9
   have aV:(l.take n).drop i=o::(l.take n).drop (i+1):=by
    rw[bJ (by simp;omega)];simp[a8]
   rw[aV] at u;simp only[AQ] at u;have bi:¬S.contains i=true:=fun h=>av (bz.1 h);rw[if_neg bi] at u;have aI:∀ j,BH l.toArray i j=true→us j=vs j:=fun j c=>h2 j (CD z f c) (ab j c) (fun r=>by have:=M j r;rw[ab j c] at this;cases this);have K:=E7 z D f (bo _) (bt f) (bt f) (bo _) (us:=us) (vs:=vs) aI;have aU:∀ v,∀ j,BH l.toArray i j=true→us j=(fun j=>if j=i then v else vs j) j:=fun v j c=>by
    have:=CD z f c;simp only[if_neg (show¬j=i by omega)];exact aI j c
   have hg:Bd P o (Ar l.toArray vs a n) w' (fun v W=>Bl w' W∧Dw P l.toArray n F mk V a w i (fun j=>if j=i then v else vs j) W):=by
    by_cases am:mk i=true
    ·rw[if_pos am] at u;have g:=u.1 w' R (fun j c ha=>by
      have aL:=ha.lt z f;have aM:=aJ j ha;rw[h3 j aL c,h2 j aL aM (fun r=>by rw[(y.DW j r).2.1] at c;cases c)];have:=ag j (by omega) aM;simpa only[Dw,c,if_true] using this)
     refine KR (IY K g) fun v W h=>⟨h.1,?_⟩;simp only[Dw,am,if_true];exact h.2
    ·have aN:mk i=false:=by simpa using am
     rw[if_neg am] at u;obtain⟨o1,bd,ae⟩:=y.Lk i f av aN;obtain rfl:o1=o:=bq (bd.symm.trans D);have bp:∃ v,Bg P o1 (Ar l.toArray us a i) w v∧Bg P o1 (Ar l.toArray us a i) w' v∧(F.contains i=true→∀ x,Bg P o1 (Ar l.toArray us a i) x v):=by
      by_cases B:F.contains i=true
      ·rw[if_pos B] at u;obtain⟨v,X,_⟩:=u;exact⟨v,D1 ae (X w ⟨⟨w⟩,rfl⟩),D1 ae (X w' ⟨⟨w'⟩,rfl⟩),fun _ x=>D1 ae (X x ⟨⟨x⟩,rfl⟩)⟩
      ·rw[if_neg B] at u;obtain⟨v,X,_⟩:=u;exact⟨v,D1 ae (X w ⟨⟨w,bE _ w⟩,rfl⟩),D1 ae (X w' ⟨⟨w',R⟩,rfl⟩),fun h=>absurd h B⟩
     obtain⟨v,q0,q1,qf⟩:=bp;refine IY K ?_;unfold Bg at q1 q0;unfold Bd;rw[q1];refine⟨bE _ _,?_⟩;simp only[Dw,aN,bj,if_false,if_true];intro o2 be;obtain rfl:o2=o1:=bq (be.symm.trans D);have aK:=E7 z D f (bo _) (bt f) (bt f) (bo _) (us:=us) (vs:=fun j=>if j=i then v else vs j) (aU v);refine⟨?_,fun B x=>?_⟩
     ·unfold Bg;rw[←aK];exact q0
     ·have:=qf B x;unfold Bg at this ⊢;rw[←aK];exact this
   unfold wpOp;simp only[D,bn,if_true];refine .inl (Hr aY hg fun v W hp=>ih _ _ _ ?_ (L.set p f) (fun q N=>?_) ⟨fun j=>if j=i then v else vs j,?_,R.trans (hp.1.mono R.size),fun j c d=>?_⟩)
   ·have:=IA al aw (n:=n) f;omega
   ·rw[Dk al,if_neg (by rintro rfl;exact av N)];exact M q N
   ·have aX:Av l.toArray i=o.dst:=by simp[Av,D]
    rw[Jq f al aw hd,aX]
   ·by_cases e:j=i
    ·subst e;exact hp.2
    ·rw[Dk al,if_neg e] at d;have af:=ag j c d;have a6:∀ q,BH l.toArray j q=true→q≠i:=fun q N=>by
      rintro rfl;have:=aB L j q c d N;rw[aw] at this;cases this
     unfold Dw at af ⊢;split
     ·rename_i ax;rw[if_pos ax] at af;simp only[if_neg e];exact hV _ _ _ _ af hp.1
     ·rename_i ax;rw[if_neg ax] at af;intro oj aO;have aZ:=E7 z aO c (bt c) (bo _) (bt c) (bo _) (us:=vs) (vs:=fun j=>if j=i then v else vs j) (fun q N=>by simp only[if_neg (a6 q N)]);have:=af oj aO;unfold Bg at this ⊢;rw[←aZ];simp only[if_neg e];exact this
def AS(n:Nat)(S F:List Nat)(M:Mk)(z:Kv M)
  (H:AQ P l.toArray S F (AP M) (AZ M) w (fun os vs A=>∀ w',Bl w w'→(∀ j f,j<n→M.lookup j=Z f→f (vs j) w')→A7 P A os w' (Q .normal A)) 0 (l.take n) [] (fun _=>bV) a)(x:P.follows .mixedOrders=true:=by kernel_rfl)(o:n=l.toArray.size:=by kernel_rfl)(r:CO l.toArray n a.tmps.size=true:=by kernel_rfl)(B:Lx l.toArray n S F (AP M)=true:=by kernel_rfl):
  (b1 id l.toArray true).wp P Q a w:=by
 obtain⟨s,q⟩:=Q4 B;have c:∀ i:Nat,(br l.toArray.size false).getD i false=false:=fun i=>bP _ _
 have D:∀ m,Cq (br l.toArray.size false) m=m:=fun m=>by
  induction m with
  |zero=>rfl
  |succ m g=>
   unfold Cq;rw[c,g];simp
 have K:b2 .any l.toArray n (br l.toArray.size false):=
  ⟨by simp,fun j N _ b=>(by rw[c] at b;cases b),fun t _ C=>cd (by simpa using C) (bP _ _)⟩
 have y:∀ m,a=Ba l.toArray (br l.toArray.size false) (fun _=>bV) a m:=fun m=>by
  induction m with
  |zero=>rfl
  |succ m g=>
   unfold Ba;rw[c];simpa using g
 have p:(fun(os:List bF) (vs:Nat→a1) (A:Act)=>∀ w',Bl w w'→(∀ j f,j<n→M.lookup j=Z f→f (vs j) w')→A7 P A os w' (Q .normal A))=(fun os vs A=>∀ w',Bl w w'→(∀ j,j<n→AP M j=true→AZ M j (vs j) w')→A7 P A os w' (Q .normal A)):=by
  funext os vs A;refine forall_congr fun w'=>?_
  refine forall_congr fun k=>?_
  refine propext ⟨fun h e=>h fun j f d b=>?_,fun h e=>h fun j d u=>?_⟩
  ·have:=e j d (by simp[AP,b]);simpa[AZ,b] using this
  ·unfold AP at u;unfold AZ;cases b:M.lookup j with
   |none=>trivial
   |some f=>exact e j f d b
 rw[p] at H;refine wp_region_any x ?_;have:=MU (P:=P) (Q:=Q) (a:=a) r o q (fun i v w' L h k=>by
  unfold AZ at*;cases b:M.lookup i with
  |none=>trivial
  |some f=>
   rw[b] at h;exact Ly z b v w' L h k) H n (br l.toArray.size false) a {w with drawn:=w.drawn+1} (D n) K (fun i _=>c i) ⟨fun _=>bV,y n,(bE _ w).drew,fun i _ b=>(by rw[c] at b;cases b)⟩
 rw[o] at this;exact this
end
section
variable {S F:List Nat} {M:Mk} {E:List bF→(Nat→a1)→Act→Prop} {i k:Nat} {o:bF} {rest os:List bF} {vs:Nat→a1} {A:Act}
def An(b:S.contains i=false)(d:AP M i=false)(c:F.contains i=false)(h:∀ K:Act→Prop,(∀ a,AQ P ops S F (AP M) (AZ M) w E (i+1) (rest.take k) os vs a→K a)→o.quiet P A (fun w'=>∃ p:Ak w,w'=p.W) K):AQ P ops S F (AP M) (AZ M) w E i ((o::rest).take (k+1)) os vs A:=by
 rw[bL];simp only[AQ,b,d,c,bj,if_false];exact h _ fun _ h=>h
def Bi(b:S.contains i=false)(d:AP M i=false)(c:F.contains i=true)(h:∀ K:Act→Prop,(∀ a,AQ P ops S F (AP M) (AZ M) w E (i+1) (rest.take k) os vs a→K a)→o.quiet P A (fun w'=>∃ p:LA,w'=p.W) K):AQ P ops S F (AP M) (AZ M) w E i ((o::rest).take (k+1)) os vs A:=by
 rw[bL];simp only[AQ,b,d,c,bj,if_false,if_true];exact h _ fun _ h=>h
def AH(b:S.contains i=true)(h:AQ P ops S F (AP M) (AZ M) w E (i+1) (rest.take k) (os++ [o]) vs A):AQ P ops S F (AP M) (AZ M) w E i ((o::rest).take (k+1)) os vs A:=by
 rw[bL];simp only[AQ,b,if_true];exact h
def AR(h:E os vs A):AQ P ops S F (AP M) (AZ M) w E i (rest.take 0) os vs A:=by
 rw[ch];exact h
def A9{f:a1→a7→Prop}(h:S.contains i=false)(c:M.lookup i=Z f)(q:∀ w',Bl w w'→(∀ j g,M.lookup j=Z g→By ops i j→g (vs j) w')→Bd P o A w' (fun v e=>Bl w' e∧f v e))
  (s:∀ v w',Bl w w'→f v w'→AQ P ops S F (AP M) (AZ M) w E (i+1) (rest.take k) os (fun j=>if j=i then v else vs j) (A.put o.dst v)):AQ P ops S F (AP M) (AZ M) w E i ((o::rest).take (k+1)) os vs A:=by
 rw[bL];have r:AP M i=true:=by simp[AP,c]
 simp only[AQ,h,r,bj,if_false,if_true];refine⟨fun w' b m=>?_,fun v w' b t=>s v w' b (by simpa[AZ,c] using t)⟩;have:=q w' b (fun j g d p=>by
  have:=m j (by simp[AP,d]) p;simpa[AZ,d] using this)
 simpa[AZ,c] using this
def AI{K:a7→Prop}{w':a7}(b:(bK A.eval o).run P w=.ok .skip w')(h:A7 P A os w' K):A7 P A (o::os) w K:=⟨w',b,h⟩
end
end
section
variable {P:bD} {id:Nat} {l:List bF} {Q:Exit→Act→a7→Prop} {a:Act} {w:a7}
end
def FV(t:Array a1)(d:List Deferred)(k:Tmp)(v:a1):(⟨t,d⟩:Act).put (Z k) v=⟨t.setIfInBounds k v,d⟩:=rfl
def IL(w:a7)(k:Nat)(b:bQ):Prop:=∃ a n c d f e z,w.heap[k]? =Z (T #[Y a n c,Y d f e,I J z] b (0,0))
def QS(v:a1)(x y z:a1):Prop:=v=.agg #[x,y,z]∧∃ a n c b e d u,x=Y a n c∧y=Y b e d∧z=I J u
def IL.next{w w':a7}{k:Nat}{b:bQ}(h:IL w k b)(f:Bl w w'):IL w' k b:=by
 obtain⟨a,n,c,d,g,e,z,h⟩:=h;exact⟨a,n,c,d,g,e,z,(f.block _ (Aa h)).trans h⟩
def IL.put{w:a7}{k:Nat}{b:bQ}{v x y z:a1}(h:IL w k b)(f:QS v x y z):(Ll w k x y z).heap[k]? =Z (T #[x,y,z] b (0,0))∧IL (Ll w k x y z) k b:=by
 obtain⟨a,n,c,j,m,l,u,h⟩:=h;obtain⟨_,d,g,c1,e,i,c2,u2,rfl,rfl,rfl⟩:=f;have:=PT (x:=Y d g c1) (y:=Y e i c2) (z:=I J u2) h;exact⟨this,_,_,_,_,_,_,_,this⟩
section
variable {P:bD} {id:Nat} {l:List bF} {Q:Exit→Act→a7→Prop} {a:Act} {w:a7}
end
end Go.Proofs.YtiepijihpgijbaaGreatDoor
