import Derived.Lib.OthersKept
import Derived.Test.YtiepijihpgijbaaGreatDoorQ21
set_option maxHeartbeats 8000000
set_option maxRecDepth 1000000
set_option linter.all false
open Go.Value renaming int→I,slice→Y,pointer→G
open Go.IntKind renaming u8→U,i64→J
open Option renaming some→Z,none→O
open Go.Obj renaming cells→T
open Option.some renaming inj→an
open Go.RowKit.Below renaming refl→ap
open Nat renaming le_refl→aq,zero_le→aD,lt_of_lt_of_le→a8
open List renaming getD_eq_getElem?_getD→au,getElem?_eq_getElem→ax,not_all_eq_any_not→a6,not_mem_nil→bD,getElem_mem→bE,mem_cons→bF,all_eq_true→bJ,setIfInBounds_toArray→bZ,range→b1,mem_range→b2,drop_succ_cons→cI,set_cons_zero→cJ,set_cons_succ→cK,drop_zero→cS,map_cons→c4,map_nil→c5
open Go renaming heap_alloc_new→ay,World→aA,undef→aE,execOp→a0,Calls→bo,Value→bp
open Array renaming getElem?_eq_some_iff→bA
open Bool renaming true_and→bG,and_eq_true→cR,false_and→c0
open Go.Value.slice renaming injEq→b3
open Go.Deferred renaming ofValue→ci
open Int renaming toNat_natCast→cP
open Go.Instr renaming findNow→cY,next→c6
namespace Go.Proofs.YtiepijihpgijbaaGreatDoor
open Tryz Go.RowKit Go.Shelf
def BD(d:Ad)(n a c v:Int):Bool:=
 if c=119 then decide (1≤v) && decide (v≤2000)
 else if c=108 then decide (a<(d.Ab.length:Int)) && (decide (1≤v) && decide (v≤(d.Ab.getD a.toNat default).size))
 else if c=114 then decide (v<4)
 else if c=118 then decide (v<256)
 else if c=99 then decide (v<256)
 else if c=97 then decide (v<4096)
 else if c=111 then decide (v<(d.Ab.length:Int)) && ((d.Ab.getD v.toNat default).o==true)
 else if c=105 then decide (v<(d.Ab.length:Int)) && ((d.Ab.getD v.toNat default).o==false)
 else if c=115 then decide (v<(d.semas.length:Int))
 else if c=98 then decide (v<(d.bufs.length:Int))
 else if c=101 then decide (v<d.events)
 else if c=100 then decide (v<d.boards)
 else decide (v<n)
def Ki(nm:ByteArray)(x:CV):List bp:=[.string nm,I U x.kind,.bool x.o,I J x.size,I J x.depth,I J x.At]
def Ex(w:aA)(v:bp)(l:List CV):Prop:=∃ a:Nat→ByteArray,AW w v l.length 6 (fun k j=>(Ki (a k) (l.getD k default)).getD j aE)
def Ex.below{w w':aA}{v:bp}{l:List CV}(h:Ex w v l)(a:Bl w w'):Ex w' v l:=by
 obtain⟨b,h⟩:=h;exact⟨b,h.below a⟩
structure GC(w:aA)(g:Nat)(d:Ad):Prop where
 blk:∃ nm pe le sa cs ab cb ao co ac cc,w.heap[g]? =Z (T #[.string nm,I J pe,I J le,I J d.mem,Y sa d.semas.length cs,I J d.events,I J d.boards,Y ab d.bufs.length cb,Y ao d.Ab.length co,Y ac d.procs.length cc] 26 (0,0))∧Ex w (Y ao d.Ab.length co) d.Ab
def GC.below{w w':aA}{g:Nat}{d:Ad}(h:GC w g d)(b:Bl w w'):GC w' g d:=by
 obtain⟨nm,n,m,o,k,c,i,f,co,e,j,a,l⟩:=h.blk;exact⟨nm,n,m,o,k,c,i,f,co,e,j,(b.block _ (Aa a)).trans a,l.below b⟩
def GC.lt{w:aA}{g:Nat}{d:Ad}(h:GC w g d):g<w.heap.size:=by
 obtain⟨nm,m,l,n,j,b,f,e,co,c,i,a,k⟩:=h.blk;exact Aa a
def Ti:EG 141:=fun _ _=>by kernel_rfl
def RY(b a n:Int)(c d:Nat)(w:aA)(f:w.cell? ⟨c,0,O⟩=Z (I J b))(g:w.cell? ⟨d,0,O⟩=Z (I J a)):
  bo prog 141 #[I J n,G (Z ⟨c,0,O⟩),G (Z ⟨d,0,O⟩)] w fun e w'=>e=.returned (.bool (!(decide (b≤n) && decide (n≤a))))∧Bl w w':=by
 by_cases c1:n<b
 ·rw[show (!(decide (b≤n) && decide (n≤a)))=true by simp;omega];go_enter func141,ntmps141;go_wp2;go_ret;exact⟨rfl,ap _ _⟩
 ·by_cases c2:a<n
  ·rw[show (!(decide (b≤n) && decide (n≤a)))=true by simp;omega];go_enter func141,ntmps141;go_wp2;go_ret;exact⟨rfl,ap _ _⟩
  ·rw[show (!(decide (b≤n) && decide (n≤a)))=false by simp;omega];go_enter func141,ntmps141;go_wp2;go_ret;exact⟨rfl,ap _ _⟩
def Oh(d a n:Int)(q c:Nat)(w:aA)(v:w.cell? ⟨q,0,O⟩=Z (I J n))(t:q<w.heap.size)(C:1≤c):
  bo prog 107 #[I J d,I J a,Y (Z ⟨q,0,O⟩) 1 c] w fun e w'=>e=.returned (.bool (decide (d≤n) && decide (n≤a)))∧Bl w w':=by
 obtain⟨f,g⟩:=ex ((w.alloc (T #[I J d] 3)).alloc (T #[I J a] 3));have l:Bl w f:=by rw[g];exact DX w _ _
 have r:f.heap[w.heap.size]? =Z (T #[I J d] 3 (0,0)):=by rw[g];exact(Da w _ _).1
 have s:f.heap[w.heap.size+1]? =Z (T #[I J a] 3 (0,0)):=by rw[g];exact(Da w _ _).2
 have x:=(l.cell (p:=⟨q,0,O⟩) t).trans v;have y:AW f (Y (Z ⟨q,0,O⟩) 1 c) 1 1 (fun _ _=>I J n):=⟨_,_,rfl,C,fun e=>(by cases e),fun _=>⟨q,0,rfl,a8 t l.size,fun k j D E=>by
  obtain rfl:k=0:=by omega
  obtain rfl:j=0:=by omega
  exact x⟩⟩
 have m:=JT _ 1 _ 141 #[G (Z ⟨w.heap.size,0,O⟩),G (Z ⟨w.heap.size+1,0,O⟩)] (fun _=>!(decide (d≤n) && decide (n≤a))) Ti f y (by omega)
  (fun k D W i=>(RY d a n w.heap.size (w.heap.size+1) W (Cr ((i.block _ (Aa r)).trans r)) (Cr ((i.block _ (Aa s)).trans s))).mono fun e w' h=>⟨h.1,i.trans (h.2.mono i.size)⟩)
 rw[show DQ (fun _=>!(decide (d≤n) && decide (n≤a))) 1=!(decide (d≤n) && decide (n≤a)) by simp[DQ,List.range_succ]] at m;generalize (decide (d≤n) && decide (n≤a))=b at m ⊢;obtain⟨z,u,A⟩:=H3 m l g;clear m l r s g y x v t;go_enter func107,ntmps107;go_wp2_with (rw[←A.o];go_at_call 55;refine z.o.mono ?_;rintro e w' ⟨rfl,B⟩);go_ret;exact⟨by simp,u.o.trans (B.mono u.o.size)⟩
def VN(n:Int)(w:aA):bo prog 106 #[I J n] w fun e w'=>e=.returned (.bool (decide (1≤n) && decide (n≤2000)))∧Bl w w':=by
 obtain⟨c,a⟩:=ex (w.alloc (T #[I J n] 3));have h:Bl w c:=by rw[a];exact(ap _ w).alloc (aq _) _
 have d:c.heap[w.heap.size]? =Z (T #[I J n] 3 (0,0)):=by rw[a];exact ay _ _
 have g:=HH (Oh 1 2000 n w.heap.size 1 c (Cr d) (Aa d) (aq _));generalize (decide (1≤n) && decide (n≤2000))=b at g ⊢;obtain⟨f,i⟩:=H2 h a;clear h d a;go_enter func106,ntmps106;go_wp2_with (rw[←i.o];go_at_call 107;refine g.o.mono ?_;rintro e w' ⟨rfl,j⟩);go_ret;exact⟨rfl,f.o.trans (j.mono f.o.size)⟩
def GI(n K:Int)(g:Nat)(w:aA)(h:w.cell? ⟨g,0,O⟩=Z (I J K)):bo prog 105 #[I J n,G (Z ⟨g,0,O⟩)] w fun e w'=>e=.returned (.bool (decide (n<K)))∧Bl w w':=by
 go_enter func105,ntmps105;go_wp2;go_ret;exact⟨rfl,ap _ _⟩
def Db(B:Nat)(K:Int)(v:bp)(w:aA):Prop:=∃ g,B≤g∧v=.func (.func 105) #[] #[G (Z ⟨g,0,O⟩)]∧w.heap[g]? =Z (T #[I J K] 3 (0,0))
def GJ(K:Int)(w:aA):bo prog 104 #[I J K] w fun e w'=>∃ v,e=.returned v∧Db w.heap.size K v w'∧Bl w w':=by
 go_enter func104,ntmps104;go_wp2;go_ret;exact⟨_,rfl,⟨w.heap.size,aq _,rfl,ay _ _⟩,(ap _ w).alloc (aq _) _⟩
def Hg(B a:Nat)(o:Bool)(v:bp)(w:aA):Prop:=∃ g,B≤g∧v=.func (.func 103) #[] #[G (Z ⟨a,0,O⟩),G (Z ⟨g,0,O⟩)]∧w.heap[g]? =Z (T #[.bool o] 4 (0,0))
def PQ(a:Nat)(o:Bool)(w:aA):bo prog 102 #[.bool o,G (Z ⟨a,0,O⟩)] w fun e w'=>∃ v,e=.returned v∧Hg w.heap.size a o v w'∧Bl w w':=by
 go_enter func102,ntmps102;go_wp2;go_ret;exact⟨_,rfl,⟨w.heap.size,aq _,rfl,ay _ _⟩,(ap _ w).alloc (aq _) _⟩
def PO(d:Ad)(c g:Nat)(o:Bool)(n:Int)(B:0≤n)(w:aA)(h:GC w c d)(D:w.cell? ⟨g,0,O⟩=Z (.bool o)):
  bo prog 103 #[I J n,G (Z ⟨c,0,O⟩),G (Z ⟨g,0,O⟩)] w fun e w'=>e=.returned (.bool (decide (n<(d.Ab.length:Int)) && ((d.Ab.getD n.toNat default).o==o)))∧Bl w w':=by
 obtain⟨nm,K,E,L,y,r,v,m,co,s,x,f,F,t,cap,l,A,C,i⟩:=h.blk;simp only[b3,true_and] at l;obtain⟨rfl,rfl⟩:=l;have u:w.cell? ⟨c,8,O⟩=Z (Y m d.Ab.length co):=Cr f;by_cases a:n<(d.Ab.length:Int)
 ·obtain⟨k,rfl⟩:∃ k:Nat,n=k:=⟨n.toNat,by omega⟩;obtain⟨b,q,rfl,z,j⟩:=i (by omega);have c2:w.cell? ⟨b,q+k*6+2,O⟩=Z (.bool (d.Ab.getD k default).o):=j k 2 (by omega) (by decide);rw[decide_eq_true a,bG,cP];generalize (d.Ab.getD k default).o=H at c2 ⊢;have p:decide ((k:Int)<(d.Ab.length:Int))=true:=decide_eq_true a;clear j i f h;go_enter func103,ntmps103;go_upto_region 1 with (fail)
  go_quiet (fail)
  go_wp2;go_ret;exact⟨rfl,⟨rfl,rfl,rfl,aq _,fun _ _=>rfl⟩⟩
 ·rw[decide_eq_false a,c0];have p:decide (n<(d.Ab.length:Int))=false:=decide_eq_false a;clear i f h;go_enter func103,ntmps103;go_upto_region 1 with (fail)
  go_quiet (fail)
  go_wp2;go_ret;exact⟨rfl,⟨rfl,rfl,rfl,aq _,fun _ _=>rfl⟩⟩
def VJ(d:Ad)(g s:Nat)(x:Ai)(n:Int)(C:0≤x.a)(w:aA)(l:GC w g d)(A:w.cell? ⟨s,1,O⟩=Z (I J x.a)):
  bo prog 108 #[I J n,G (Z ⟨s,0,O⟩),G (Z ⟨g,0,O⟩)] w fun e w'=>e=.returned (.bool (decide (x.a<(d.Ab.length:Int)) && (decide (1≤n) && decide (n≤(d.Ab.getD x.a.toNat default).size))))∧Bl w w':=by
 obtain⟨nm,X,V,sa,P,E,M,z,co,F,N,h,W,H,cap,v,R,S,m⟩:=l.blk;simp only[b3,true_and] at v;obtain⟨rfl,rfl⟩:=v;have L:w.cell? ⟨g,8,O⟩=Z (Y z d.Ab.length co):=Cr h;by_cases j:x.a<(d.Ab.length:Int)
 ·obtain⟨k,u⟩:∃ k:Nat,x.a=k:=⟨x.a.toNat,by omega⟩;rw[u] at j A ⊢;obtain⟨b,D,rfl,Q,r⟩:=m (by omega);have c3:w.cell? ⟨b,D+k*6+3,O⟩=Z (I J (d.Ab.getD k default).size):=r k 3 (by omega) (by decide);rw[decide_eq_true j,bG,cP];generalize (d.Ab.getD k default).size=sz at c3 ⊢;obtain⟨f,c⟩:=ex (w.alloc (T #[I J n] 3));have t:Bl w f:=by rw[c];exact(ap _ w).alloc (aq _) _
  have i:f.heap[w.heap.size]? =Z (T #[I J n] 3 (0,0)):=by rw[c];exact ay _ _
  have q:=HH (Oh 1 sz n w.heap.size 1 f (Cr i) (Aa i) (aq _));generalize (decide (1≤n) && decide (n≤sz))=K at q ⊢;obtain⟨p,y⟩:=H2 t c;clear t i c r m h l u C;go_enter func108,ntmps108;go_wp2_with (rw[←y.o];go_at_call 107;refine q.o.mono ?_;rintro e w' ⟨rfl,B⟩);go_ret;exact⟨rfl,p.o.trans (B.mono p.o.size)⟩
 ·rw[decide_eq_false j,c0];clear m h l;go_enter func108,ntmps108;go_wp2_with (fail);go_ret;exact⟨rfl,ap _ _⟩
def MM.Rel.cells{w w' f:aA}(h:MM.Rel w w' f){b:Nat}{c:Array bp}{t:TypeId}{d:Nat×Nat}(a:w'.heap[b]? =Z (T c t d)):f.heap[b]? =Z (T c t d):=by
 rcases h.block b (Aa a) with g|⟨_,j,i,e⟩
 ·exact g.trans a
 ·rw[a] at e;cases e
def Fs{P:Program}{o:Oper}{A:Act}{f:FuncId}{al:List bp}{a:Array bp}{c:Call}{x:Operand}{b:bp→aA→Prop}(l:o.op=.call c)(i:c.callee=.value x)(m:A.eval x=.func (.func f) #[] a)(g:c.args.toList.map A.eval=al)(d:∀ args w,(callFunc f args).run P w=.ok (.enter f args) w)
  {w':aA} (h:bo P f (al.toArray++a) w' (fun e n=>∃ v,e=.returned v∧b v n)):Bd P o A w' b:=by
 refine OO (f:=f) (args:=al.toArray++a) (w':=w') ?_ h;have j:Array.map A.eval c.args=al.toArray:=Array.ext' (by rw[Array.toList_map,g]);have k:∀ args:Array bp,(ci (.func (.func f) #[] a) args).run P w'=.ok {target:=.fn (.func f) a,args:=args} w':=fun args=>by
  simp[ci]
 unfold a0;simp only[l,resolve,i,m,Sem.run_bind,j];rw[k];simp only[Result.andThen_ok,invoke];exact d _ _
def CS{A:Act}{k:Tmp}{v:bp}(h:A.eval (.tmp k)=v):A.tmps[k]?.getD aE=v:=by
 rw[←h];show _=A.tmps.getD k aE;simp
def Db.rel{w w' a:aA}{B:Nat}{K:Int}{v:bp}(h:Db B K v w')(e:MM.Rel w w' a):Db B K v a:=by
 obtain⟨g,b,c,d⟩:=h;exact⟨g,b,c,e.cells d⟩
def Hg.rel{w w' b:aA}{B a:Nat}{o:Bool}{v:bp}(h:Hg B a o v w')(f:MM.Rel w w' b):Hg B a o v b:=by
 obtain⟨g,c,d,e⟩:=h;exact⟨g,c,d,f.cells e⟩
def GM:EG 104:=fun _ _=>by kernel_rfl
def Oy:EG 102:=fun _ _=>by kernel_rfl
def Ij(a f:Nat)(d:Ad)(n:Int)(g b:Option Addr)(e c:Nat)(i:Nat)(v:bp)(w:aA):Prop:=
 match i with
 |2=>v=.func (.func 108) #[] #[G (Z ⟨f,0,O⟩),G (Z ⟨a,0,O⟩)]
 |4=>v=.func (.func 104) #[] #[]
 |5=>Db 0 4 v w
 |7=>v=.func (.func 104) #[] #[]
 |8=>Db 0 256 v w
 |10=>v=.func (.func 104) #[] #[]
 |11=>Db 0 256 v w
 |13=>v=.func (.func 104) #[] #[]
 |14=>Db 0 4096 v w
 |16=>v=.func (.func 102) #[] #[G (Z ⟨a,0,O⟩)]
 |17=>Hg 0 a true v w
 |19=>v=.func (.func 102) #[] #[G (Z ⟨a,0,O⟩)]
 |20=>Hg 0 a false v w
 |22=>v=.func (.func 104) #[] #[]
 |23=>v=G (Z ⟨a,4,O⟩)
 |24=>v=Y g d.semas.length e
 |25=>v=I J d.semas.length
 |26=>Db 0 d.semas.length v w
 |28=>v=.func (.func 104) #[] #[]
 |29=>v=G (Z ⟨a,7,O⟩)
 |30=>v=Y b d.bufs.length c
 |31=>v=I J d.bufs.length
 |32=>Db 0 d.bufs.length v w
 |34=>v=.func (.func 104) #[] #[]
 |35=>v=G (Z ⟨a,5,O⟩)
 |36=>v=I J d.events
 |37=>Db 0 d.events v w
 |39=>v=.func (.func 104) #[] #[]
 |40=>v=G (Z ⟨a,6,O⟩)
 |41=>v=I J d.boards
 |42=>Db 0 d.boards v w
 |44=>v=.func (.func 104) #[] #[]
 |45=>v=I J n
 |46=>Db 0 n v w
 | _=>True
def Ij.rel{w w' j:aA}{e f:Nat}{d:Ad}{n:Int}{g a:Option Addr}{c b:Nat}(i:Nat)(v:bp)(h:Ij e f d n g a c b i v w')(k:MM.Rel w w' j):Ij e f d n g a c b i v j:=by
 unfold Ij at*;split<;>simp only at h<;>first
  |exact h
  |exact h.rel k
  |trivial
def D8:List (Nat×Int×MM.Src):=[(1,119,.inl (.func (.func 106) #[] #[])),(3,108,.inr 2),(6,114,.inr 5),(9,118,.inr 8),(12,99,.inr 11),(15,97,.inr 14),(18,111,.inr 17),(21,105,.inr 20),(27,115,.inr 26),(33,98,.inr 32),(38,101,.inr 37),(43,100,.inr 42),(47,106,.inr 46)]
def WZ(a:Int)(e:0≤a)(f:a≤255)(i:Nat)(c:i<(lettP a).length):((lettP a).getD i 0).toNat<128∧(((lettP a).getD i 0).toNat:Int)∈([119,108,114,118,99,97,111,105,115,98,101,100,106]:List Int):=by
 by_cases h:1≤a∧a≤25
 ·have d:(b1 26).all (fun k=>(lettP (k:Nat)).all fun b=>decide (b.toNat<128) && decide ((b.toNat:Int)∈([119,108,114,118,99,97,111,105,115,98,101,100,106]:List Int)))=true:=by kernel_rfl
  obtain⟨k,rfl⟩:∃ k:Nat,a=k:=⟨a.toNat,by omega⟩;have:=bJ.1 (bJ.1 d k (b2.2 (by omega))) ((lettP (k:Nat)).getD i 0) (by rw[au,ax c];exact bE c);simpa only[cR,decide_eq_true_eq] using this
 ·rw[(Pq a h).2] at c;exact absurd c (by simp)
def NS{x:Ai}(b:CJ x=true)(i:Nat)(c:i<(lettP x.op).length):0≤(Dx x).getD i 0:=by
 by_cases a:i<(Dx x).length
 ·refine(Mm b _ ?_).1;rw[au,ax a];show(Dx x)[i]∈(Dx x).take _;rw[List.mem_take_iff_getElem];exact⟨i,by omega,rfl⟩
 ·rw[au,List.getElem?_eq_none (by omega)];exact Int.le_refl _
def N9(d:Ad)(n:Int)(x:Ai)(w:aA)(f:Array MapEntry):Prop:=0≤x.a→∀ c∈([119,108,114,118,99,97,111,105,115,98,101,100,106]:List Int),
 ∃ p F b,cY (.int .i32) (I .i32 c) f.toList 0=Z (Z (p,.func (.func F) #[] b))∧(∀ args w,(callFunc F args).run prog w=.ok (.enter F args) w)∧
  ∀ W v,Bl w W→0≤v→bo prog F (#[I J v]++b) W fun e w'=>e=.returned (.bool (BD d n x.a c v))∧Bl W w'
def Jk(d:Ad)(n:Int)(x:Ai)(i:Nat):Bool:=BD d n x.a (((lettP x.op).getD i 0).toNat:Int) ((Dx x).getD i 0)
def Eh(d:Ad)(n:Int)(x:Ai):Bool:=CJ x && (b1 (lettP x.op).length).all (Jk d n x)
def WW(d:Ad)(n a v:Int):BD d n a 119 v=(decide (1≤v) && decide (v≤2000)):=by simp[BD]
def WT(d:Ad)(n a v:Int):BD d n a 108 v=(decide (a<(d.Ab.length:Int)) && (decide (1≤v) && decide (v≤(d.Ab.getD a.toNat default).size))):=by simp[BD]
def WU(d:Ad)(n a v:Int):BD d n a 114 v=(decide (v<4)):=by simp[BD]
def WV(d:Ad)(n a v:Int):BD d n a 118 v=(decide (v<256)):=by simp[BD]
def WY(d:Ad)(n a v:Int):BD d n a 99 v=(decide (v<256)):=by simp[BD]
def WX(d:Ad)(n a v:Int):BD d n a 97 v=(decide (v<4096)):=by simp[BD]
def Pn(d:Ad)(n a v:Int):BD d n a 111 v=(decide (v<(d.Ab.length:Int)) && ((d.Ab.getD v.toNat default).o==true)):=by simp[BD]
def Pm(d:Ad)(n a v:Int):BD d n a 105 v=(decide (v<(d.Ab.length:Int)) && ((d.Ab.getD v.toNat default).o==false)):=by simp[BD]
def Po(d:Ad)(n a v:Int):BD d n a 115 v=(decide (v<(d.semas.length:Int))):=by simp[BD]
def Pp(d:Ad)(n a v:Int):BD d n a 98 v=(decide (v<(d.bufs.length:Int))):=by simp[BD]
def Pk(d:Ad)(n a v:Int):BD d n a 101 v=(decide (v<d.events)):=by simp[BD]
def Pj(d:Ad)(n a v:Int):BD d n a 100 v=(decide (v<d.boards)):=by simp[BD]
def WS(d:Ad)(n a v:Int):BD d n a 106 v=(decide (v<n)):=by simp[BD]
def GN:EG 105:=fun _ _=>by kernel_rfl
def Oz:EG 103:=fun _ _=>by kernel_rfl
def Tt:EG 106:=fun _ _=>by kernel_rfl
def Ts:EG 108:=fun _ _=>by kernel_rfl
def VK{d:Ad}{n:Int}{x:Ai}{k:aA}{t:Array MapEntry}{vs:Nat→bp}{q r:Nat}{C y:Option Addr}{A z:Nat}(o:∀ i,i<48→Ij q r d n C y A z i (vs i) k)
  (m:∀ e∈D8,∃ p,cY (.int .i32) (I .i32 e.2.1) t.toList 0=Z (Z (p,MM.srcV vs e.2.2))) (s:GC k q d) (w:k.heap[r]? =Z (T #[I U x.op,I J x.a,I J x.b,I J x.c] 64 (0,0))):N9 d n x k t:=by
 intro B c u;simp only[bF,bD,or_false] at u;rcases u with rfl|rfl|rfl|rfl|rfl|rfl|rfl|rfl|rfl|rfl|rfl|rfl|rfl
 ·obtain⟨p,f⟩:=m (1,119,.inl (.func (.func 106) #[] #[])) (by simp[D8]);refine⟨p,_,_,f,Tt,fun W v j l=>?_⟩;rw[WW];exact VN v W
 ·obtain⟨p,f⟩:=m (3,108,.inr 2) (by simp[D8]);have e:vs 2=.func (.func 108) #[] #[G (Z ⟨r,0,O⟩),G (Z ⟨q,0,O⟩)]:=o 2 (by decide);rw[show MM.srcV vs (.inr 2)=vs 2 from rfl,e] at f;refine⟨p,_,_,f,Ts,fun W v j l=>?_⟩;rw[WT];exact VJ d q r x v B W (s.below j) (Cr ((j.block _ (Aa w)).trans w))
 ·obtain⟨p,f⟩:=m (6,114,.inr 5) (by simp[D8]);obtain⟨g,_,e,h⟩:Db 0 4 (vs 5) k:=o 5 (by decide);rw[show MM.srcV vs (.inr 5)=vs 5 from rfl,e] at f;refine⟨p,_,_,f,GN,fun W v j l=>?_⟩;rw[WU];exact GI v _ g W (Cr ((j.block _ (Aa h)).trans h))
 ·obtain⟨p,f⟩:=m (9,118,.inr 8) (by simp[D8]);obtain⟨g,_,e,h⟩:Db 0 256 (vs 8) k:=o 8 (by decide);rw[show MM.srcV vs (.inr 8)=vs 8 from rfl,e] at f;refine⟨p,_,_,f,GN,fun W v j l=>?_⟩;rw[WV];exact GI v _ g W (Cr ((j.block _ (Aa h)).trans h))
 ·obtain⟨p,f⟩:=m (12,99,.inr 11) (by simp[D8]);obtain⟨g,_,e,h⟩:Db 0 256 (vs 11) k:=o 11 (by decide);rw[show MM.srcV vs (.inr 11)=vs 11 from rfl,e] at f;refine⟨p,_,_,f,GN,fun W v j l=>?_⟩;rw[WY];exact GI v _ g W (Cr ((j.block _ (Aa h)).trans h))
 ·obtain⟨p,f⟩:=m (15,97,.inr 14) (by simp[D8]);obtain⟨g,_,e,h⟩:Db 0 4096 (vs 14) k:=o 14 (by decide);rw[show MM.srcV vs (.inr 14)=vs 14 from rfl,e] at f;refine⟨p,_,_,f,GN,fun W v j l=>?_⟩;rw[WX];exact GI v _ g W (Cr ((j.block _ (Aa h)).trans h))
 ·obtain⟨p,f⟩:=m (18,111,.inr 17) (by simp[D8]);obtain⟨g,_,e,h⟩:Hg 0 q true (vs 17) k:=o 17 (by decide);rw[show MM.srcV vs (.inr 17)=vs 17 from rfl,e] at f;refine⟨p,_,_,f,Oz,fun W v j l=>?_⟩;rw[Pn];exact PO d q g true v l W (s.below j) (Cr ((j.block _ (Aa h)).trans h))
 ·obtain⟨p,f⟩:=m (21,105,.inr 20) (by simp[D8]);obtain⟨g,_,e,h⟩:Hg 0 q false (vs 20) k:=o 20 (by decide);rw[show MM.srcV vs (.inr 20)=vs 20 from rfl,e] at f;refine⟨p,_,_,f,Oz,fun W v j l=>?_⟩;rw[Pm];exact PO d q g false v l W (s.below j) (Cr ((j.block _ (Aa h)).trans h))
 ·obtain⟨p,f⟩:=m (27,115,.inr 26) (by simp[D8]);obtain⟨g,_,e,h⟩:Db 0 d.semas.length (vs 26) k:=o 26 (by decide);rw[show MM.srcV vs (.inr 26)=vs 26 from rfl,e] at f;refine⟨p,_,_,f,GN,fun W v j l=>?_⟩;rw[Po];exact GI v _ g W (Cr ((j.block _ (Aa h)).trans h))
 ·obtain⟨p,f⟩:=m (33,98,.inr 32) (by simp[D8]);obtain⟨g,_,e,h⟩:Db 0 d.bufs.length (vs 32) k:=o 32 (by decide);rw[show MM.srcV vs (.inr 32)=vs 32 from rfl,e] at f;refine⟨p,_,_,f,GN,fun W v j l=>?_⟩;rw[Pp];exact GI v _ g W (Cr ((j.block _ (Aa h)).trans h))
 ·obtain⟨p,f⟩:=m (38,101,.inr 37) (by simp[D8]);obtain⟨g,_,e,h⟩:Db 0 d.events (vs 37) k:=o 37 (by decide);rw[show MM.srcV vs (.inr 37)=vs 37 from rfl,e] at f;refine⟨p,_,_,f,GN,fun W v j l=>?_⟩;rw[Pk];exact GI v _ g W (Cr ((j.block _ (Aa h)).trans h))
 ·obtain⟨p,f⟩:=m (43,100,.inr 42) (by simp[D8]);obtain⟨g,_,e,h⟩:Db 0 d.boards (vs 42) k:=o 42 (by decide);rw[show MM.srcV vs (.inr 42)=vs 42 from rfl,e] at f;refine⟨p,_,_,f,GN,fun W v j l=>?_⟩;rw[Pj];exact GI v _ g W (Cr ((j.block _ (Aa h)).trans h))
 ·obtain⟨p,f⟩:=m (47,106,.inr 46) (by simp[D8]);obtain⟨g,_,e,h⟩:Db 0 n (vs 46) k:=o 46 (by decide);rw[show MM.srcV vs (.inr 46)=vs 46 from rfl,e] at f;refine⟨p,_,_,f,GN,fun W v j l=>?_⟩;rw[WS];exact GI v _ g W (Cr ((j.block _ (Aa h)).trans h))
def Rd(d:Ad)(n:Int)(x:Ai)(nm:ByteArray)(pe le:Int)(sa S ao ac:Option Addr)(X V co cc:Nat)(h0:0≤x.op)(h1:x.op≤255)(w:aA)(bW:Ex w (Y ao d.Ab.length co) d.Ab)(bq:Ce w)(bH:16≤w.heap.size):
  bo prog 62 #[.agg #[.string nm,I J pe,I J le,I J d.mem,Y sa d.semas.length X,I J d.events,I J d.boards,Y S d.bufs.length V,Y ao d.Ab.length co,Y ac d.procs.length cc],I J n,.agg #[I U x.op,I J x.a,I J x.b,I J x.c]] w fun e w'=>e=.returned (.bool (Eh d n x))∧Bl w w':=by
 obtain⟨D,hW⟩:=ex ((w.alloc (T #[.string nm,I J pe,I J le,I J d.mem,Y sa d.semas.length X,I J d.events,I J d.boards,Y S d.bufs.length V,Y ao d.Ab.length co,Y ac d.procs.length cc] 26)).alloc (T #[I U x.op,I J x.a,I J x.b,I J x.c] 64));have aB:Bl w D:=by rw[hW];exact DX w _ _
 have aY:D.heap[w.heap.size]? =Z (T #[.string nm,I J pe,I J le,I J d.mem,Y sa d.semas.length X,I J d.events,I J d.boards,Y S d.bufs.length V,Y ao d.Ab.length co,Y ac d.procs.length cc] 26 (0,0)):=by rw[hW];exact(Da w _ _).1
 have aZ:D.heap[w.heap.size+1]? =Z (T #[I U x.op,I J x.a,I J x.b,I J x.c] 64 (0,0)):=by rw[hW];exact(Da w _ _).2
 have a9:16≤D.heap.size:=by have:=aB.size;omega
 have G1:=bq.below bH aB;have bb:GC D w.heap.size d:=⟨_,_,_,_,_,_,_,_,_,_,_,aY,bW.below aB⟩;obtain⟨m,af⟩:=ex w.heap.size;obtain⟨Q,bi⟩:=ex (w.heap.size+1);rw[←af] at aY bb;rw[←bi] at aZ;obtain⟨HW,aF,bw,am,b8,b9,br,b7,cf⟩:=H9 hW aB aY aZ af bi a9 G1 bb;have H0:Hq (0≤x.op∧x.op≤255):=⟨h0,h1⟩;obtain⟨y0,y1,y2,y3⟩:=r4 aZ;obtain⟨W2,aP⟩:=ex (D.alloc (T #[I U x.op,I J x.a,I J x.b,I J x.c] 64));have aT:Bl D W2:=by rw[aP];exact(ap _ D).alloc (aq _) _
 have bP:W2.heap[D.heap.size]? =Z (T #[I U x.op,I J x.a,I J x.b,I J x.c] 64 (0,0)):=by rw[aP];exact ay _ _
 obtain⟨bB,aH,aI⟩:=H3 aP aT (QU x h0 h1 D.heap.size W2 bP (G1.below a9 aT) (by have:=aT.size;omega));clear hW aB aY aZ af bi a9 G1 bb aP aT bP bq bH bW h0 h1;go_enter func62,ntmps62;go_upto_region 1 with (fail);rw[←HW.o,←b9.o,←b8.o];cases hf:CJ x with
 |false=>
  have HF:=HH hf;rw[hf] at aI;clear hf;go_wp2_with (rw[←bB.o];go_at_call 101;refine aI.o.mono ?_;rintro e w3 ⟨⟨s,rfl⟩,aU⟩);go_ret;refine⟨?_,aF.o.trans ((aH.o.trans (aU.mono aH.o.size)).mono aF.o.size)⟩;rw[Eh,HF.o];rfl
 |true=>
  have HF:=HH hf;rw[hf] at aI;clear hf;go_upto_region 6 with (rw[←bB.o];go_at_call 101;refine aI.o.mono ?_;rintro e w3 ⟨⟨s,rfl⟩,aU⟩);have aL:Bl D w3:=aH.o.trans (aU.mono aH.o.size);have bM:∀ w',Bl w3 w'→w'.heap[m]? =Z (T #[.string nm,I J pe,I J le,I J d.mem,Y sa d.semas.length X,I J d.events,I J d.boards,Y S d.bufs.length V,Y ao d.Ab.length co,Y ac d.procs.length cc] 26 (0,0)):=fun w' C=>((aL.trans (C.mono aL.size)).block _ (Aa bw.o)).trans bw.o;obtain⟨aw,b5⟩:=H2 aL bM;clear aU aL bM;refine MM.ZN 48 0 24 .i32 176 _ _ D8 (Ij m Q d n sa S X V) (by kernel_rfl) (by kernel_rfl) (by kernel_rfl) underlying176 underlying21 rfl (by decide) ⟨_,rfl,rfl⟩ ?hK (by decide) (by decide) ?hFf (fun i v w' cZ h hr=>Ij.rel i v h hr) ?hoth ?hend
  case hK=>
   intro e u;simp only[D8,bF,bD,or_false] at u;rcases u with rfl|rfl|rfl|rfl|rfl|rfl|rfl|rfl|rfl|rfl|rfl|rfl|rfl
   ·exact⟨_,_,⟨rfl,by decide,rfl,rfl,by kernel_rfl,fun A=>rfl⟩⟩
   all_goals exact⟨_,_,⟨rfl,by decide,rfl,rfl,by kernel_rfl,⟨_,rfl,rfl,by kernel_rfl⟩⟩⟩
  case hFf=>
   rintro i v w' (rfl|hi)
   ·trivial
   ·simp only[D8,c4,c5,bF,bD,or_false] at hi;rcases hi with rfl|rfl|rfl|rfl|rfl|rfl|rfl|rfl|rfl|rfl|rfl|rfl|rfl<;>trivial
  case hoth=>
   intro i o l hi cV cO A w' C t hO;simp only[D8,c4,c5,bF,bD,or_false,not_or] at cO;have af:=b5.o w' C;have e1:A.eval (.tmp 1)=I J n:=hO 1 (of_decide_eq_true (by kernel_rfl));have e3:A.eval (.tmp 3)=G (Z ⟨m,0,O⟩):=hO 3 (of_decide_eq_true (by kernel_rfl));have e5:A.eval (.tmp 5)=G (Z ⟨Q,0,O⟩):=hO 5 (of_decide_eq_true (by kernel_rfl));have e9:A.eval (.tmp 9)=.func (.func 102) #[] #[G (Z ⟨m,0,O⟩)]:=hO 9 (of_decide_eq_true (by kernel_rfl));have aa:A.eval (.tmp 10)=.func (.func 104) #[] #[]:=hO 10 (of_decide_eq_true (by kernel_rfl));have cN:i=2∨i=4∨i=5∨i=7∨i=8∨i=10∨i=11∨i=13∨i=14∨i=16∨i=17∨i=19∨i=20∨i=22∨i=23∨i=24∨i=25∨i=26∨i=28∨i=29∨i=30∨i=31∨i=32∨i=34∨i=35∨i=36∨i=37∨i=39∨i=40∨i=41∨i=42∨i=44∨i=45∨i=46:=by omega
   clear hO;rcases cN with rfl|rfl|rfl|rfl|rfl|rfl|rfl|rfl|rfl|rfl|rfl|rfl|rfl|rfl|rfl|rfl|rfl|rfl|rfl|rfl|rfl|rfl|rfl|rfl|rfl|rfl|rfl|rfl|rfl|rfl|rfl|rfl|rfl|rfl
   ·obtain rfl:_=o:=an l;exact Bn (v:=.func (.func 108) #[] #[G (Z ⟨Q,0,O⟩),G (Z ⟨m,0,O⟩)]) (w':=w') (by simp[a0,go_sem,CS e5,CS e3]) ⟨ap _ _,rfl⟩
   ·obtain rfl:_=o:=an l;exact Bn (v:=.func (.func 104) #[] #[]) (w':=w') (by simp[a0,go_sem,CS aa]) ⟨ap _ _,rfl⟩
   ·obtain rfl:_=o:=an l;have cj:A.eval (.tmp 26)=.func (.func 104) #[] #[]:=t 4 26 rfl (by decide) (.base (by kernel_rfl));refine Fs (f:=104) (al:=[I J (4)]) rfl rfl cj rfl GM ?_;exact(GJ (4) w').mono fun e M h=>by
     obtain⟨v,u,⟨g,_,r,y⟩,z⟩:=h;exact⟨v,u,z,g,aD _,r,y⟩
   ·obtain rfl:_=o:=an l;exact Bn (v:=.func (.func 104) #[] #[]) (w':=w') (by simp[a0,go_sem,CS aa]) ⟨ap _ _,rfl⟩
   ·obtain rfl:_=o:=an l;have ck:A.eval (.tmp 28)=.func (.func 104) #[] #[]:=t 7 28 rfl (by decide) (.base (by kernel_rfl));refine Fs (f:=104) (al:=[I J (256)]) rfl rfl ck rfl GM ?_;exact(GJ (256) w').mono fun e M h=>by
     obtain⟨v,u,⟨g,_,r,y⟩,z⟩:=h;exact⟨v,u,z,g,aD _,r,y⟩
   ·obtain rfl:_=o:=an l;exact Bn (v:=.func (.func 104) #[] #[]) (w':=w') (by simp[a0,go_sem,CS aa]) ⟨ap _ _,rfl⟩
   ·obtain rfl:_=o:=an l;have cl:A.eval (.tmp 30)=.func (.func 104) #[] #[]:=t 10 30 rfl (by decide) (.base (by kernel_rfl));refine Fs (f:=104) (al:=[I J (256)]) rfl rfl cl rfl GM ?_;exact(GJ (256) w').mono fun e M h=>by
     obtain⟨v,u,⟨g,_,r,y⟩,z⟩:=h;exact⟨v,u,z,g,aD _,r,y⟩
   ·obtain rfl:_=o:=an l;exact Bn (v:=.func (.func 104) #[] #[]) (w':=w') (by simp[a0,go_sem,CS aa]) ⟨ap _ _,rfl⟩
   ·obtain rfl:_=o:=an l;have cm:A.eval (.tmp 32)=.func (.func 104) #[] #[]:=t 13 32 rfl (by decide) (.base (by kernel_rfl));refine Fs (f:=104) (al:=[I J (4096)]) rfl rfl cm rfl GM ?_;exact(GJ (4096) w').mono fun e M h=>by
     obtain⟨v,u,⟨g,_,r,y⟩,z⟩:=h;exact⟨v,u,z,g,aD _,r,y⟩
   ·obtain rfl:_=o:=an l;exact Bn (v:=.func (.func 102) #[] #[G (Z ⟨m,0,O⟩)]) (w':=w') (by simp[a0,go_sem,CS e9]) ⟨ap _ _,rfl⟩
   ·obtain rfl:_=o:=an l;have cn:A.eval (.tmp 34)=.func (.func 102) #[] #[G (Z ⟨m,0,O⟩)]:=t 16 34 rfl (by decide) (.base (by kernel_rfl));refine Fs (f:=102) (al:=[.bool true]) rfl rfl cn rfl Oy ?_;exact(PQ m true w').mono fun e M h=>by
     obtain⟨v,u,⟨g,_,r,y⟩,z⟩:=h;exact⟨v,u,z,g,aD _,r,y⟩
   ·obtain rfl:_=o:=an l;exact Bn (v:=.func (.func 102) #[] #[G (Z ⟨m,0,O⟩)]) (w':=w') (by simp[a0,go_sem,CS e9]) ⟨ap _ _,rfl⟩
   ·obtain rfl:_=o:=an l;have cp:A.eval (.tmp 36)=.func (.func 102) #[] #[G (Z ⟨m,0,O⟩)]:=t 19 36 rfl (by decide) (.base (by kernel_rfl));refine Fs (f:=102) (al:=[.bool false]) rfl rfl cp rfl Oy ?_;exact(PQ m false w').mono fun e M h=>by
     obtain⟨v,u,⟨g,_,r,y⟩,z⟩:=h;exact⟨v,u,z,g,aD _,r,y⟩
   ·obtain rfl:_=o:=an l;exact Bn (v:=.func (.func 104) #[] #[]) (w':=w') (by simp[a0,go_sem,CS aa]) ⟨ap _ _,rfl⟩
   ·obtain rfl:_=o:=an l;exact Bn (v:=G (Z ⟨m,4,O⟩)) (w':=w') (by simp[a0,go_sem,CS e3]) ⟨ap _ _,rfl⟩
   ·obtain rfl:_=o:=an l;have cr:A.eval (.tmp 39)=G (Z ⟨m,4,O⟩):=t 23 39 rfl (by decide) (.base (by kernel_rfl));have L:w'.cell? ⟨m,4,O⟩=Z (Y sa d.semas.length X):=Cr af;exact Bn (v:=Y sa d.semas.length X) (w':=w') (by simp[a0,go_sem,CS cr,L]) ⟨ap _ _,rfl⟩
   ·obtain rfl:_=o:=an l;have ct:A.eval (.tmp 40)=Y sa d.semas.length X:=t 24 40 rfl (by decide) (.base (by kernel_rfl));exact Bn (v:=I J d.semas.length) (w':=w') (by simp[a0,go_sem,CS ct]) ⟨ap _ _,rfl⟩
   ·obtain rfl:_=o:=an l;have cq:A.eval (.tmp 38)=.func (.func 104) #[] #[]:=t 22 38 rfl (by decide) (.base (by kernel_rfl));have cu:A.eval (.tmp 41)=I J d.semas.length:=t 25 41 rfl (by decide) (.base (by kernel_rfl));refine Fs (f:=104) (al:=[I J (d.semas.length)]) rfl rfl cq (by simp;exact cu) GM ?_;exact(GJ (d.semas.length) w').mono fun e M h=>by
     obtain⟨v,u,⟨g,_,r,y⟩,z⟩:=h;exact⟨v,u,z,g,aD _,r,y⟩
   ·obtain rfl:_=o:=an l;exact Bn (v:=.func (.func 104) #[] #[]) (w':=w') (by simp[a0,go_sem,CS aa]) ⟨ap _ _,rfl⟩
   ·obtain rfl:_=o:=an l;exact Bn (v:=G (Z ⟨m,7,O⟩)) (w':=w') (by simp[a0,go_sem,CS e3]) ⟨ap _ _,rfl⟩
   ·obtain rfl:_=o:=an l;have cw:A.eval (.tmp 44)=G (Z ⟨m,7,O⟩):=t 29 44 rfl (by decide) (.base (by kernel_rfl));have L:w'.cell? ⟨m,7,O⟩=Z (Y S d.bufs.length V):=Cr af;exact Bn (v:=Y S d.bufs.length V) (w':=w') (by simp[a0,go_sem,CS cw,L]) ⟨ap _ _,rfl⟩
   ·obtain rfl:_=o:=an l;have cx:A.eval (.tmp 45)=Y S d.bufs.length V:=t 30 45 rfl (by decide) (.base (by kernel_rfl));exact Bn (v:=I J d.bufs.length) (w':=w') (by simp[a0,go_sem,CS cx]) ⟨ap _ _,rfl⟩
   ·obtain rfl:_=o:=an l;have cv:A.eval (.tmp 43)=.func (.func 104) #[] #[]:=t 28 43 rfl (by decide) (.base (by kernel_rfl));have cy:A.eval (.tmp 46)=I J d.bufs.length:=t 31 46 rfl (by decide) (.base (by kernel_rfl));refine Fs (f:=104) (al:=[I J (d.bufs.length)]) rfl rfl cv (by simp;exact cy) GM ?_;exact(GJ (d.bufs.length) w').mono fun e M h=>by
     obtain⟨v,u,⟨g,_,r,y⟩,z⟩:=h;exact⟨v,u,z,g,aD _,r,y⟩
   ·obtain rfl:_=o:=an l;exact Bn (v:=.func (.func 104) #[] #[]) (w':=w') (by simp[a0,go_sem,CS aa]) ⟨ap _ _,rfl⟩
   ·obtain rfl:_=o:=an l;exact Bn (v:=G (Z ⟨m,5,O⟩)) (w':=w') (by simp[a0,go_sem,CS e3]) ⟨ap _ _,rfl⟩
   ·obtain rfl:_=o:=an l;have cA:A.eval (.tmp 49)=G (Z ⟨m,5,O⟩):=t 35 49 rfl (by decide) (.base (by kernel_rfl));have L:w'.cell? ⟨m,5,O⟩=Z (I J d.events):=Cr af;exact Bn (v:=I J d.events) (w':=w') (by simp[a0,go_sem,CS cA,L]) ⟨ap _ _,rfl⟩
   ·obtain rfl:_=o:=an l;have cz:A.eval (.tmp 48)=.func (.func 104) #[] #[]:=t 34 48 rfl (by decide) (.base (by kernel_rfl));have cB:A.eval (.tmp 50)=I J d.events:=t 36 50 rfl (by decide) (.base (by kernel_rfl));refine Fs (f:=104) (al:=[I J (d.events)]) rfl rfl cz (by simp;exact cB) GM ?_;exact(GJ (d.events) w').mono fun e M h=>by
     obtain⟨v,u,⟨g,_,r,y⟩,z⟩:=h;exact⟨v,u,z,g,aD _,r,y⟩
   ·obtain rfl:_=o:=an l;exact Bn (v:=.func (.func 104) #[] #[]) (w':=w') (by simp[a0,go_sem,CS aa]) ⟨ap _ _,rfl⟩
   ·obtain rfl:_=o:=an l;exact Bn (v:=G (Z ⟨m,6,O⟩)) (w':=w') (by simp[a0,go_sem,CS e3]) ⟨ap _ _,rfl⟩
   ·obtain rfl:_=o:=an l;have cD:A.eval (.tmp 53)=G (Z ⟨m,6,O⟩):=t 40 53 rfl (by decide) (.base (by kernel_rfl));have L:w'.cell? ⟨m,6,O⟩=Z (I J d.boards):=Cr af;exact Bn (v:=I J d.boards) (w':=w') (by simp[a0,go_sem,CS cD,L]) ⟨ap _ _,rfl⟩
   ·obtain rfl:_=o:=an l;have cC:A.eval (.tmp 52)=.func (.func 104) #[] #[]:=t 39 52 rfl (by decide) (.base (by kernel_rfl));have cE:A.eval (.tmp 54)=I J d.boards:=t 41 54 rfl (by decide) (.base (by kernel_rfl));refine Fs (f:=104) (al:=[I J (d.boards)]) rfl rfl cC (by simp;exact cE) GM ?_;exact(GJ (d.boards) w').mono fun e M h=>by
     obtain⟨v,u,⟨g,_,r,y⟩,z⟩:=h;exact⟨v,u,z,g,aD _,r,y⟩
   ·obtain rfl:_=o:=an l;exact Bn (v:=.func (.func 104) #[] #[]) (w':=w') (by simp[a0,go_sem,CS aa]) ⟨ap _ _,rfl⟩
   ·obtain rfl:_=o:=an l;exact Bn (v:=I J n) (w':=w') (by simp[a0,go_sem,CS e1]) ⟨ap _ _,rfl⟩
   ·obtain rfl:_=o:=an l;have cF:A.eval (.tmp 56)=.func (.func 104) #[] #[]:=t 44 56 rfl (by decide) (.base (by kernel_rfl));have cG:A.eval (.tmp 57)=I J n:=t 45 57 rfl (by decide) (.base (by kernel_rfl));refine Fs (f:=104) (al:=[I J (n)]) rfl rfl cF (by simp;exact cG) GM ?_;exact(GJ (n) w').mono fun e M h=>by
     obtain⟨v,u,⟨g,_,r,y⟩,z⟩:=h;exact⟨v,u,z,g,aD _,r,y⟩
  case hend=>
   intro vs H b0 es cH aV hF bT cM bU bN;rw[show Ar _ vs _ 48=(⟨#[.agg #[.string nm,I J pe,I J le,I J d.mem,Y sa d.semas.length X,I J d.events,I J d.boards,Y S d.bufs.length V,Y ao d.Ab.length co,Y ac d.procs.length cc],I J n,.agg #[I U x.op,I J x.a,I J x.b,I J x.c],G (Z ⟨m,0,O⟩),aE,G (Z ⟨Q,0,O⟩),.bool false,.string s,I J 0,.func (.func 102) #[] #[G (Z ⟨m,0,O⟩)],.func (.func 104) #[] #[],aE,aE,aE,aE,.tuple #[.string s,I J 0],.agg #[I U x.op,I J x.a,I J x.b,I J x.c],Y (Z ⟨D.heap.size,0,O⟩) 1 1,.tuple #[.string s,I J 0],.string s,I J 0,I J 0,.bool false,.func (.func 102) #[] #[G (Z ⟨m,0,O⟩)],vs 0,vs 2,vs 4,vs 5,vs 7,vs 8,vs 10,vs 11,vs 13,vs 14,vs 16,vs 17,vs 19,vs 20,vs 22,vs 23,vs 24,vs 25,vs 26,vs 28,vs 29,vs 30,vs 31,vs 32,vs 34,vs 35,vs 36,vs 37,vs 39,vs 40,vs 41,vs 42,vs 44,vs 45,vs 46,aE,aE,aE,aE,aE,aE,aE,aE,aE,aE,aE,aE,aE,aE,aE,aE,aE,aE,aE,aE,aE,aE,aE,aE],[]⟩:Act) from by kernel_rfl,bT];have bK:N9 d n x H es:=VK hF bN ((cf.o.below aw.o).below aV) ((aV.block _ (a8 (Aa am.o) aw.o.size)).trans ((aw.o.block _ (Aa am.o)).trans am.o));obtain⟨ce,bx⟩:=H2 bK bU;have aj:Hq (Bl D H):=aw.o.trans (aV.mono aw.o.size);obtain⟨y0,y1,y2,y3⟩:H.cell? ⟨Q,0,O⟩=Z (I U x.op)∧H.cell? ⟨Q,1,O⟩=Z (I J x.a)∧H.cell? ⟨Q,2,O⟩=Z (I J x.b)∧H.cell? ⟨Q,3,O⟩=Z (I J x.c):=by
    have hk:=(aj.o.block _ (Aa am.o)).trans am.o;exact⟨Cr hk,Cr hk,Cr hk,Cr hk⟩
   clear hF bN bT cM bU bK aV;simp only[cI,cS];go_upto_region 8 with (fail);obtain⟨ae,aO⟩:=ex (H.alloc (T #[I J x.a,I J x.b,I J x.c] 177));rw[←aO];have aS:Bl H ae:=by rw[aO];exact(ap _ H).alloc (aq _) _
   have bQ:ae.heap[H.heap.size]? =Z (T #[I J x.a,I J x.b,I J x.c] 177 (0,0)):=by rw[aO];exact ay _ _
   obtain⟨aJ,aG⟩:=H2 bQ aS;have ba:Bl D ae:=aj.o.trans (aS.mono aj.o.size);have bz:=HH (Lg x.op H0.o.1 H0.o.2 ae (b7.o.below br.o ba) (by have h1:=ba.size;have r:=br.o;omega));obtain⟨B,bk⟩:∃ s:ByteArray,s=⟨(lettP x.op).toArray⟩:=⟨_,rfl⟩;rw[←bk] at bz;have a4:=HH bk;obtain⟨gv,bh⟩:=ex H.heap.size;rw[←bh] at aJ ⊢;have cT:=HH bh;have z0:ae.cell? ⟨Q,0,O⟩=Z (I U x.op):=(aS.cell (p:=⟨Q,0,O⟩) (a8 (Aa am.o) aj.o.size)).trans y0;clear aO aS bQ ba bk bh y0 y1 y2 y3;go_wp2_with (go_at_call 109;refine bz.o.mono ?_;rintro e E ⟨rfl,bL⟩);have ai:=HH bL;have bC:Hq (∀ {W},Bl E W→Bl w W):=fun C=>by
    have h1:Bl ae _:=ai.o.trans (C.mono ai.o.size);have r:Bl H _:=aG.o.trans (h1.mono aG.o.size);have y:Bl D _:=aj.o.trans (r.mono aj.o.size);exact aF.o.trans (y.mono aF.o.size)
   clear bL
   go_loopg [13,14] B.size (fun gg _ _ wr=>∃ k:Nat,k≤B.size∧B.size-k≤gg∧Hq (wr.heap[E.heap.size]? =Z (.stringIter B k)∧Bl E wr∧∀ j,j<k→Jk d n x j=true))
   case atStart=>exact⟨0,aD _,by omega,World.iter_heap E B 0,(ap _ E).alloc (aq _) _,fun j hj=>absurd hj (Nat.not_lt_zero _)⟩
   case round=>
    obtain⟨k,cX,cU,A⟩:=hrel;obtain⟨hit,ar,aR⟩:=A.o;have bI:Bl ae wr:=ai.o.trans (ar.mono ai.o.size);by_cases R:k<B.size
    ·have bX:(⟨(lettP x.op).toArray⟩:ByteArray).size=(lettP x.op).length:=by show(lettP x.op).toArray.size=_;simp
     have aC:k<(lettP x.op).length:=by rw[←bX,←a4.o];exact R
     have cL:=MD x.op H0.o.1 H0.o.2;obtain⟨bS,bV⟩:=WZ x.op H0.o.1 H0.o.2 k aC;have bd:B[k]'R=(lettP x.op).getD k 0:=by
      have:∀ (s:ByteArray) (hs:s=⟨(lettP x.op).toArray⟩) (h:k<s.size),s[k]'h=(lettP x.op).getD k 0:=by
       rintro s rfl h;rw[au,ax aC];rfl
      exact this B a4.o R
     have bY:0≤x.a:=NS HF.o 0 (by omega);have bn:0≤(Dx x).getD k 0:=NS HF.o k aC;obtain⟨p,F,aK,bg,eg,be⟩:=ce.o bY _ bV;obtain⟨c,L⟩:∃ c:Int,c=(((lettP x.op).getD k 0).toNat:Int):=⟨_,rfl⟩;rw[←L] at bg be;obtain⟨q,hq⟩:=ex (BD d n x.a c ((Dx x).getD k 0));have HQ:Hq (Jk d n x k=q):=by show _=_;rw[hq,L];rfl
     have bm:∀ ty,(c6 (G (Z ⟨E.heap.size,0,O⟩)) true ty).run prog wr=.ok (.tuple #[.bool true,I J k,I .i32 c]) (wr.iterAt E.heap.size B (k+1)):=fun ty=>by
      have:=Lib.run_next_ascii_at (P:=prog) wr E.heap.size B k ty hit R (by rw[bd];exact bS);rw[bd,←L] at this;exact this
     obtain⟨N,aQ⟩:=ex (wr.iterAt E.heap.size B (k+1));rw[←aQ] at bm;have bu:Hq (N.heap[E.heap.size]? =Z (.stringIter B (k+1))):=by show _=_;rw[aQ];exact Lib.iterAt_heap wr _ B k (k+1) hit
     have a3:Hq (Bl E N):=by show Below _ _ _;rw[aQ];exact Lib.below_iterAt ar (aq _) B (k+1)
     have aM:Bl ae N:=ai.o.trans (a3.o.mono ai.o.size);have aN:Bl H N:=aG.o.trans (aM.mono aG.o.size);have bO:gv<N.heap.size:=a8 (Aa aJ.o) aM.size;have bR:N.heap[gv]? =Z (T #[I J x.a,I J x.b,I J x.c] 177 (0,0)):=(aM.block _ (Aa aJ.o)).trans aJ.o;have bl:N.heap[b0]? =Z (.map es cH):=(aN.block _ (bA.1 bx.o).1).trans bx.o;have bf:N.cell? ⟨gv,k,O⟩=Z (I J ((Dx x).getD k 0)):=by
      rw[Cr bR];rcases(show k=0∨k=1∨k=2 by omega) with rfl|rfl|rfl<;>rfl
     obtain⟨v,hv⟩:=ex ((Dx x).getD k 0);rw[←hv] at bf bn hq;have zv:=qC bf bO;have b4:Hq (∀ W,Bl N W→bo prog F (#[I J v]++aK) W fun e w'=>e=.returned (.bool q)∧Bl W w'):=fun W C=>by
      have:=be W v (aN.trans (C.mono aN.size)) bn;rw[←hq] at this;exact this
     have cd:Hq (∀ W,Bl N W→(Instr.lookup 176 (.map (Z b0)) (I .i32 c) false).run prog W=.ok (.func (.func F) #[] aK) W):=fun W C=>
      YF underlying176 underlying21 ((C.block _ (bA.1 bl).1).trans bl) bg
     have cW:(k:Int)<3:=by omega
     obtain⟨a2,cg,bt,b6,HP⟩:=H5 aR aC ar eg R;clear A hit ar aR bI bX aC cL bS bV bd bY bn bg eg be L hq aQ aM aN bO bR bl bf hv R;go_upto_region 11 with (fail);refine BQ 8 [(2,fun v _=>v=.func (.func F) #[] aK),(6,fun v _=>v=.bool q)] ⟨Ch,Ch,trivial⟩ ?_
     iterate 2 (refine AK rfl ?_;intro K hK;go_big_quiet_op;go_big_quiet_on)
     refine Ca rfl (fun w' C t=>?_) ?_
     ·exact Bn (v:=.func (.func F) #[] aK) (w':=w') (by simp[a0,go_sem,cd.o w' C]) ⟨ap _ _,rfl⟩
     intro v' w' C hv;obtain rfl:=hv;clear C w';simp only[Au,bZ,cK,cJ]
     iterate 3 (refine AK rfl ?_;intro K hK;go_big_quiet_op;go_big_quiet_on)
     refine Ca rfl (fun w' C t=>?_) ?_
     ·refine Fs (f:=F) (al:=[I J v]) rfl rfl rfl rfl b6.o ?_;exact(b4.o w' C).mono fun e M h=>⟨_,h.1,h.2,rfl⟩
     intro v' w' C hv;obtain rfl:=hv;clear C w';simp only[Au,bZ,cK,cJ]
     iterate 1 (refine AK rfl ?_;intro K hK;go_big_quiet_op;go_big_quiet_on)
     refine BN ?_;intro w6 bc cQ;simp only[cI,cS,List.drop_nil];have bs:Hq (Bl E w6):=a3.o.trans (bc.mono a3.o.size);have ca:Hq (w6.heap[E.heap.size]? =Z (.stringIter B (k+1))):=(bc.block _ (bA.1 bu.o).1).trans bu.o;clear cQ bc zv bm;cases q with
     |true=>
      go_wp2_with fail
      go_roundg (B.size-(k+1))
      case measure=>have R:=HP.o;omega
      case rel=>exact⟨k+1,by have R:=HP.o;omega,by have R:=HP.o;omega,ca.o,bs.o,fun j hj=>by
       by_cases e:j=k
       ·subst e;exact HQ.o
       ·exact a2.o j (by omega)⟩
     |false=>
      go_wp2_with fail;go_ret;refine⟨?_,bC.o (bs.o)⟩;rw[Eh,HF.o,bG];have:((b1 (lettP x.op).length).all (Jk d n x))=false:=by
       rw[List.all_eq_false];exact⟨k,b2.2 cg.o,by rw[HQ.o];simp⟩
      rw[this];rfl
    ·have bm:∀ ty,(c6 (G (Z ⟨E.heap.size,0,O⟩)) true ty).run prog wr=.ok (.tuple #[.bool false]) wr:=fun ty=>Lib.run_next_end_at (P:=prog) wr E.heap.size B k ty hit R;obtain⟨a2,bt⟩:=H2 aR ar;have ch:Hq (B.size=(lettP x.op).length):=by
      show _=_;rw[a4.o];show(lettP x.op).toArray.size=_;simp
     clear A hit ar aR bI;go_wp2_with fail;go_ret;refine⟨?_,bC.o bt.o⟩;rw[Eh,HF.o,bG];have:((b1 (lettP x.op).length).all (Jk d n x))=true:=by
      rw[bJ];intro j hj;refine a2.o j ?_;have:=b2.1 hj;have r:=ch.o;omega
     rw[this];rfl
def FU(k:CV):Bool:=DZ k ⟨[],0,false⟩||BP k.kind k.size k.depth k.At [] [] 0
def Gx(d:Ad)(c:Eu):Bool:=A5 0 255 c.prio && (A5 0 1073741824 c.period && (A5 0 1073741824 c.Cf && (decide (c.code.length≤24) && c.code.all (Eh d c.code.length))))
def E6(d:Ad):Bool:=
 A5 0 4096 d.mem && (decide (d.Ab.length≤8) && (A5 0 8 (max (d.semas.length:Int) d.bufs.length) && (A5 0 8 d.events && (A5 0 8 d.boards && (decide (d.procs.length≤6) &&
 (d.Ab.all FU && (d.semas.all (fun n=>A5 0 255 n) && (d.bufs.all (fun n=>A5 0 15 (n-1)) && d.procs.all (Gx d)))))))))
def Ew(w:aA)(v:bp)(l:List Ai):Prop:=AW w v l.length 4 (fun k j=>(Jc (l.getD k default)).getD j aE)
def I1(nm:ByteArray)(c:bp)(x:Eu):List bp:=[.string nm,I J x.prio,I J x.period,I J x.Cf,c]
def Gd(w:aA)(v:bp)(l:List Eu):Prop:=∃ (b:Nat→ByteArray) (a:Nat→bp),AW w v l.length 5 (fun k j=>(I1 (b k) (a k) (l.getD k default)).getD j aE)∧∀ k,k<l.length→Ew w (a k) (l.getD k default).code
def Ew.below{w w':aA}{v:bp}{l:List Ai}(h:Ew w v l)(a:Bl w w'):Ew w' v l:=AW.below h a
def Gd.below{w w':aA}{v:bp}{l:List Eu}(h:Gd w v l)(a:Bl w w'):Gd w' v l:=by
 obtain⟨f,b,c,d⟩:=h;exact⟨f,b,c.below a,fun k e=>(d k e).below a⟩
def Ew.shape{w:aA}{v:bp}{l:List Ai}(h:Ew w v l):∃ a c,v=Y a l.length c:=by
 obtain⟨a,c,h,_⟩:=h;exact⟨a,c,h⟩
def Td:EG 52:=fun _ _=>by kernel_rfl
def Te:EG 56:=fun _ _=>by kernel_rfl
def Tf:EG 57:=fun _ _=>by kernel_rfl
def Tg:EG 59:=fun _ _=>by kernel_rfl
def Th:EG 61:=fun _ _=>by kernel_rfl
def DA(n a:Int)(w:aA):bo prog 40 #[I J n,I J a] w fun e w'=>e=.returned (.bool (A5 0 a n))∧w'=w:=by
 by_cases b:0≤n
 ·by_cases c:n≤a
  ·rw[show A5 0 a n=true by simp[A5];omega];go_enter func40,ntmps40;go_wp2;go_ret;exact⟨rfl,rfl⟩
  ·rw[show A5 0 a n=false by simp[A5];omega];go_enter func40,ntmps40;go_wp2;go_ret;exact⟨rfl,rfl⟩
 ·rw[show A5 0 a n=false by simp[A5];omega];go_enter func40,ntmps40;go_wp2;go_ret;exact⟨rfl,rfl⟩
def RL(n:Int)(w:aA):bo prog 56 #[I J n] w fun e w'=>e=.returned (.bool (!A5 0 255 n))∧Bl w w':=by
 have H:=HH (DA n 255 w);generalize A5 0 255 n=b at H ⊢;go_enter func56,ntmps56;go_wp2_with (go_at_call 40;refine H.o.mono ?_;rintro e w' ⟨rfl,rfl⟩);go_ret;exact⟨rfl,ap _ _⟩
def RM(n:Int)(c:-9223372036854775808≤n)(d:n≤9223372036854775807)(w:aA):bo prog 57 #[I J n] w fun e w'=>e=.returned (.bool (!A5 0 15 (n-1)))∧Bl w w':=by
 by_cases a:n=-9223372036854775808
 ·subst a;have H:=HH (DA (wrap64 (-9223372036854775809)) 15 w);rw[show A5 0 15 (wrap64 (-9223372036854775809))=false by kernel_rfl] at H;rw[show A5 0 15 (-9223372036854775808-1)=false by simp[A5]];go_enter func57,ntmps57;go_wp2_with (go_at_call 40;refine H.o.mono ?_;rintro e w' ⟨rfl,rfl⟩);go_ret;exact⟨rfl,ap _ _⟩
 ·have H:=HH (DA (n-1) 15 w);generalize A5 0 15 (n-1)=b at H ⊢;have f:-9223372036854775808≤n-1:=by omega
  have g:n-1≤9223372036854775807:=by omega
  clear a c d;go_enter func57,ntmps57;go_wp2_with (go_at_call 40;refine H.o.mono ?_;rintro e w' ⟨rfl,rfl⟩);go_ret;exact⟨rfl,ap _ _⟩
def RJ(k:CV)(nm:ByteArray)(w:aA):bo prog 52 #[.agg #[.string nm,I U k.kind,.bool k.o,I J k.size,I J k.depth,I J k.At]] w fun e w'=>e=.returned (.bool (!FU k))∧Bl w w':=by
 obtain⟨j,f⟩:=ex (w.alloc (T #[.string nm,I U k.kind,.bool k.o,I J k.size,I J k.depth,I J k.At] 62));have y:Bl w j:=by rw[f];exact(ap _ w).alloc (aq _) _
 have h:j.heap[w.heap.size]? =Z (T #[.string nm,I U k.kind,.bool k.o,I J k.size,I J k.depth,I J k.At] 62 (0,0)):=by rw[f];exact ay _ _
 obtain⟨v,d,F⟩:=H3 f y h;obtain⟨l,m,n,q,r,s⟩:=r6 h;have i:Hq (∀ W,bo prog 53 #[.agg #[.string nm,I U k.kind,.bool k.o,I J k.size,I J k.depth,I J k.At],.agg #[Y O 0 0,I J 0,.bool false]] W fun e w'=>e=.returned (.bool (DZ k ⟨[],0,false⟩))∧Bl W w'):=fun W=>QJ nm k.kind k.o k.size k.depth k.At 0 false (Y O 0 0) [] W (A4.nil (D:=fun _=>True)).1 (by simp);have u:Hq (∀ W,bo prog 54 #[.agg #[.string nm,I U k.kind,.bool k.o,I J k.size,I J k.depth,I J k.At],.agg #[Y O 0 0,Y O 0 0,I J 0]] W fun e w'=>e=.returned (.bool (BP k.kind k.size k.depth k.At [] [] 0))∧Bl W w'):=fun W=>DY nm k.kind k.o k.size k.depth k.At 0 (Y O 0 0) (Y O 0 0) [] [] W (BS.nil (D:=fun _=>True)).rd (Bm.nil (D:=fun _=>True)).1 (by intro x C;cases C) (by simp) (by simp);unfold FU;generalize DZ k ⟨[],0,false⟩=A at i ⊢;generalize BP k.kind k.size k.depth k.At [] [] 0=H at u ⊢;have b:Hq (w.heap.size<j.heap.size):=Aa h;clear f y h;cases A with
 |true=>
  go_enter func52,ntmps52;go_upto_region 1 with (fail);rw[←v.o];obtain⟨g,c⟩:=ex w.heap.size;rw[←c] at l m n q r s ⊢;have z:=HH c;clear c;go_wp2_with (go_at_call 53;refine(i.o _).mono ?_;rintro e E ⟨rfl,a⟩);go_ret;exact⟨rfl,d.o.trans (a.mono d.o.size)⟩
 |false=>
  go_enter func52,ntmps52;go_upto_region 1 with (fail);rw[←v.o];obtain⟨g,c⟩:=ex w.heap.size;rw[←c] at l m n q r s b ⊢;have z:=HH c;clear c;go_wp2_with (first
   |(go_at_call 53;refine(i.o _).mono ?_;rintro e E ⟨rfl,a⟩
     have t:=HH a;have L:=(a.cell (p:=⟨g,0,O⟩) b.o).trans l;have M:=(a.cell (p:=⟨g,1,O⟩) b.o).trans m;have N:=(a.cell (p:=⟨g,2,O⟩) b.o).trans n;have P:=(a.cell (p:=⟨g,3,O⟩) b.o).trans q;have Q:=(a.cell (p:=⟨g,4,O⟩) b.o).trans r;have R:=(a.cell (p:=⟨g,5,O⟩) b.o).trans s;clear a)
   |(go_at_call 54;refine(u.o _).mono ?_;rintro e K ⟨rfl,B⟩))
  go_ret;exact⟨by simp,d.o.trans ((t.o.trans (B.mono t.o.size)).mono d.o.size)⟩
def RN(d:Ad)(x:Ai)(n:Nat)(nm:ByteArray)(N M:Int)(P t k u S:Option Addr)(z v co y V l h:Nat)(A:0≤x.op)(B:x.op≤255)(hn:n≤100000)(w:aA)(L:Ex w (Y k d.Ab.length co) d.Ab)(r:Ce w)(C:16≤w.heap.size)
  (q:w.heap[l]? =Z (T #[.string nm,I J N,I J M,I J d.mem,Y P d.semas.length z,I J d.events,I J d.boards,Y t d.bufs.length v,Y k d.Ab.length co,Y u d.procs.length y] 26 (0,0))) (D:w.cell? ⟨h,4,O⟩=Z (Y S n V)) (E:h<w.heap.size):
  bo prog 61 #[.agg #[I U x.op,I J x.a,I J x.b,I J x.c],G (Z ⟨l,0,O⟩),G (Z ⟨h,0,O⟩)] w fun e w'=>e=.returned (.bool (!Eh d n x))∧Bl w w':=by
 obtain⟨j,i⟩:=ex (w.alloc (T #[I U x.op,I J x.a,I J x.b,I J x.c] 64));have f:Bl w j:=by rw[i];exact(ap _ w).alloc (aq _) _
 have F:j.heap[w.heap.size]? =Z (T #[I U x.op,I J x.a,I J x.b,I J x.c] 64 (0,0)):=by rw[i];exact ay _ _
 have K:=(f.block l (Aa q)).trans q;have ag:=(f.cell (p:=⟨h,4,O⟩) E).trans D;have H:=HH (Rd d (n:Int) x nm N M P t k u z v co y A B j (L.below f) (r.below C f) (by have:=f.size;omega));generalize Eh d n x=bb at H ⊢;obtain⟨Q,s⟩:=H2 i f;obtain⟨W,X,x2,x3⟩:=r4 F;obtain⟨y0,y1,y2,y3,y4,y5,y6,y7,y8,y9⟩:=DV K;clear i f F K q D E L r C A B;go_enter func61,ntmps61;go_upto_region 1 with (fail);rw[←Q.o];obtain⟨g,m⟩:=ex w.heap.size;rw[←m] at W X x2 x3 ⊢;have HG:=HH m;clear m;go_wp2_with (go_at_call 62;refine H.o.mono ?_;rintro e w2 ⟨rfl,R⟩);go_ret;exact⟨rfl,s.o.trans (R.mono s.o.size)⟩
def RO(d:Ad)(x:Eu)(nm P:ByteArray)(pe le:Int)(sa R H S l:Option Addr)(cs V co X m j:Nat)(M:∀ i∈x.code,0≤i.op∧i.op≤255)(w:aA)(ae:Ew w (Y l x.code.length m) x.code)(ah:Ex w (Y H d.Ab.length co) d.Ab)(Q:Ce w)(ad:16≤w.heap.size)
  (N:w.heap[j]? =Z (T #[.string nm,I J pe,I J le,I J d.mem,Y sa d.semas.length cs,I J d.events,I J d.boards,Y R d.bufs.length V,Y H d.Ab.length co,Y S d.procs.length X] 26 (0,0))):
  bo prog 59 #[.agg #[.string P,I J x.prio,I J x.period,I J x.Cf,Y l x.code.length m],G (Z ⟨j,0,O⟩)] w fun e w'=>e=.returned (.bool (!Gx d x))∧Bl w w':=by
 obtain⟨v,F⟩:=ex (w.alloc (T #[.string P,I J x.prio,I J x.period,I J x.Cf,Y l x.code.length m] 68));have c:Bl w v:=by rw[F];exact(ap _ w).alloc (aq _) _
 have y:v.heap[w.heap.size]? =Z (T #[.string P,I J x.prio,I J x.period,I J x.Cf,Y l x.code.length m] 68 (0,0)):=by rw[F];exact ay _ _
 have L:=(c.block j (Aa N)).trans N;have f:Hq (x.code.length≤24→bo prog 60 #[Y l x.code.length m,.func (.func 61) #[] #[G (Z ⟨j,0,O⟩),G (Z ⟨w.heap.size,0,O⟩)]] v fun e w'=>e=.returned (.bool (!x.code.all (Eh d x.code.length)))∧Bl v w'):=fun K=>by
  have:=Oj (Y l x.code.length m) x.code.length _ 61 #[G (Z ⟨j,0,O⟩),G (Z ⟨w.heap.size,0,O⟩)] (fun k=>!Eh d x.code.length (x.code.getD k default)) Th v (ae.below c) (by omega)
   (fun k hk W b=>by
    have hm:x.code.getD k default∈x.code:=by rw[au,ax hk];exact bE hk
    have:=RN d (x.code.getD k default) x.code.length nm pe le sa R H S l cs V co X m j w.heap.size (M _ hm).1 (M _ hm).2 (by omega) W ((ah.below c).below b) ((Q.below ad c).below (by have:=c.size;omega) b) (by have h1:=c.size;have h2:=b.size;omega) ((b.block j (Aa L)).trans L) ((b.cell (p:=⟨w.heap.size,4,O⟩) (Aa y)).trans (Cr y)) (a8 (Aa y) b.size);exact this.mono fun e w' h=>⟨h.1,b.trans (h.2.mono b.size)⟩)
  rw[show DQ (fun k=>!Eh d x.code.length (x.code.getD k default)) x.code.length=!x.code.all (Eh d x.code.length) by rw[Io (fun i=>!Eh d x.code.length i)];simp[a6]] at this;exact this
 unfold Gx;generalize x.code.all (Eh d x.code.length)=b5 at f ⊢;obtain⟨u,q⟩:=H2 F c;obtain⟨z,A,B,C,D⟩:=r5 y;clear F c y L N ae M ah Q ad;generalize x.prio=v1 at*;generalize x.period=v2 at*;generalize x.Cf=v3 at*;generalize x.code.length=n at*;cases r:A5 0 255 v1 with
 |false=>
  go_enter func59,ntmps59;go_upto_region 1 with (fail);rw[←u.o];obtain⟨g,a⟩:=ex w.heap.size;rw[←a] at z A B C D f ⊢;have E:=HH a;clear a;go_wp2_with (first|(go_at_call 40;refine(DA _ _ _).mono ?_;rintro e w' ⟨rfl,rfl⟩;first|rw[r]|rw[s]|rw[t]|rw[E4]))
  go_ret;exact⟨rfl,q.o⟩
 |true=>
  cases s:A5 0 1073741824 v2 with
  |false=>
   go_enter func59,ntmps59;go_upto_region 1 with (fail);rw[←u.o];obtain⟨g,a⟩:=ex w.heap.size;rw[←a] at z A B C D f ⊢;have E:=HH a;clear a;go_wp2_with (first|(go_at_call 40;refine(DA _ _ _).mono ?_;rintro e w' ⟨rfl,rfl⟩;first|rw[r]|rw[s]|rw[t]|rw[E4]))
   go_ret;exact⟨rfl,q.o⟩
  |true=>
   cases t:A5 0 1073741824 v3 with
   |false=>
    go_enter func59,ntmps59;go_upto_region 1 with (fail);rw[←u.o];obtain⟨g,a⟩:=ex w.heap.size;rw[←a] at z A B C D f ⊢;have E:=HH a;clear a;go_wp2_with (first|(go_at_call 40;refine(DA _ _ _).mono ?_;rintro e w' ⟨rfl,rfl⟩;first|rw[r]|rw[s]|rw[t]|rw[E4]))
    go_ret;exact⟨rfl,q.o⟩
   |true=>
    by_cases K:n≤24
    ·rw[show decide (n≤24)=true from decide_eq_true K];go_enter func59,ntmps59;go_upto_region 1 with (fail);rw[←u.o];obtain⟨g,a⟩:=ex w.heap.size;rw[←a] at z A B C D f ⊢;have E:=HH a;clear a;go_wp2_with (first|(go_at_call 40;refine(DA _ _ _).mono ?_;rintro e w' ⟨rfl,rfl⟩;first|rw[r]|rw[s]|rw[t]|rw[E4])|(go_at_call 60;refine(f.o (by omega)).mono ?_;rintro e w2 ⟨rfl,al⟩))
     go_ret;exact⟨by simp;intro h;omega,q.o.trans (al.mono q.o.size)⟩
    ·rw[show decide (n≤24)=false from decide_eq_false K];go_enter func59,ntmps59;go_upto_region 1 with (fail);rw[←u.o];obtain⟨g,a⟩:=ex w.heap.size;rw[←a] at z A B C D f ⊢;have E:=HH a;clear a;go_wp2_with (first|(go_at_call 40;refine(DA _ _ _).mono ?_;rintro e w' ⟨rfl,rfl⟩;first|rw[r]|rw[s]|rw[t]|rw[E4]))
     go_ret;exact⟨rfl,q.o⟩
def RS(d:Ad)(nm:ByteArray)(pe le:Int)(sa X ao ac:Option Addr)(cs cb co cc:Nat)(w:aA)(aU:C6 w (Y sa d.semas.length cs) d.semas)(aL:C6 w (Y X d.bufs.length cb) d.bufs)(av:∀ n∈d.bufs,-9223372036854775808≤n∧n≤9223372036854775807)(aT:Ex w (Y ao d.Ab.length co) d.Ab)(aS:Gd w (Y ac d.procs.length cc) d.procs)(aR:∀ c∈d.procs,∀ i∈c.code,0≤i.op∧i.op≤255)(aF:Ce w)(aH:16≤w.heap.size):
  bo prog 23 #[.agg #[.string nm,I J pe,I J le,I J d.mem,Y sa d.semas.length cs,I J d.events,I J d.boards,Y X d.bufs.length cb,Y ao d.Ab.length co,Y ac d.procs.length cc]] w fun e w'=>e=.returned (.bool (E6 d))∧Bl w w':=by
 obtain⟨C,hW⟩:=ex (w.alloc (T #[.string nm,I J pe,I J le,I J d.mem,Y sa d.semas.length cs,I J d.events,I J d.boards,Y X d.bufs.length cb,Y ao d.Ab.length co,Y ac d.procs.length cc] 26));have Q:Bl w C:=by rw[hW];exact(ap _ w).alloc (aq _) _
 have ah:C.heap[w.heap.size]? =Z (T #[.string nm,I J pe,I J le,I J d.mem,Y sa d.semas.length cs,I J d.events,I J d.boards,Y X d.bufs.length cb,Y ao d.Ab.length co,Y ac d.procs.length cc] 26 (0,0)):=by rw[hW];exact ay _ _
 have aI:16≤C.heap.size:=by have:=Q.size;omega
 have aw:=aT.below Q;have G1:=aF.below aH Q;have aj:Hq (d.Ab.length≤8→bo prog 51 #[Y ao d.Ab.length co,.func (.func 52) #[] #[]] C fun e w'=>e=.returned (.bool (!d.Ab.all FU))∧Bl C w'):=fun h8=>by
  obtain⟨az,hr⟩:=aw;have:=Sv _ d.Ab.length _ 52 #[] (fun k=>!FU (d.Ab.getD k default)) Td C hr (by omega) (fun k P W r=>by
   have:=RJ (d.Ab.getD k default) (az k) W;exact this.mono fun e w' h=>⟨h.1,r.trans (h.2.mono r.size)⟩)
  rw[show DQ (fun k=>!FU (d.Ab.getD k default)) d.Ab.length=!d.Ab.all FU by rw[Io (fun i=>!FU i)];simp[a6]] at this;exact this
 have al:Hq (d.semas.length≤8→∀ W,Bl C W→bo prog 55 #[Y sa d.semas.length cs,.func (.func 56) #[] #[]] W fun e w'=>e=.returned (.bool (!d.semas.all (fun n=>A5 0 255 n)))∧Bl W w'):=fun h8 W r=>by
  have:=JT _ d.semas.length _ 56 #[] (fun k=>!A5 0 255 (d.semas.getD k 0)) Te W ((AW.below aU Q).below r) (by omega) (fun k P V u=>by
   have:=RL (d.semas.getD k 0) V;exact this.mono fun e w' h=>⟨h.1,u.trans (h.2.mono u.size)⟩)
  rw[show DQ (fun k=>!A5 0 255 (d.semas.getD k 0)) d.semas.length=!d.semas.all (fun n=>A5 0 255 n) by rw[Io (fun i=>!A5 0 255 i)];simp[a6]] at this;exact this
 have ar:Hq (d.bufs.length≤8→∀ W,Bl C W→bo prog 55 #[Y X d.bufs.length cb,.func (.func 57) #[] #[]] W fun e w'=>e=.returned (.bool (!d.bufs.all (fun n=>A5 0 15 (n-1))))∧Bl W w'):=fun h8 W r=>by
  have:=JT _ d.bufs.length _ 57 #[] (fun k=>!A5 0 15 (d.bufs.getD k 0-1)) Tf W ((AW.below aL Q).below r) (by omega) (fun k P V u=>by
   have hm:d.bufs.getD k 0∈d.bufs:=by rw[au,ax P];exact bE P
   have:=RM (d.bufs.getD k 0) (av _ hm).1 (av _ hm).2 V;exact this.mono fun e w' h=>⟨h.1,u.trans (h.2.mono u.size)⟩)
  rw[show DQ (fun k=>!A5 0 15 (d.bufs.getD k 0-1)) d.bufs.length=!d.bufs.all (fun n=>A5 0 15 (n-1)) by rw[Io (fun i=>!A5 0 15 (i-1))];simp[a6]] at this;exact this
 have v:Hq (d.procs.length≤6→∀ W,Bl C W→bo prog 58 #[Y ac d.procs.length cc,.func (.func 59) #[] #[G (Z ⟨w.heap.size,0,O⟩)]] W fun e w'=>e=.returned (.bool (!d.procs.all (Gx d)))∧Bl W w'):=fun h8 W r=>by
  obtain⟨az,cv,hr,aN⟩:=(aS.below Q).below r;have a5:Ce W:=G1.below aI r;have:=Su _ d.procs.length _ 59 #[G (Z ⟨w.heap.size,0,O⟩)] (fun k=>!Gx d (d.procs.getD k default)) Tg W hr (by omega) (fun k P V u=>by
   have hm:d.procs.getD k default∈d.procs:=by rw[au,ax P];exact bE P
   obtain⟨ic,a7,aO⟩:=(aN k P).shape;have aM:=(aN k P).below u;rw[aO] at aM;have:=RO d (d.procs.getD k default) nm (az k) pe le sa X ao ac ic cs cb co cc a7 w.heap.size (aR _ hm) V aM ((aw.below r).below u) (a5.below (by have:=r.size;omega) u) (by have h1:=r.size;have h2:=u.size;omega) ((u.block _ (a8 (Aa ah) r.size)).trans ((r.block _ (Aa ah)).trans ah));rw[←aO] at this;exact this.mono fun e w' h=>⟨h.1,u.trans (h.2.mono u.size)⟩)
  rw[show DQ (fun k=>!Gx d (d.procs.getD k default)) d.procs.length=!d.procs.all (Gx d) by rw[Io (fun i=>!Gx d i)];simp[a6]] at this;exact this
 unfold E6;generalize d.Ab.all FU=a1 at aj ⊢;generalize d.semas.all (fun n=>A5 0 255 n)=a2 at al ⊢;generalize d.bufs.all (fun n=>A5 0 15 (n-1))=a3 at ar ⊢;generalize d.procs.all (Gx d)=a4 at v ⊢;have aJ:A5 0 8 (max (d.semas.length:Int) d.bufs.length)=true→d.semas.length≤8∧d.bufs.length≤8:=fun h=>by simp only[A5,cR,decide_eq_true_eq] at h;omega
 have B:=HH hW;have b:Hq (w.heap.size<C.heap.size):=Aa ah;have q:=HH Q;obtain⟨D,E,F,H,s,K,L,l,M,j⟩:=DV ah;have aW:=HH aJ;clear hW Q ah aI aw G1 aU aL av aS aR aT aF aH aJ;generalize d.mem=vm at*;generalize d.events=ve at*;generalize d.boards=vb at*;generalize d.semas.length=ns at*;generalize d.bufs.length=nb at*;generalize d.Ab.length=np at*;generalize d.procs.length=nc at*;cases y:A5 0 4096 vm with
 |false=>
  go_enter func23,ntmps23;go_upto_region 1 with (fail);rw[←B.o];obtain⟨g,a⟩:=ex w.heap.size;rw[←a] at D E F H s K L l M j v b ⊢;have N:=HH a;clear a;go_wp2_with (first|(go_at_call 40;refine(DA _ _ _).mono ?_;rintro e w' ⟨rfl,rfl⟩;first|rw[y]|rw[x]|rw[z]|rw[A]))
  go_ret;exact⟨by simp,q.o⟩
 |true=>
  by_cases aQ:np≤8
  ·rw[show decide (np≤8)=true from decide_eq_true aQ];cases x:A5 0 8 (max (ns:Int) nb) with
   |false=>
    go_enter func23,ntmps23;go_upto_region 1 with (fail);rw[←B.o];obtain⟨g,a⟩:=ex w.heap.size;rw[←a] at D E F H s K L l M j v b ⊢;have N:=HH a;clear a;go_wp2_with (first|(go_at_call 40;refine(DA _ _ _).mono ?_;rintro e w' ⟨rfl,rfl⟩;first|rw[y]|rw[x]|rw[z]|rw[A]))
    go_ret;exact⟨by simp,q.o⟩
   |true=>
    obtain⟨bj,bi⟩:=aW.o x;cases z:A5 0 8 ve with
    |false=>
     go_enter func23,ntmps23;go_upto_region 1 with (fail);rw[←B.o];obtain⟨g,a⟩:=ex w.heap.size;rw[←a] at D E F H s K L l M j v b ⊢;have N:=HH a;clear a;go_wp2_with (first|(go_at_call 40;refine(DA _ _ _).mono ?_;rintro e w' ⟨rfl,rfl⟩;first|rw[y]|rw[x]|rw[z]|rw[A]))
     go_ret;exact⟨by simp,q.o⟩
    |true=>
     cases A:A5 0 8 vb with
     |false=>
      go_enter func23,ntmps23;go_upto_region 1 with (fail);rw[←B.o];obtain⟨g,a⟩:=ex w.heap.size;rw[←a] at D E F H s K L l M j v b ⊢;have N:=HH a;clear a;go_wp2_with (first|(go_at_call 40;refine(DA _ _ _).mono ?_;rintro e w' ⟨rfl,rfl⟩;first|rw[y]|rw[x]|rw[z]|rw[A]))
      go_ret;exact⟨by simp,q.o⟩
     |true=>
      by_cases aP:nc≤6
      ·rw[show decide (nc≤6)=true from decide_eq_true aP];cases a1 with
       |false=>
        go_enter func23,ntmps23;go_upto_region 1 with (fail);rw[←B.o];obtain⟨g,a⟩:=ex w.heap.size;rw[←a] at D E F H s K L l M j v b ⊢;have N:=HH a;clear a;go_wp2_with (first|(go_at_call 40;refine(DA _ _ _).mono ?_;rintro e w' ⟨rfl,rfl⟩;first|rw[y]|rw[x]|rw[z]|rw[A])|(go_at_call 51;refine(aj.o (by omega)).mono ?_;rintro e w2 ⟨rfl,f⟩;have t:=HH f;have z4:=(f.cell (p:=⟨g,4,O⟩) b.o).trans s;have z7:=(f.cell (p:=⟨g,7,O⟩) b.o).trans l;have z9:=(f.cell (p:=⟨g,9,O⟩) b.o).trans j;clear f))
        go_ret;exact⟨by simp,q.o.trans (t.o.mono q.o.size)⟩
       |true=>
        cases a2 with
        |false=>
         go_enter func23,ntmps23;go_upto_region 1 with (fail);rw[←B.o];obtain⟨g,a⟩:=ex w.heap.size;rw[←a] at D E F H s K L l M j v b ⊢;have N:=HH a;clear a;go_wp2_with (first|(go_at_call 40;refine(DA _ _ _).mono ?_;rintro e w' ⟨rfl,rfl⟩;first|rw[y]|rw[x]|rw[z]|rw[A])|(go_at_call 51;refine(aj.o (by omega)).mono ?_;rintro e w2 ⟨rfl,f⟩;have t:=HH f;have z4:=(f.cell (p:=⟨g,4,O⟩) b.o).trans s;have z7:=(f.cell (p:=⟨g,7,O⟩) b.o).trans l;have z9:=(f.cell (p:=⟨g,9,O⟩) b.o).trans j;clear f)|(go_at_call 55;refine(al.o (by omega) _ t.o).mono ?_;rintro e w3 ⟨rfl,R⟩;have m:=HH (t.o.trans (R.mono t.o.size));have q7:=(m.o.cell (p:=⟨g,7,O⟩) b.o).trans l;have q9:=(m.o.cell (p:=⟨g,9,O⟩) b.o).trans j;clear R))
         go_ret;exact⟨by simp,q.o.trans (m.o.mono q.o.size)⟩
        |true=>
         cases a3 with
         |false=>
          go_enter func23,ntmps23;go_upto_region 1 with (fail);rw[←B.o];obtain⟨g,a⟩:=ex w.heap.size;rw[←a] at D E F H s K L l M j v b ⊢;have N:=HH a;clear a;go_wp2_with (first|(go_at_call 40;refine(DA _ _ _).mono ?_;rintro e w' ⟨rfl,rfl⟩;first|rw[y]|rw[x]|rw[z]|rw[A])|(go_at_call 51;refine(aj.o (by omega)).mono ?_;rintro e w2 ⟨rfl,f⟩;have t:=HH f;have z4:=(f.cell (p:=⟨g,4,O⟩) b.o).trans s;have z7:=(f.cell (p:=⟨g,7,O⟩) b.o).trans l;have z9:=(f.cell (p:=⟨g,9,O⟩) b.o).trans j;clear f)|(go_at_call 55;refine(al.o (by omega) _ t.o).mono ?_;rintro e w3 ⟨rfl,R⟩;have m:=HH (t.o.trans (R.mono t.o.size));have q7:=(m.o.cell (p:=⟨g,7,O⟩) b.o).trans l;have q9:=(m.o.cell (p:=⟨g,9,O⟩) b.o).trans j;clear R)|(go_at_call 55;refine(ar.o (by omega) _ m.o).mono ?_;rintro e w4 ⟨rfl,ak⟩;have S:=HH (m.o.trans (ak.mono m.o.size));have r9:=(S.o.cell (p:=⟨g,9,O⟩) b.o).trans j;clear ak))
          go_ret;exact⟨by simp,q.o.trans (S.o.mono q.o.size)⟩
         |true=>
          go_enter func23,ntmps23;go_upto_region 1 with (fail);rw[←B.o];obtain⟨g,a⟩:=ex w.heap.size;rw[←a] at D E F H s K L l M j v b ⊢;have N:=HH a;clear a;go_wp2_with (first|(go_at_call 40;refine(DA _ _ _).mono ?_;rintro e w' ⟨rfl,rfl⟩;first|rw[y]|rw[x]|rw[z]|rw[A])|(go_at_call 51;refine(aj.o (by omega)).mono ?_;rintro e w2 ⟨rfl,f⟩;have t:=HH f;have z4:=(f.cell (p:=⟨g,4,O⟩) b.o).trans s;have z7:=(f.cell (p:=⟨g,7,O⟩) b.o).trans l;have z9:=(f.cell (p:=⟨g,9,O⟩) b.o).trans j;clear f)|(go_at_call 55;refine(al.o (by omega) _ t.o).mono ?_;rintro e w3 ⟨rfl,R⟩;have m:=HH (t.o.trans (R.mono t.o.size));have q7:=(m.o.cell (p:=⟨g,7,O⟩) b.o).trans l;have q9:=(m.o.cell (p:=⟨g,9,O⟩) b.o).trans j;clear R)|(go_at_call 55;refine(ar.o (by omega) _ m.o).mono ?_;rintro e w4 ⟨rfl,ak⟩;have S:=HH (m.o.trans (ak.mono m.o.size));have r9:=(S.o.cell (p:=⟨g,9,O⟩) b.o).trans j;clear ak)|(go_at_call 58;refine(v.o (by omega) _ S.o).mono ?_;rintro e w5 ⟨rfl,aK⟩;have aX:=HH (S.o.trans (aK.mono S.o.size));clear aK))
          go_ret;exact⟨by simp,q.o.trans (aX.o.mono q.o.size)⟩
      ·rw[show decide (nc≤6)=false from decide_eq_false aP];go_enter func23,ntmps23;go_upto_region 1 with (fail);rw[←B.o];obtain⟨g,a⟩:=ex w.heap.size;rw[←a] at D E F H s K L l M j v b ⊢;have N:=HH a;clear a;go_wp2_with (first|(go_at_call 40;refine(DA _ _ _).mono ?_;rintro e w' ⟨rfl,rfl⟩;first|rw[y]|rw[x]|rw[z]|rw[A]))
       go_ret;exact⟨by simp,q.o⟩
  ·rw[show decide (np≤8)=false from decide_eq_false aQ];go_enter func23,ntmps23;go_upto_region 1 with (fail);rw[←B.o];obtain⟨g,a⟩:=ex w.heap.size;rw[←a] at D E F H s K L l M j v b ⊢;have N:=HH a;clear a;go_wp2_with (first|(go_at_call 40;refine(DA _ _ _).mono ?_;rintro e w' ⟨rfl,rfl⟩;first|rw[y]|rw[x]|rw[z]|rw[A]))
   go_ret;exact⟨by simp,q.o⟩
end Go.Proofs.YtiepijihpgijbaaGreatDoor
