import Derived.Test.YtiepijihpgijbaaGreatDoorQ15
import Derived.Test.YtiepijihpgijbaaGreatDoorQ13
set_option maxHeartbeats 8000000
set_option maxRecDepth 100000
set_option linter.all false
open Option renaming some→Z,none→O
open Go.Obj renaming cells→T
open Go.IntKind renaming u8→U,i64→J
open Go.Value renaming int→I,slice→Y,pointer→G
open List renaming setIfInBounds_toArray→aj,set_cons_zero→an,set_cons_succ→ao,drop_succ_cons→bc,drop_zero→bB,drop_nil→bJ,getElem_mem→cu
open Go renaming Calls→aV,World→a2,bodyPost_ret→a9,heap_alloc_new→ba,Value→be,results→bX,execOp→cG
open Go.RowKit.Below renaming heap_alloc→aX,refl→bH
open Nat renaming le_trans→bb,le_refl→bn
open Go.Value.slice renaming injEq→bk
open List.cons renaming injEq→bF
open Array.mk renaming injEq→bU
open Go.Value.agg renaming injEq→cb
open Int renaming toNat_natCast→cf
open Go.Instr renaming findNow→cK,field→cT
namespace Go.Proofs.YtiepijihpgijbaaGreatDoor
open Go.RowKit Tryz
def Dn{w:a2}{g:Nat}{a b c d e f:be}{i:TypeId}(h:w.heap[g]? =Z (T #[a,b,c,d,e,f] i (0,0))):w.cell? ⟨g,0,O⟩=Z a∧w.cell? ⟨g,1,O⟩=Z b∧w.cell? ⟨g,2,O⟩=Z c∧w.cell? ⟨g,3,O⟩=Z d∧w.cell? ⟨g,4,O⟩=Z e∧w.cell? ⟨g,5,O⟩=Z f:=
 ⟨by rw[Cr h];rfl,by rw[Cr h];rfl,by rw[Cr h];rfl,by rw[Cr h];rfl,by rw[Cr h];rfl,by rw[Cr h];rfl⟩
def Dp{w:a2}{g:Nat}{a b c:be}{d:TypeId}(h:w.heap[g]? =Z (T #[a,b,c] d (0,0))):w.cell? ⟨g,0,O⟩=Z a∧w.cell? ⟨g,1,O⟩=Z b∧w.cell? ⟨g,2,O⟩=Z c:=
 ⟨by rw[Cr h];rfl,by rw[Cr h];rfl,by rw[Cr h];rfl⟩
def QJ(nm:ByteArray)(k:Int)(o:Bool)(s d r a:Int)(b:Bool)(vq:be)(q:List Int)(w:a2)(c:Af U w 0 vq q)(i:q.length≤100000):
  aV prog 53 #[.agg #[.string nm,I U k,.bool o,I J s,I J d,I J r],.agg #[vq,I J a,.bool b]] w fun e w'=>e=.returned (.bool (DZ ⟨k,o,s,d,r⟩ ⟨q,a,b⟩))∧Bl w w':=by
 have f:Hq (∀ W,Bl w W→aV prog 96 #[.agg #[.string nm,I U k,.bool o,I J s,I J d,I J r,vq,I J a,.bool b]] W fun e w'=>e=.returned (.bool (DZ ⟨k,o,s,d,r⟩ ⟨q,a,b⟩))∧Bl W w'):=fun W g=>Zq nm k o s d r a b vq q W (c.below g) i;clear c;go_enter func53,ntmps53;go_wp2_with (go_at_call 96;refine(f.o _ (((bH _ _).alloc (bn _) _).alloc (by simp) _)).mono ?_;rintro e j ⟨rfl,h⟩);go_ret;exact⟨rfl,(((bH _ _).alloc (bn _) _).alloc (by simp) _).trans (h.mono (by simp;omega))⟩
def Kl(nm:ByteArray)(k:Int)(o:Bool)(s d r a:Int)(f:Bool)(vq:be)(q:List Int)(w:a2)(F:Af U w 0 vq q)(N:q.length≤100000)(now:Int):
  aV prog 91 #[.agg #[.string nm,I U k,.bool o,I J s,I J d,I J r],.agg #[vq,I J a,.bool f],I J now] w fun e w'=>e=.returned (.bool (Ff ⟨k,o,s,d,r⟩ ⟨q,a,f⟩ now))∧Bl w w':=by
 generalize H:DZ ⟨k,o,s,d,r⟩ ⟨q,a,f⟩=K;have B:Hq (∀ W,Bl w W→aV prog 53 #[.agg #[.string nm,I U k,.bool o,I J s,I J d,I J r],.agg #[vq,I J a,.bool f]] W fun e w'=>e=.returned (.bool K)∧Bl W w'):=fun W hb=>by
  have:=QJ nm k o s d r a f vq q W (F.below hb) N;rwa [H] at this
 have y:Hq (Ff ⟨k,o,s,d,r⟩ ⟨q,a,f⟩ now=(K && A5 a 1073741824 now)):=by
  show Ff ⟨k,o,s,d,r⟩ ⟨q,a,f⟩ now=_;unfold Ff;rw[H];rfl
 obtain⟨L,M,rfl,af,ag,ah⟩:=F.open_;clear af ag ah F H N;obtain⟨l,m⟩:=ex ((w.alloc (T #[.string nm,I U k,.bool o,I J s,I J d,I J r] 62)).alloc (T #[Y L q.length M,I J a,.bool f] 114));have b:Hq (Bl w l):=by subst m;exact(((bH _ w).alloc (bn _) _).alloc (by simp) _)
 have i:Hq (l.heap[w.heap.size+1]? =Z (T #[Y L q.length M,I J a,.bool f] 114 (0,0))):=by
  subst m;exact HH (GF w _ _)
 have E:=Aa i.o;have D:Hq (l.heap[w.heap.size]? =Z (T #[.string nm,I U k,.bool o,I J s,I J d,I J r] 62 (0,0))):=by
  subst m;exact(aX _ _ _ (by simp)).trans (ba w _)
 have j:=HH m;clear m;cases K with
 |false=>
  go_enter func91,ntmps91;go_upto_region 1 with (fail);rw[←j.o];clear j;obtain⟨P,Q,R,S,V,X⟩:=Dn D.o;obtain⟨s0,s1,s2⟩:=Dp i.o;go_wp2_with (go_at_call 53;refine(B.o l b.o).mono ?_;rintro e u ⟨rfl,c⟩;have h:=HH c;have g:=(c.block _ E).trans i.o;have c1:u.cell? ⟨w.heap.size+1,1,O⟩=Z (I J a):=Cr g;clear c g);go_ret;exact⟨A8 (by rw[y.o];rfl),b.o.trans (h.o.mono b.o.size)⟩
 |true=>
  cases v:A5 a 1073741824 now with
  |false=>
   have x:=HH v;go_enter func91,ntmps91;go_upto_region 1 with (fail);rw[←j.o];clear j;obtain⟨P,Q,R,S,V,X⟩:=Dn D.o;obtain⟨s0,s1,s2⟩:=Dp i.o;go_wp2_with (first|(go_at_call 53;refine(B.o l b.o).mono ?_;rintro e u ⟨rfl,c⟩;have h:=HH c;have g:=(c.block _ E).trans i.o;have c1:u.cell? ⟨w.heap.size+1,1,O⟩=Z (I J a):=Cr g;clear c g)|(go_at_call 128;refine(G7 _ _ _).mono ?_;rintro e w3 ⟨a3,b3,rfl,p,n,t⟩;have A:=HH p;have z:=HH n;have C:=HH t;clear p n t)|(go_at_call 166;refine(Et _ _ _ _ _ _ v (by exact z.o.cell) (by exact C.o.cell)).mono ?_;rintro e w4 ⟨rfl,rfl⟩));go_ret;exact⟨A8 (by rw[y.o,x.o];rfl),(b.o.trans (h.o.mono b.o.size)).trans (A.o.mono (b.o.trans (h.o.mono b.o.size)).size)⟩
  |true=>
   have x:=HH v;go_enter func91,ntmps91;go_upto_region 1 with (fail);rw[←j.o];clear j;obtain⟨P,Q,R,S,V,X⟩:=Dn D.o;obtain⟨s0,s1,s2⟩:=Dp i.o;go_wp2_with (first|(go_at_call 53;refine(B.o l b.o).mono ?_;rintro e u ⟨rfl,c⟩;have h:=HH c;have g:=(c.block _ E).trans i.o;have c1:u.cell? ⟨w.heap.size+1,1,O⟩=Z (I J a):=Cr g;clear c g)|(go_at_call 128;refine(G7 _ _ _).mono ?_;rintro e w3 ⟨a3,b3,rfl,p,n,t⟩;have A:=HH p;have z:=HH n;have C:=HH t;clear p n t)|(go_at_call 166;refine(Et _ _ _ _ _ _ v (by exact z.o.cell) (by exact C.o.cell)).mono ?_;rintro e w4 ⟨rfl,rfl⟩));go_ret;exact⟨A8 (by rw[y.o,x.o];rfl),(b.o.trans (h.o.mono b.o.size)).trans (A.o.mono (b.o.trans (h.o.mono b.o.size)).size)⟩
def LI(w:a2)(x:Ee)(e:Ending)(w':a2):Prop:=∃ v,e=.returned (.agg #[v,I J x.at_,.bool x.has])∧AA w' w.heap.size v x.data∧Bl w w'
def PE(g:Int)(h:Bool)(vq:be)(q:List Int)(w:a2)(m:Af U w 0 vq q)(F:q.length≤100000):
  aV prog 92 #[.agg #[vq,I J g,.bool h]] w (LI w ⟨q,g,h⟩):=by
 obtain⟨j,k,rfl,_,_,_⟩:=m.open_;obtain⟨a,d⟩:=ex ((w.alloc (T #[Y j q.length k,I J g,.bool h] 114)).alloc (T #[Y O 0 0,I J 0,.bool false] 114));have i:Hq (Bl w a):=by subst d;exact((bH _ w).alloc (bn _) _).alloc (by simp) _
 have f:Hq (a.heap[w.heap.size]? =Z (T #[Y j q.length k,I J g,.bool h] 114 (0,0))):=by subst d;exact(aX _ _ _ (by simp)).trans (ba w _)
 have c:Hq (a.heap[w.heap.size+1]? =Z (T #[Y O 0 0,I J 0,.bool false] 114 (0,0))):=by
  subst d;exact GF w _ _
 have n:=HH (Gj _ q a (m.below i.o) (by omega));have t:a.heap.size=w.heap.size+2:=by subst d;simp
 obtain⟨z,r⟩:=H2 t d;have E:a.cell? ⟨w.heap.size,0,O⟩=Z (Y j q.length k):=by rw[Cr f.o];rfl
 clear m d t;go_enter func92,ntmps92;go_upto_region 1 with (fail);rw[←r.o];go_wp2_with fail;refine n.o.mono ?_;rintro e u ⟨M,rfl,l,b⟩;obtain⟨s,c2,rfl⟩:=Bq l;have y:Hq (AA u a.heap.size (Y s q.length c2) q):=Ty.Bw l;obtain⟨A,B,x⟩:=H3 (Tag.of ((b.block _ (Aa f.o)).trans f.o)) (Tag.of ((b.block _ (Aa c.o)).trans c.o)) (i.o.trans (b.mono i.o.size));obtain⟨N,P,Q,R,S,V⟩:=Aj ((b.block _ (Aa f.o)).trans f.o);obtain⟨C,D,r2,r3,r4,r5⟩:=Aj ((b.block _ (Aa c.o)).trans c.o);have H:=Aa ((b.block _ (Aa c.o)).trans c.o);have K:w.heap.size<u.heap.size:=by omega
 clear l b n r E;go_wp2_with fail;refine a9 (v:=.agg #[Y s q.length c2,I J g,.bool h]) (by simp[bX,results92,go_sem,C,D,r2]) rfl ?_;have L:=z.o;refine⟨_,rfl,?_,?_⟩
 ·exact Ty.mono (Ty.set3 (Ty.Kp y.o A.o (by decide)) B.o.set (by decide) _ _ _) (by omega)
 ·exact(((x.o.setCell (p:=⟨w.heap.size,0,O⟩) (by show _≤w.heap.size;omega) _).setCell (p:=⟨w.heap.size+1,0,O⟩) (by show _≤w.heap.size+1;omega) _).setCell (p:=⟨w.heap.size+1,1,O⟩) (by show _≤w.heap.size+1;omega) _).setCell (p:=⟨w.heap.size+1,2,O⟩) (by show _≤w.heap.size+1;omega) _
def FM(k:CV)(x:Ee)(now:Int):Int×Int:=if Ff k x now=false then(0,2) else if x.has=false then(0,6) else(now-x.at_,0)
def LR(nm:ByteArray)(k:Int)(o:Bool)(s d r a:Int)(c:Bool)(vq:be)(q:List Int)(w:a2)(z:Af U w 0 vq q)(F:q.length≤100000)(now:Int)(ac:0≤a)(ad:a≤1073741824)(ae:0≤now)(af:now≤4294967296):
  aV prog 150 #[.agg #[.string nm,I U k,.bool o,I J s,I J d,I J r],.agg #[vq,I J a,.bool c],I J now] w fun e w'=>e=.returned (.tuple #[I J (FM ⟨k,o,s,d,r⟩ ⟨q,a,c⟩ now).1,I J (FM ⟨k,o,s,d,r⟩ ⟨q,a,c⟩ now).2])∧Bl w w':=by
 generalize A:Ff ⟨k,o,s,d,r⟩ ⟨q,a,c⟩ now=B;have u:Hq (∀ W,Bl w W→aV prog 91 #[.agg #[.string nm,I U k,.bool o,I J s,I J d,I J r],.agg #[vq,I J a,.bool c],I J now] W fun e w'=>e=.returned (.bool B)∧Bl W w'):=fun W V=>by
  have:=Kl nm k o s d r a c vq q W (z.below V) F now;rwa [A] at this
 have t:Hq (FM ⟨k,o,s,d,r⟩ ⟨q,a,c⟩ now=if B=false then(0,2) else if c=false then(0,6) else(now-a,0)):=by
  show FM ⟨k,o,s,d,r⟩ ⟨q,a,c⟩ now=_;unfold FM;rw[A]
 obtain⟨C,E,rfl,X,aa,ab⟩:=z.open_;clear X aa ab;obtain⟨m,p⟩:=ex ((w.alloc (T #[.string nm,I U k,.bool o,I J s,I J d,I J r] 62)).alloc (T #[Y C q.length E,I J a,.bool c] 114));have f:Hq (Bl w m):=by subst p;exact(((bH _ w).alloc (bn _) _).alloc (by simp) _)
 have j:Hq (m.heap[w.heap.size+1]? =Z (T #[Y C q.length E,I J a,.bool c] 114 (0,0))):=by
  subst p;exact HH (GF w _ _)
 have x:=Aa j.o;have i:Hq (m.heap[w.heap.size]? =Z (T #[.string nm,I U k,.bool o,I J s,I J d,I J r] 62 (0,0))):=by
  subst p;exact(aX _ _ _ (by simp)).trans (ba w _)
 have y:=Aa i.o;have l:=HH p;clear p;clear z A F;cases B with
 |false=>
  go_enter func150,ntmps150;go_upto_region 1 with (fail);rw[←l.o];clear l;obtain⟨H,K,L,M,N,P⟩:=Dn i.o;obtain⟨s0,Q,R⟩:=Dp j.o;go_wp2_with (go_at_call 91;refine(u.o m f.o).mono ?_;rintro e S ⟨rfl,b⟩;have n:=HH b;have h:=(b.block _ x).trans j.o;have g:=(b.block _ y).trans i.o;obtain⟨D,c1,c2⟩:=Dp h;obtain⟨d0,d1,d2,d3,d4,d5⟩:=Dn g;clear b h g);refine a9 (v:=.tuple #[I J 0,I J 2]) (by simp[bX,results150,go_sem]) rfl ?_;rw[t.o];exact⟨rfl,f.o.trans (n.o.mono f.o.size)⟩
 |true=>
  cases c with
  |false=>
   go_enter func150,ntmps150;go_upto_region 1 with (fail);rw[←l.o];clear l;obtain⟨H,K,L,M,N,P⟩:=Dn i.o;obtain⟨s0,Q,R⟩:=Dp j.o;go_wp2_with (go_at_call 91;refine(u.o m f.o).mono ?_;rintro e S ⟨rfl,b⟩;have n:=HH b;have h:=(b.block _ x).trans j.o;have g:=(b.block _ y).trans i.o;obtain⟨D,c1,c2⟩:=Dp h;obtain⟨d0,d1,d2,d3,d4,d5⟩:=Dn g;clear b h g);refine a9 (v:=.tuple #[I J 0,I J 6]) (by simp[bX,results150,go_sem]) rfl ?_;rw[t.o];exact⟨rfl,f.o.trans (n.o.mono f.o.size)⟩
  |true=>
   go_enter func150,ntmps150;go_upto_region 1 with (fail);rw[←l.o];clear l;obtain⟨H,K,L,M,N,P⟩:=Dn i.o;obtain⟨s0,Q,R⟩:=Dp j.o;go_wp2_with (go_at_call 91;refine(u.o m f.o).mono ?_;rintro e S ⟨rfl,b⟩;have n:=HH b;have h:=(b.block _ x).trans j.o;have g:=(b.block _ y).trans i.o;obtain⟨D,c1,c2⟩:=Dp h;obtain⟨d0,d1,d2,d3,d4,d5⟩:=Dn g;clear b h g);refine a9 (v:=.tuple #[I J (now-a),I J 0]) (by simp[bX,results150,go_sem]) rfl ?_;rw[t.o];exact⟨rfl,f.o.trans (n.o.mono f.o.size)⟩
def T5:EG 92:=fun _ _=>by kernel_rfl
def Ut(a:Option Addr)(n c:Nat)(x:Int)(b:Bool)(w:a2):(cT 114 (.agg #[Y a n c,I J x,.bool b]) 0).run prog w=.ok (Y a n c) w:=by
 simp[cT,asAgg,go_sem]
def Yr(nm:ByteArray)(k:Int)(o:Bool)(s d r a:Int)(b:Bool)(vq:be)(q:List Int)(w:a2)(X:Af U w 0 vq q)(x:q.length≤100000)(now:Int)(P:0≤a)(Q:a≤1073741824)(aa:0≤now)(ab:now≤4294967296):
  aV prog 117 #[.agg #[.string nm,I U k,.bool o,I J s,I J d,I J r],.agg #[vq,I J a,.bool b],I J now] w fun e w'=>∃ v,e=.returned (.tuple #[v,.bool (DN ⟨k,o,s,d,r⟩ ⟨q,a,b⟩ now).2.1,I J (DN ⟨k,o,s,d,r⟩ ⟨q,a,b⟩ now).2.2])∧AA w' w.heap.size v (DN ⟨k,o,s,d,r⟩ ⟨q,a,b⟩ now).1∧Bl w w':=by
 obtain⟨p,t,rfl,aD,aE,aG⟩:=X.open_;clear aD aE aG;obtain⟨z,E⟩:=ex ((w.alloc (T #[.string nm,I U k,.bool o,I J s,I J d,I J r] 62)).alloc (T #[Y p q.length t,I J a,.bool b] 114));have i:Hq (Bl w z):=by subst E;exact(((bH _ w).alloc (bn _) _).alloc (by simp) _)
 have n:Hq (z.heap[w.heap.size+1]? =Z (T #[Y p q.length t,I J a,.bool b] 114 (0,0))):=by
  subst E;exact HH (GF w _ _)
 have S:=Aa n.o;have m:Hq (z.heap[w.heap.size]? =Z (T #[.string nm,I U k,.bool o,I J s,I J d,I J r] 62 (0,0))):=by
  subst E;exact(aX _ _ _ (by simp)).trans (ba w _)
 have V:=Aa m.o;have y:=HH E;clear E;have D:=HH X;clear X;by_cases ac:DN ⟨k,o,s,d,r⟩ ⟨q,a,b⟩ now=([],false,2)∧Ff ⟨k,o,s,d,r⟩ ⟨q,a,b⟩ now=false
 ·obtain⟨av,j⟩:=ac;have A:=HH av;have C:Hq (∀ W,Bl w W→aV prog 150 #[.agg #[.string nm,I U k,.bool o,I J s,I J d,I J r],.agg #[Y p q.length t,I J a,.bool b],I J now] W fun e w'=>e=.returned (.tuple #[I J 0,I J 2])∧Bl W w'):=fun W c=>by
   have:=LR nm k o s d r a b _ q W (D.o.below c) x now P Q aa ab;have F:FM ⟨k,o,s,d,r⟩ ⟨q,a,b⟩ now=(0,2):=by unfold FM;rw[j];rfl
   rw[F] at this;exact this
  clear av j x;go_enter func117,ntmps117;go_upto_region 1 with (fail);rw[←y.o];clear y;obtain⟨p0,p1,p2,p3,p4,p5⟩:=Dn m.o;obtain⟨s0,s1,s2⟩:=Dp n.o;go_wp2_with (go_at_call 150;refine(C.o z i.o).mono ?_;rintro e H ⟨rfl,g⟩;have B:=HH g;have M:=HH ((g.block _ S).trans n.o);have L:=HH ((g.block _ V).trans m.o);clear g);refine a9 (v:=.tuple #[Y O 0 0,.bool false,I J 2]) (by simp[bX,results117,go_sem]) rfl ?_;rw[A.o];exact⟨_,rfl,Ty.nil _ _ _ _,i.o.trans (B.o.mono i.o.size)⟩
 have j:Ff ⟨k,o,s,d,r⟩ ⟨q,a,b⟩ now=true:=by
  cases h:Ff ⟨k,o,s,d,r⟩ ⟨q,a,b⟩ now with
  |true=>rfl
  |false=>exact absurd ⟨by unfold DN;rw[h];rfl,h⟩ ac
 clear ac;cases b with
 |false=>
  have A:Hq (DN ⟨k,o,s,d,r⟩ ⟨q,a,false⟩ now=([],false,6)):=by show DN ⟨k,o,s,d,r⟩ ⟨q,a,false⟩ now=_;unfold DN;rw[j];rfl
  have C:Hq (∀ W,Bl w W→aV prog 150 #[.agg #[.string nm,I U k,.bool o,I J s,I J d,I J r],.agg #[Y p q.length t,I J a,.bool false],I J now] W fun e w'=>e=.returned (.tuple #[I J 0,I J 6])∧Bl W w'):=fun W c=>by
   have:=LR nm k o s d r a false _ q W (D.o.below c) x now P Q aa ab;have F:FM ⟨k,o,s,d,r⟩ ⟨q,a,false⟩ now=(0,6):=by unfold FM;rw[j];rfl
   rw[F] at this;exact this
  clear j x;go_enter func117,ntmps117;go_upto_region 1 with (fail);rw[←y.o];clear y;obtain⟨p0,p1,p2,p3,p4,p5⟩:=Dn m.o;obtain⟨s0,s1,s2⟩:=Dp n.o;go_wp2_with (go_at_call 150;refine(C.o z i.o).mono ?_;rintro e H ⟨rfl,g⟩;have B:=HH g;have M:=HH ((g.block _ S).trans n.o);have L:=HH ((g.block _ V).trans m.o);clear g);refine a9 (v:=.tuple #[Y O 0 0,.bool false,I J 6]) (by simp[bX,results117,go_sem]) rfl ?_;rw[A.o];exact⟨_,rfl,Ty.nil _ _ _ _,i.o.trans (B.o.mono i.o.size)⟩
 |true=>
  have A:Hq (DN ⟨k,o,s,d,r⟩ ⟨q,a,true⟩ now=(q,decide (now-a≤r),0)):=by show DN ⟨k,o,s,d,r⟩ ⟨q,a,true⟩ now=_;unfold DN;rw[j];rfl
  have az:Hq (∀ W,Bl w W→aV prog 92 #[.agg #[Y p q.length t,I J a,.bool true]] W (LI W ⟨q,a,true⟩)):=fun W c=>PE a true _ q W (D.o.below c) x;have C:Hq (∀ W,Bl w W→aV prog 150 #[.agg #[.string nm,I U k,.bool o,I J s,I J d,I J r],.agg #[Y p q.length t,I J a,.bool true],I J now] W fun e w'=>e=.returned (.tuple #[I J (now-a),I J 0])∧Bl W w'):=fun W c=>by
   have:=LR nm k o s d r a true _ q W (D.o.below c) x now P Q aa ab;have F:FM ⟨k,o,s,d,r⟩ ⟨q,a,true⟩ now=((now-a),0):=by unfold FM;rw[j];rfl
   rw[F] at this;exact this
  clear j x D;go_enter func117,ntmps117;go_upto_region 1 with (fail);rw[←y.o];clear y;obtain⟨p0,p1,p2,p3,p4,p5⟩:=Dn m.o;obtain⟨s0,s1,s2⟩:=Dp n.o;go_wp2_with (go_at_call 150;refine(C.o z i.o).mono ?_;rintro e H ⟨rfl,g⟩;have B:=HH g;have M:=HH ((g.block _ S).trans n.o);have L:=HH ((g.block _ V).trans m.o);clear g);have R:=Aa M.o;have aF:=Aa L.o;obtain⟨c0,c1,c2⟩:=Dp M.o;obtain⟨d0,d1,d2,d3,d4,d5⟩:=Dn L.o;have q0:=qC c0 R;have q1:=qC c1 R;have q2:=qC c2 R;have q5:=qC d5 aF;have N:Hq (Bl w H):=i.o.trans (B.o.mono i.o.size);have ad:w.heap.size≤H.heap.size:=N.o.size;clear c0 c1 c2 d0 d1 d2 d3 d4 d5 p0 p1 p2 p3 p4 p5 s0 s1 s2;refine BQ 10 [(1,fun v w'=>∃ l c2,v=.agg #[Y l q.length c2,I J a,.bool true]∧AA w' w.heap.size (Y l q.length c2) q)] ⟨(fun v w1 H ⟨l,c2,e,h⟩ c=>⟨l,c2,e,Ty.below h c⟩),trivial⟩ ?_
  iterate 1 (refine AK rfl ?_;intro K hK;go_big_quiet_op;go_big_quiet_on)
  refine Ca rfl (fun w' c hA=>?_) ?_
  ·refine AD (f:=92) (al:=[.agg #[Y p q.length t,I J a,.bool true]]) rfl rfl rfl T5 ?_;exact(az.o w' (N.o.trans (c.mono ad))).mono fun e w3 h=>by
    obtain⟨u,he,hf,aA⟩:=h;obtain⟨l,c2,rfl,_⟩:=Ty.shape hf;exact⟨_,he,aA,_,_,rfl,Ty.mono hf (bb ad c.size)⟩
  intro v w' c hv;obtain⟨l,c2,rfl,aC⟩:=hv;clear c aC w';have aL:=Ut l q.length c2 a true;simp only[Au,aj,ao,an]
  iterate 8 (refine AK rfl ?_;intro K hK;go_big_quiet_op;go_big_quiet_on)
  refine BN ?_;intro w9 ap aw;simp only[bc,bB,bJ];have aH:=aw 1 _ (by decide) rfl;obtain⟨a3,c3,e3,au⟩:=aH;simp only[cb,bU,bF,bk,true_and,and_true] at e3;obtain⟨rfl,rfl⟩:=e3;obtain⟨ay,ax⟩:=H2 au (N.o.trans (ap.mono ad));clear au ap aw;go_wp2_with fail;refine a9 (v:=.tuple #[Y l q.length c2,.bool (decide (now-a≤r)),I J 0]) (by simp[bX,results117,go_sem]) rfl ?_;rw[A.o];exact⟨_,rfl,ay.o,ax.o⟩
def QR(nm:ByteArray)(k:Int)(o:Bool)(s d r a:Int)(b:Bool)(vq:be)(q:List Int)(w:a2)(hq:Af U w 0 vq q)(F:q.length≤100000)(now:Int)(vm:be)(m:List Int)(hm:Af U w 0 vm m)(ai:m.length≤100000):
  aV prog 48 #[.agg #[.string nm,I U k,.bool o,I J s,I J d,I J r],.agg #[vq,I J a,.bool b],I J now,vm] w fun e w'=>∃ v,e=.returned (.tuple #[.agg #[v,I J (writeSa ⟨k,o,s,d,r⟩ ⟨q,a,b⟩ now m).1.at_,.bool (writeSa ⟨k,o,s,d,r⟩ ⟨q,a,b⟩ now m).1.has],I J (writeSa ⟨k,o,s,d,r⟩ ⟨q,a,b⟩ now m).2])∧AA w' w.heap.size v (writeSa ⟨k,o,s,d,r⟩ ⟨q,a,b⟩ now m).1.data∧Bl w w':=by
 obtain⟨L,M,rfl,ap,ar,av⟩:=hq.open_;clear ap ar av;obtain⟨am,cm,rfl,ap,ar,av⟩:=hm.open_;clear ap ar av;obtain⟨K,aa⟩:=ex (((w.alloc (T #[.string nm,I U k,.bool o,I J s,I J d,I J r] 62)).alloc (T #[Y L q.length M,I J a,.bool b] 114)).alloc (T #[Y O 0 0,I J 0,.bool false] 114));have l:Hq (Bl w K):=by subst aa;exact(((bH _ w).alloc (bn _) _).alloc (by simp) _).alloc (by simp;omega) _
 have E:Hq (K.heap[w.heap.size+1]? =Z (T #[Y L q.length M,I J a,.bool b] 114 (0,0))):=by
  subst aa;exact(aX _ _ _ (by simp)).trans (GF w _ _)
 have af:=Aa E.o;have C:Hq (K.heap[w.heap.size]? =Z (T #[.string nm,I U k,.bool o,I J s,I J d,I J r] 62 (0,0))):=by
  subst aa;exact(aX _ _ _ (by simp;omega)).trans ((aX _ _ _ (by simp)).trans (ba w _))
 have ag:=Aa C.o;have HR:Hq (K.heap[w.heap.size+1+1]? =Z (T #[Y O 0 0,I J 0,.bool false] 114 (0,0))):=by
  subst aa;have h2:=GF (w.alloc (T #[.string nm,I U k,.bool o,I J s,I J d,I J r] 62)) (T #[Y L q.length M,I J a,.bool b] 114) (T #[Y O 0 0,I J 0,.bool false] 114);have hz:(w.alloc (T #[.string nm,I U k,.bool o,I J s,I J d,I J r] 62)).heap.size=w.heap.size+1:=by simp
  rw[hz] at h2;exact HH h2
 have ah:=Aa HR.o;obtain⟨H,D,HM⟩:=H3 aa hq hm;have ak:Hq (∀ W,Bl w W→aV prog 92 #[.agg #[Y L q.length M,I J a,.bool b]] W (LI W ⟨q,a,b⟩)):=fun W z=>PE a b _ q W (D.o.below z) F;have aI:Hq (∀ W,Bl w W→aV prog 27 #[Y am m.length cm] W (LB W m)):=fun W z=>Gj _ m W (HM.o.below z) (by omega);clear aa hq hm;cases t:Ff ⟨k,o,s,d,r⟩ ⟨q,a,b⟩ now with
 |false=>
  have Q:Hq (∀ W,Bl w W→aV prog 91 #[.agg #[.string nm,I U k,.bool o,I J s,I J d,I J r],.agg #[Y L q.length M,I J a,.bool b],I J now] W fun e w'=>e=.returned (.bool false)∧Bl W w'):=fun W z=>by
   have:=Kl nm k o s d r a b _ q W (D.o.below z) F now;rwa [t] at this
  have N:Hq (writeSa ⟨k,o,s,d,r⟩ ⟨q,a,b⟩ now m=(⟨q,a,b⟩,2)):=by
   show writeSa ⟨k,o,s,d,r⟩ ⟨q,a,b⟩ now m=_;unfold writeSa;rw[t];rfl
  clear t F D HM ai;go_enter func48,ntmps48;go_upto_region 1 with (fail);rw[←H.o];clear H;obtain⟨p0,p1,p2,p3,p4,p5⟩:=Dn C.o;obtain⟨s0,s1,s2⟩:=Dp E.o;go_wp2_with (first|(go_at_call 91;refine(Q.o K l.o).mono ?_;rintro e u ⟨rfl,c⟩;have f:Hq (Bl w u):=l.o.trans (c.mono l.o.size);have B:=(c.block _ af).trans E.o;have A:=(c.block _ ag).trans C.o;have y:=HH ((c.block _ ah).trans HR.o);obtain⟨c0,c1,c2⟩:=Dp B;obtain⟨d0,d1,d2,d3,d4,d5⟩:=Dn A;clear c B A)|(go_at_call 92;refine(ak.o u f.o).mono ?_;rintro e x ⟨v3,rfl,j,g⟩;obtain⟨n,c3,rfl⟩:=Ty.shape j;have P:Hq (Bl w x):=f.o.trans (g.mono f.o.size);have i:=(g.block _ (Aa y.o)).trans y.o;have S:=HH (Tag.of i);obtain⟨V,X,r2,r3,r4,r5⟩:=Aj i;have R:Hq (AA x w.heap.size (Y n q.length c3) q):=Ty.mono j f.o.size;clear g i j));refine a9 (v:=.tuple #[.agg #[Y n q.length c3,I J a,.bool b],I J 2]) (by simp[bX,results48,go_sem,V,X,r2]) rfl ?_;rw[N.o];refine⟨_,rfl,Ty.set3 R.o S.o (by decide) _ _ _,?_⟩;exact((P.o.setCell (p:=⟨w.heap.size+1+1,0,O⟩) (by show _≤w.heap.size+1+1;omega) _).setCell (p:=⟨w.heap.size+1+1,1,O⟩) (by show _≤w.heap.size+1+1;omega) _).setCell (p:=⟨w.heap.size+1+1,2,O⟩) (by show _≤w.heap.size+1+1;omega) _
 |true=>
  by_cases ab:m=[]
  ·have g0:((m.length:Int)==0)=true:=by simp[ab]
   have M0:=HH ab;clear ab;have Q:Hq (∀ W,Bl w W→aV prog 91 #[.agg #[.string nm,I U k,.bool o,I J s,I J d,I J r],.agg #[Y L q.length M,I J a,.bool b],I J now] W fun e w'=>e=.returned (.bool true)∧Bl W w'):=fun W z=>by
    have:=Kl nm k o s d r a b _ q W (D.o.below z) F now;rwa [t] at this
   have N:Hq (writeSa ⟨k,o,s,d,r⟩ ⟨q,a,b⟩ now m=(⟨q,a,b⟩,2)):=by
    show writeSa ⟨k,o,s,d,r⟩ ⟨q,a,b⟩ now m=_;unfold writeSa;rw[t];rw[if_pos (Or.inr M0.o)]
   clear t F D HM ai;go_enter func48,ntmps48;go_upto_region 1 with (fail);rw[←H.o];clear H;obtain⟨p0,p1,p2,p3,p4,p5⟩:=Dn C.o;obtain⟨s0,s1,s2⟩:=Dp E.o;go_wp2_with (first|(go_at_call 91;refine(Q.o K l.o).mono ?_;rintro e u ⟨rfl,c⟩;have f:Hq (Bl w u):=l.o.trans (c.mono l.o.size);have B:=(c.block _ af).trans E.o;have A:=(c.block _ ag).trans C.o;have y:=HH ((c.block _ ah).trans HR.o);obtain⟨c0,c1,c2⟩:=Dp B;obtain⟨d0,d1,d2,d3,d4,d5⟩:=Dn A;clear c B A)|(go_at_call 92;refine(ak.o u f.o).mono ?_;rintro e x ⟨v3,rfl,j,g⟩;obtain⟨n,c3,rfl⟩:=Ty.shape j;have P:Hq (Bl w x):=f.o.trans (g.mono f.o.size);have i:=(g.block _ (Aa y.o)).trans y.o;have S:=HH (Tag.of i);obtain⟨V,X,r2,r3,r4,r5⟩:=Aj i;have R:Hq (AA x w.heap.size (Y n q.length c3) q):=Ty.mono j f.o.size;clear g i j));refine a9 (v:=.tuple #[.agg #[Y n q.length c3,I J a,.bool b],I J 2]) (by simp[bX,results48,go_sem,V,X,r2]) rfl ?_;rw[N.o];refine⟨_,rfl,Ty.set3 R.o S.o (by decide) _ _ _,?_⟩;exact((P.o.setCell (p:=⟨w.heap.size+1+1,0,O⟩) (by show _≤w.heap.size+1+1;omega) _).setCell (p:=⟨w.heap.size+1+1,1,O⟩) (by show _≤w.heap.size+1+1;omega) _).setCell (p:=⟨w.heap.size+1+1,2,O⟩) (by show _≤w.heap.size+1+1;omega) _
  ·have g0:((m.length:Int)==0)=false:=by
    have:m.length≠0:=fun h=>ab (List.eq_nil_of_length_eq_zero h);simp[this]
   have M0:Hq (¬(true=false∨m=[])):=HH (by simp[ab]);clear ab;by_cases hs:s<(m.length:Int)
   ·have gs:=decide_eq_true hs;have S0:=HH hs;have Q:Hq (∀ W,Bl w W→aV prog 91 #[.agg #[.string nm,I U k,.bool o,I J s,I J d,I J r],.agg #[Y L q.length M,I J a,.bool b],I J now] W fun e w'=>e=.returned (.bool true)∧Bl W w'):=fun W z=>by
     have:=Kl nm k o s d r a b _ q W (D.o.below z) F now;rwa [t] at this
    have N:Hq (writeSa ⟨k,o,s,d,r⟩ ⟨q,a,b⟩ now m=(⟨q,a,b⟩,3)):=by
     show writeSa ⟨k,o,s,d,r⟩ ⟨q,a,b⟩ now m=_;unfold writeSa;rw[t];rw[if_neg M0.o,if_pos S0.o]
    clear t F D HM ai;go_enter func48,ntmps48;go_upto_region 1 with (fail);rw[←H.o];clear H;obtain⟨p0,p1,p2,p3,p4,p5⟩:=Dn C.o;obtain⟨s0,s1,s2⟩:=Dp E.o;go_wp2_with (first|(go_at_call 91;refine(Q.o K l.o).mono ?_;rintro e u ⟨rfl,c⟩;have f:Hq (Bl w u):=l.o.trans (c.mono l.o.size);have B:=(c.block _ af).trans E.o;have A:=(c.block _ ag).trans C.o;have y:=HH ((c.block _ ah).trans HR.o);obtain⟨c0,c1,c2⟩:=Dp B;obtain⟨d0,d1,d2,d3,d4,d5⟩:=Dn A;clear c B A)|(go_at_call 92;refine(ak.o u f.o).mono ?_;rintro e x ⟨v3,rfl,j,g⟩;obtain⟨n,c3,rfl⟩:=Ty.shape j;have P:Hq (Bl w x):=f.o.trans (g.mono f.o.size);have i:=(g.block _ (Aa y.o)).trans y.o;have S:=HH (Tag.of i);obtain⟨V,X,r2,r3,r4,r5⟩:=Aj i;have R:Hq (AA x w.heap.size (Y n q.length c3) q):=Ty.mono j f.o.size;clear g i j));refine a9 (v:=.tuple #[.agg #[Y n q.length c3,I J a,.bool b],I J 3]) (by simp[bX,results48,go_sem,V,X,r2]) rfl ?_;rw[N.o];refine⟨_,rfl,Ty.set3 R.o S.o (by decide) _ _ _,?_⟩;exact((P.o.setCell (p:=⟨w.heap.size+1+1,0,O⟩) (by show _≤w.heap.size+1+1;omega) _).setCell (p:=⟨w.heap.size+1+1,1,O⟩) (by show _≤w.heap.size+1+1;omega) _).setCell (p:=⟨w.heap.size+1+1,2,O⟩) (by show _≤w.heap.size+1+1;omega) _
   ·have gs:=decide_eq_false hs;have S0:=HH hs;have Q:Hq (∀ W,Bl w W→aV prog 91 #[.agg #[.string nm,I U k,.bool o,I J s,I J d,I J r],.agg #[Y L q.length M,I J a,.bool b],I J now] W fun e w'=>e=.returned (.bool true)∧Bl W w'):=fun W z=>by
     have:=Kl nm k o s d r a b _ q W (D.o.below z) F now;rwa [t] at this
    have N:Hq (writeSa ⟨k,o,s,d,r⟩ ⟨q,a,b⟩ now m=(⟨m,now,true⟩,0)):=by
     show writeSa ⟨k,o,s,d,r⟩ ⟨q,a,b⟩ now m=_;unfold writeSa;rw[t];rw[if_neg M0.o,if_neg S0.o]
    clear t F D HM ai;go_enter func48,ntmps48;go_upto_region 1 with (fail);rw[←H.o];clear H;obtain⟨p0,p1,p2,p3,p4,p5⟩:=Dn C.o;obtain⟨s0,s1,s2⟩:=Dp E.o;go_wp2_with (first|(go_at_call 91;refine(Q.o K l.o).mono ?_;rintro e u ⟨rfl,c⟩;have f:Hq (Bl w u):=l.o.trans (c.mono l.o.size);have B:=(c.block _ af).trans E.o;have A:=(c.block _ ag).trans C.o;have y:=HH ((c.block _ ah).trans HR.o);obtain⟨c0,c1,c2⟩:=Dp B;obtain⟨d0,d1,d2,d3,d4,d5⟩:=Dn A;clear c B A)|(go_at_call 27;refine(aI.o u f.o).mono ?_;rintro e x ⟨v3,rfl,au,g⟩;obtain⟨n,c3,rfl⟩:=Bq au;have j:AA x u.heap.size (Y n m.length c3) m:=Ty.Bw au;clear au;have P:Hq (Bl w x):=f.o.trans (g.mono f.o.size);have i:=(g.block _ (Aa y.o)).trans y.o;have S:=HH (Tag.of i);obtain⟨V,X,r2,r3,r4,r5⟩:=Aj i;have R:Hq (AA x w.heap.size (Y n m.length c3) m):=Ty.mono j f.o.size;clear g i j));refine a9 (v:=.tuple #[.agg #[Y n m.length c3,I J now,.bool true],I J 0]) (by simp[bX,results48,go_sem,V,X,r2]) rfl ?_;rw[N.o];refine⟨_,rfl,Ty.set3 R.o S.o (by decide) _ _ _,?_⟩;exact((P.o.setCell (p:=⟨w.heap.size+1+1,0,O⟩) (by show _≤w.heap.size+1+1;omega) _).setCell (p:=⟨w.heap.size+1+1,1,O⟩) (by show _≤w.heap.size+1+1;omega) _).setCell (p:=⟨w.heap.size+1+1,2,O⟩) (by show _≤w.heap.size+1+1;omega) _
def O1:EG 48:=fun _ _=>by kernel_rfl
def O0:EG 49:=fun _ _=>by kernel_rfl
def Wh(B:Nat)(w:a2)(D:Nat→Prop)(g:Nat)(d:Ad)(j:Hd)(s:Ae)(kind:Int)(k:Nat)(b:Int)(data:List Int)(jb:Nat)(vd:be)(i:Nat)(now:Int)(bC:Gl B w)(hM:∀ q∈Mut g j,B≤q)(h:PA w D g d j s)(ok:Ah d s)(hj:JB w jb g kind k b vd i now)(bK:jb∉Mut g j)(hD:∀ q,w.heap.size≤q→D q)(cB:0≤now)(cC:now≤4294967296)(hk:k<d.Ab.length)(b6:k<s.samples.length)(b7:k<s.queues.length)(bI:A4 w (NM g j) vd data)(cz:data.length≤64)(cy:Bf data):
  aV prog 77 #[G (Z ⟨jb,0,O⟩)] w fun e w'=>e=.returned (.bool true)∧PA w' D g d j (EJ d now (⟨kind,k,b,data⟩:Ac) s)∧Upd (Mut g j) w w':=by
 obtain⟨j0,j1,j2,j3,j4,j5,j6⟩:=hj.cells;have t:jb<w.heap.size:=Aa hj;have aM:=qC j0 t;have aN:=qC j2 t;have ar:0<d.Ab.length:=by omega
 have bO:=h.Q2 ar;have ab:=h.lt;have ch:=qC bO ab;have b1:=h.AB.cap;have ap:=h.AB.lt;obtain⟨nm,hc⟩:=h.AB.el k hk;obtain⟨y0,y1,y2,y3,y4,y5⟩:=Od hc;have aO:=qC y0 ap;have aP:=qC y1 ap;have aQ:=qC y2 ap;have ck:=qC y3 ap;have cl:=qC y4 ap;have cm:=qC y5 ap;have cA:(k:Int)<(d.Ab.length:Int):=by omega
 obtain⟨H,HJ,aZ,HG,HM,cs,aY,OK⟩:=H8 h hj hD bC hM bK bI ok;clear h hj hD ok hc bC hM bK bI j0 j1 j2 j3 j4 j5 j6 bO y0 y1 y2 y3 y4 y5;go_enter func77,ntmps77;go_upto_region 1 with (fail);refine AS 17 [16] [] [(15,Bh w.heap.size #[.string ⟨#[]⟩,I U 0,.bool false,I J 0,I J 0,I J 0] 62)] ⟨Bh.AX,trivial⟩ ?_
 iterate 15 (refine An rfl rfl rfl ?_;intro K hK;go_big_quiet_op;go_big_quiet_on)
 refine A9 rfl rfl (fun w' c hA=>?_) ?_
 ·exact EY (T #[.string ⟨#[]⟩,I U 0,.bool false,I J 0,I J 0,I J 0] 62) (by simp[cG,go_sem]) ⟨w'.heap.size,c.size,rfl,ba _ _⟩
 intro v w' c hv;obtain⟨q,hq,rfl,aC⟩:=hv;clear c hq aC w';simp only[Au,aj,ao,an];refine AH rfl ?_;refine AR ?_;intro n N ae;obtain⟨ca,aC⟩:=Bh.at_ (ae 15 _ (by decide) rfl);obtain⟨z0,z1,z2,z3,z4,z5⟩:=r6 aC;obtain⟨f0,f1,f2,f3,f4,f5⟩:=f6 aC;obtain⟨a,bg⟩:=ex ((((((n.setCell ⟨q,0,O⟩ (.string nm)).setCell ⟨q,1,O⟩ (I U d.Ab[k].kind)).setCell ⟨q,2,O⟩ (.bool d.Ab[k].o)).setCell ⟨q,3,O⟩ (I J d.Ab[k].size)).setCell ⟨q,4,O⟩ (I J d.Ab[k].depth)).setCell ⟨q,5,O⟩ (I J d.Ab[k].At));refine AI (w':=a) (by rw[bg];simp[cG,go_sem,z0,f0,z1,f1,z2,f2,z3,f3,z4,f4,z5,f5]) ?_;unfold A7;have bf:a=setsAt n q 0 [(0,.string nm),(1,I U d.Ab[k].kind),(2,.bool d.Ab[k].o),(3,I J d.Ab[k].size),(4,I J d.Ab[k].depth),(5,I J d.Ab[k].At)]:=bg;have C:Hq (Bl w a):=by rw[bf];exact DH ca N _
 have br:a.heap[q]? =Z (T #[.string nm,I U d.Ab[k].kind,.bool d.Ab[k].o,I J d.Ab[k].size,I J d.Ab[k].depth,I J d.Ab[k].At] 62 (0,0)):=by
  rw[bf];have hh:=Di [(0,.string nm),(1,I U d.Ab[k].kind),(2,.bool d.Ab[k].o),(3,I J d.Ab[k].size),(4,I J d.Ab[k].depth),(5,I J d.Ab[k].At)] aC;simp only[Er,aj,ao,an] at hh;exact hh
 clear bg bf N ae aC z0 f0 z1 f1 z2 f2 z3 f3 z4 f4 z5 f5 ch b1 ap ab t aO aP aQ ck cl cm aM aN;obtain⟨bE,y⟩:=H2 (show q<a.heap.size from Aa br) br;clear br;obtain⟨ad,cd,rfl,_,_,_⟩:=aY.o.1.open_;have bL:a.cell? ⟨q,1,O⟩=Z (I U d.Ab[k].kind):=by rw[Cr y.o];rfl
 by_cases ac:d.Ab[k].kind=1
 ·have bh:(d.Ab[k].kind==1)=true:=by simp[ac]
  have F:=b6;replace ar:0<s.samples.length:=by omega
  have b8:(k:Int)<(s.samples.length:Int):=by omega
  have p:=H.o.below C.o;have V:=HJ.o.below C.o;obtain⟨j0,j1,j2,j3,j4,j5,j6⟩:=V.cells;have t:jb<a.heap.size:=Aa V;have aM:=qC j0 t;have aN:=qC j2 t;have bs:=qC j4 t;have cg:=qC j6 t;have bQ:=p.Ic ar;have ab:=p.lt;have cj:=qC bQ ab;have b3:=p.sa.cap;have aS:=p.sa.lt;obtain⟨v,hc,hr⟩:=p.sa.el k F;obtain⟨av,cv,rfl,_,_,_⟩:=hr.1.open_;obtain⟨y0,y1,y2⟩:=EO hc;have aO:=qC y0 aS;have aP:=qC y1 aS;have aQ:=qC y2 aS;have r:q<a.heap.size:=bE.o;have bt:=qC (show a.cell? ⟨q,0,O⟩=_ from Cr y.o) r;have bu:=qC (show a.cell? ⟨q,1,O⟩=_ from Cr y.o) r;have bw:=qC (show a.cell? ⟨q,2,O⟩=_ from Cr y.o) r;have bx:=qC (show a.cell? ⟨q,3,O⟩=_ from Cr y.o) r;have bz:=qC (show a.cell? ⟨q,4,O⟩=_ from Cr y.o) r;have bA:=qC (show a.cell? ⟨q,5,O⟩=_ from Cr y.o) r;obtain⟨l,M,hw⟩:∃ l M,writeSa d.Ab[k] s.samples[k] now data=(l,M):=⟨_,_,rfl⟩;have HC:Hq (∀ W,Bl a W→aV prog 48 #[.agg #[.string nm,I U d.Ab[k].kind,.bool d.Ab[k].o,I J d.Ab[k].size,I J d.Ab[k].depth,I J d.Ab[k].At],.agg #[.slice av s.samples[k].data.length cv,I J s.samples[k].at_,.bool s.samples[k].has],I J now,Y ad data.length cd] W fun e w'=>∃ v,e=.returned (.tuple #[.agg #[v,I J l.at_,.bool l.has],I J M])∧AA w' W.heap.size v l.data∧Bl W w'):=fun W c=>by
   have:=QR nm d.Ab[k].kind d.Ab[k].o d.Ab[k].size d.Ab[k].depth d.Ab[k].At s.samples[k].at_ s.samples[k].has (.slice av s.samples[k].data.length cv) s.samples[k].data W (hr.1.below c) (by have:=(OK.o.sa _ (cu F)).len;omega) now (Y ad data.length cd) data ((aY.o.1.below C.o).below c) (by omega);have e:writeSa (⟨d.Ab[k].kind,d.Ab[k].o,d.Ab[k].size,d.Ab[k].depth,d.Ab[k].At⟩:CV) (⟨s.samples[k].data,s.samples[k].at_,s.samples[k].has⟩:Ee) now data=(l,M):=hw;rw[e] at this;exact this
  have HE:Hq (EJ d now (⟨kind,k,b,data⟩:Ac) s={s with samples:=s.samples.set k l}):=by
   show EJ d now (⟨kind,k,b,data⟩:Ac) s=_;simp only[EJ,portA,cf,getD_at _ _ hk,getD_at _ _ F,ac,if_pos,hw]
  clear hw hr;obtain⟨H1,bZ⟩:=H2 p V;clear p V hc j0 j1 j2 j3 j4 j5 j6 bQ y0 y1 y2;have b0:=HH ac;clear ac;go_upto_region 3 with (fail);clear bL bh;refine AS 44 [43] [41] [(38,(fun v w'=>∃ m c2,v=.tuple #[.agg #[Y m l.data.length c2,I J l.at_,.bool l.has],I J M]∧AA w' a.heap.size (Y m l.data.length c2) l.data))] ⟨(fun v w1 w2 ⟨m,c2,e,h⟩ c=>⟨m,c2,e,Ty.below h c⟩),trivial⟩ ?_
  iterate 38 (refine An rfl rfl rfl ?_;intro K hK;go_big_quiet_op;go_big_quiet_on)
  refine A9 rfl rfl (fun w' c hA=>?_) ?_
  ·refine AD (f:=48) (al:=[.agg #[.string nm,I U d.Ab[k].kind,.bool d.Ab[k].o,I J d.Ab[k].size,I J d.Ab[k].depth,I J d.Ab[k].At],.agg #[.slice av s.samples[k].data.length cv,I J s.samples[k].at_,.bool s.samples[k].has],I J now,Y ad data.length cd]) rfl rfl rfl O1 ?_;exact(HC.o w' c).mono fun e w2 h=>by
    obtain⟨u,he,hf,bi⟩:=h;obtain⟨m,c2,hu⟩:=Ty.shape hf;subst hu;exact⟨_,he,bi,_,_,rfl,Ty.mono hf c.size⟩
  intro v w' c hv;obtain⟨m,c2,rfl,bl⟩:=hv;clear c bl w';simp only[Au,aj,ao,an]
  iterate 2 (refine An rfl rfl rfl ?_;intro K hK;go_big_quiet_op;go_big_quiet_on)
  iterate 1 (refine Bi rfl rfl rfl ?_;intro K hK;go_big_quiet_op;go_big_quiet_on)
  iterate 1 (refine An rfl rfl rfl ?_;intro K hK;go_big_quiet_op;go_big_quiet_on)
  refine AH rfl ?_;refine AR ?_;intro n N ae;have bq:=ae 38 _ (by decide) rfl;obtain⟨L,c3,Q,aG⟩:=bq;injection Q with Q;simp only[bU,bF,cb,bk,true_and,and_true] at Q;obtain⟨rfl,rfl⟩:=Q;have a0:Hq (A4 n D (Y m l.data.length c2) l.data):=Af.CZ (Ty.sl aG) fun q hq _=>aZ.o q (bb C.o.size hq);clear aG;have R:=H1.o.below N;have P:∀ o,n.frozen? ⟨j.sa.b,o,O⟩=false:=R.sa.frozen ar;obtain⟨v9,E,_⟩:=R.sa.el k F;have z0:n.cell? ⟨j.sa.b,k*3,O⟩=Z _:=E 0 _ rfl;have f0:=P (k*3);have z1:n.cell? ⟨j.sa.b,k*3+1,O⟩=Z _:=E 1 _ rfl;have f1:=P (k*3+1);have z2:n.cell? ⟨j.sa.b,k*3+2,O⟩=Z _:=E 2 _ rfl;have f2:=P (k*3+2);have au:=R.Lt F [(0,Y m l.data.length c2),(1,I J l.at_),(2,.bool l.has)] rfl E (x:=l) fun w' bj aU=>⟨_,bj,a0.o.Ag aU⟩;obtain⟨W2,S⟩:=ex (((n.setCell ⟨j.sa.b,k*3,O⟩ (Y m l.data.length c2)).setCell ⟨j.sa.b,k*3+1,O⟩ (I J l.at_)).setCell ⟨j.sa.b,k*3+2,O⟩ (.bool l.has));refine AI (w':=W2) (by rw[S];simp[cG,go_sem,z0,f0,z1,f1,z2,f2]) ?_;unfold A7;have a6:Hq (PA W2 D g d j {s with samples:=s.samples.set k l}):=by rw[S];exact au.1
  have a7:Hq (Upd (Mut g j) a W2):=by rw[S];exact(Upd.below N).trans au.2
  clear S au E P R N ae z0 f0 z1 f1 z2 f2 cj b3 aS ab t aO aP aQ aM aN bs cg r bt bu bw bx bz bA;go_wp2_with fail;go_ret;rw[HE.o];exact⟨rfl,a6.o,(Upd.below C.o).trans a7.o⟩
 ·have bh:(d.Ab[k].kind==1)=false:=by simp[ac]
  have F:=b7;replace ar:0<s.queues.length:=by omega
  have b8:(k:Int)<(s.queues.length:Int):=by omega
  have p:=H.o.below C.o;have V:=HJ.o.below C.o;obtain⟨j0,j1,j2,j3,j4,j5,j6⟩:=V.cells;have t:jb<a.heap.size:=Aa V;have aM:=qC j0 t;have aN:=qC j2 t;have bs:=qC j4 t;have bP:=p.Ib ar;have ab:=p.lt;have ci:=qC bP ab;have b2:=p.qu.cap;have aR:=p.qu.lt;obtain⟨v,u,hc,bo,bp⟩:=p.qu.el k F;obtain⟨aq,cq,rfl⟩:=bo.rd.C2;obtain⟨aw,cw,rfl,_,_,_⟩:=bp.1.open_;obtain⟨y0,y1,y2⟩:=EO hc;have aO:=qC y0 aR;have aP:=qC y1 aR;have aQ:=qC y2 aR;have r:q<a.heap.size:=bE.o;have bt:=qC (show a.cell? ⟨q,0,O⟩=_ from Cr y.o) r;have bu:=qC (show a.cell? ⟨q,1,O⟩=_ from Cr y.o) r;have bw:=qC (show a.cell? ⟨q,2,O⟩=_ from Cr y.o) r;have bx:=qC (show a.cell? ⟨q,3,O⟩=_ from Cr y.o) r;have bz:=qC (show a.cell? ⟨q,4,O⟩=_ from Cr y.o) r;have bA:=qC (show a.cell? ⟨q,5,O⟩=_ from Cr y.o) r;have aH:=OK.o.qu _ (cu F);have h6:=OK.o.ok.procs;obtain⟨A,z,X,wk,M,hw⟩:∃ A z X wk M,sendQ d.Ab[k].kind d.Ab[k].size d.Ab[k].depth d.Ab[k].At s.queues[k].q s.queues[k].wait s.queues[k].lost data=(A,z,X,wk,M):=⟨_,_,_,_,_,rfl⟩;have HC:Hq (∀ W,Bl a W→aV prog 49 #[.agg #[.string nm,I U d.Ab[k].kind,.bool d.Ab[k].o,I J d.Ab[k].size,I J d.Ab[k].depth,I J d.Ab[k].At],.agg #[.slice aq s.queues[k].q.length cq,.slice aw s.queues[k].wait.length cw,I J s.queues[k].lost],Y ad data.length cd] W (LJ W A z X (I J wk) (I J M))):=fun W c=>by
   have:=Qq nm d.Ab[k].kind d.Ab[k].o d.Ab[k].size d.Ab[k].depth d.Ab[k].At s.queues[k].lost (Y ad data.length cd) data (.slice aq s.queues[k].q.length cq) (.slice aw s.queues[k].wait.length cw) s.queues[k].q s.queues[k].wait W (bo.rd.below c) (bp.1.below c) (aH.wait.wf h6) (by have:=aH.wait.len;omega) (by have:=aH.len;omega) (fun x hx=>by have:=(aH.msg x hx).1;omega) ((aY.o.1.below C.o).below c) (by omega);rw[hw] at this;exact this
  have HE:Hq (EJ d now (⟨kind,k,b,data⟩:Ac) s={s with queues:=s.queues.set k ⟨A,z,X⟩}):=by
   show EJ d now (⟨kind,k,b,data⟩:Ac) s=_;simp only[EJ,portA,quA,cf,getD_at _ _ hk,getD_at _ _ F,hw];rw[if_neg ac]
  clear hw bo bp aH;obtain⟨H1,bZ⟩:=H2 p V;clear p V hc j0 j1 j2 j3 j4 j5 j6 bP y0 y1 y2;have b0:=HH ac;clear ac;go_upto_region 4 with (fail);clear bL bh;refine AS 41 [40] [37,38] [(34,(fun v w'=>∃ m c2 L c3,v=.tuple #[.agg #[Y m A.length c2,Y L z.length c3,I J X],I J wk,I J M]∧A6 w' a.heap.size (Y m A.length c2) A∧Aq w' a.heap.size (Y L z.length c3) z))] ⟨(fun v w1 w2 ⟨m,c2,L,c3,e,h,h'⟩ c=>⟨m,c2,L,c3,e,h.below c,h'.below c⟩),trivial⟩ ?_
  iterate 34 (refine An rfl rfl rfl ?_;intro K hK;go_big_quiet_op;go_big_quiet_on)
  refine A9 rfl rfl (fun w' c hA=>?_) ?_
  ·refine AD (f:=49) (al:=[.agg #[.string nm,I U d.Ab[k].kind,.bool d.Ab[k].o,I J d.Ab[k].size,I J d.Ab[k].depth,I J d.Ab[k].At],.agg #[.slice aq s.queues[k].q.length cq,.slice aw s.queues[k].wait.length cw,I J s.queues[k].lost],Y ad data.length cd]) rfl rfl rfl O0 ?_;exact(HC.o w' c).mono fun e w2 h=>by
    obtain⟨u1,u2,he,bM,hf,bi⟩:=h;obtain⟨m,c2,cc⟩:=bM.C2;obtain⟨L,c3,ce⟩:=Bc hf;subst cc ce;exact⟨_,he,bi,_,_,_,_,rfl,bM.mono c.size,hf.mono c.size⟩
  intro v w' c hv;obtain⟨m,c2,L,c3,rfl,b9,bl⟩:=hv;clear c b9 bl w';simp only[Au,aj,ao,an]
  iterate 2 (refine An rfl rfl rfl ?_;intro K hK;go_big_quiet_op;go_big_quiet_on)
  iterate 2 (refine Bi rfl rfl rfl ?_;intro K hK;go_big_quiet_op;go_big_quiet_on)
  iterate 1 (refine An rfl rfl rfl ?_;intro K hK;go_big_quiet_op;go_big_quiet_on)
  refine AH rfl ?_;refine AR ?_;intro n N ae;have bq:=ae 34 _ (by decide) rfl;obtain⟨a4,c4,a5,c5,Q,bN,aG⟩:=bq;injection Q with Q;simp only[bU,bF,cb,bk,true_and,and_true] at Q;obtain⟨⟨rfl,rfl⟩,rfl,rfl⟩:=Q;have a0:Hq (BS n D (Y m A.length c2) A):=A6.CZ bN fun q hq _=>aZ.o q (bb C.o.size hq);have bY:Hq (Bm n D (Y L z.length c3) z):=Al.CZ aG.1 fun q hq _=>aZ.o q (bb C.o.size hq);clear aG bN;have R:=H1.o.below N;have P:∀ o,n.frozen? ⟨j.qu.b,o,O⟩=false:=R.qu.frozen ar;obtain⟨v9,u9,E,_,_⟩:=R.qu.el k F;have z0:n.cell? ⟨j.qu.b,k*3,O⟩=Z _:=E 0 _ rfl;have f0:=P (k*3);have z1:n.cell? ⟨j.qu.b,k*3+1,O⟩=Z _:=E 1 _ rfl;have f1:=P (k*3+1);have z2:n.cell? ⟨j.qu.b,k*3+2,O⟩=Z _:=E 2 _ rfl;have f2:=P (k*3+2);have au:=R.Jv F [(0,Y m A.length c2),(1,Y L z.length c3),(2,I J X)] rfl E (x:=⟨A,z,X⟩) fun w' bj aU=>⟨_,_,bj,a0.o.Ag aU,bY.o.Ag aU⟩;obtain⟨W2,S⟩:=ex (((n.setCell ⟨j.qu.b,k*3,O⟩ (Y m A.length c2)).setCell ⟨j.qu.b,k*3+1,O⟩ (Y L z.length c3)).setCell ⟨j.qu.b,k*3+2,O⟩ (I J X));refine AI (w':=W2) (by rw[S];simp[cG,go_sem,z0,f0,z1,f1,z2,f2]) ?_;unfold A7;have a6:Hq (PA W2 D g d j {s with queues:=s.queues.set k ⟨A,z,X⟩}):=by rw[S];exact au.1
  have a7:Hq (Upd (Mut g j) a W2):=by rw[S];exact(Upd.below N).trans au.2
  clear S au E P R N ae z0 f0 z1 f1 z2 f2 ci b2 aR ab t aO aP aQ aM aN bs r bt bu bw bx bz bA;go_wp2_with fail;go_ret;rw[HE.o];exact⟨rfl,a6.o,(Upd.below C.o).trans a7.o⟩
def T9:EG 117:=fun _ _=>by kernel_rfl
def TA:EG 115:=fun _ _=>by kernel_rfl
def Wg(B:Nat)(w:a2)(D:Nat→Prop)(g:Nat)(d:Ad)(t:Hd)(s:Ae)(kind:Int)(k:Nat)(b:Int)(data:List Int)(jb:Nat)(vd:be)(i:Nat)(now:Int)(bV:Gl B w)(hM:∀ q∈Mut g t,B≤q)(h:PA w D g d t s)(ok:Ah d s)(hj:JB w jb g kind k b vd i now)(b0:jb∉Mut g t)(hD:∀ q,w.heap.size≤q→D q)(cE:0≤now)(cF:now≤4294967296)(hk:k<d.Ab.length)(cz:k<s.samples.length)(cA:k<s.queues.length)(hi:i<d.procs.length):
  aV prog 78 #[G (Z ⟨jb,0,O⟩)] w fun e w'=>e=.returned (.bool (Fg d i now (⟨kind,k,b,data⟩:Ac) s).2)∧PA w' D g d t (Fg d i now (⟨kind,k,b,data⟩:Ac) s).1∧Upd (Mut g t) w w':=by
 obtain⟨z,j1,F,j3,j4,C,V⟩:=hj.cells;have j:jb<w.heap.size:=Aa hj;have ae:=qC z j;have aZ:=qC F j;have aR:0<d.Ab.length:=by omega
 have b7:=h.Q2 aR;have aD:=h.lt;have cN:=qC b7 aD;have cn:=h.AB.cap;have aN:=h.AB.lt;obtain⟨nm,hc⟩:=h.AB.el k hk;obtain⟨y0,y1,y2,y3,y4,y5⟩:=Od hc;have a0:=qC y0 aN;have a1:=qC y1 aN;have a8:=qC y2 aN;have cQ:=qC y3 aN;have cR:=qC y4 aN;have cS:=qC y5 aN;have c0:(k:Int)<(d.Ab.length:Int):=by omega
 obtain⟨H,HJ,bp,HG,HM,bf,OK⟩:=H7 h hj hD bV hM b0 ok;clear h hj hD ok hc bV hM b0 z j1 F j3 j4 C V b7 y0 y1 y2 y3 y4 y5;go_enter func78,ntmps78;go_upto_region 1 with (fail);refine AS 17 [16] [] [(15,Bh w.heap.size #[.string ⟨#[]⟩,I U 0,.bool false,I J 0,I J 0,I J 0] 62)] ⟨Bh.AX,trivial⟩ ?_
 iterate 15 (refine An rfl rfl rfl ?_;intro K hK;go_big_quiet_op;go_big_quiet_on)
 refine A9 rfl rfl (fun w' a hA=>?_) ?_
 ·exact EY (T #[.string ⟨#[]⟩,I U 0,.bool false,I J 0,I J 0,I J 0] 62) (by simp[cG,go_sem]) ⟨w'.heap.size,a.size,rfl,ba _ _⟩
 intro v w' a hv;obtain⟨q,hq,rfl,aT⟩:=hv;clear a hq aT w';simp only[Au,aj,ao,an];refine AH rfl ?_;refine AR ?_;intro n l E;obtain⟨cD,aT⟩:=Bh.at_ (E 15 _ (by decide) rfl);obtain⟨z0,z1,z2,z3,z4,z5⟩:=r6 aT;obtain⟨f0,f1,f2,f3,f4,f5⟩:=f6 aT;obtain⟨c,bC⟩:=ex ((((((n.setCell ⟨q,0,O⟩ (.string nm)).setCell ⟨q,1,O⟩ (I U d.Ab[k].kind)).setCell ⟨q,2,O⟩ (.bool d.Ab[k].o)).setCell ⟨q,3,O⟩ (I J d.Ab[k].size)).setCell ⟨q,4,O⟩ (I J d.Ab[k].depth)).setCell ⟨q,5,O⟩ (I J d.Ab[k].At));refine AI (w':=c) (by rw[bC];simp[cG,go_sem,z0,f0,z1,f1,z2,f2,z3,f3,z4,f4,z5,f5]) ?_;unfold A7;have bA:c=setsAt n q 0 [(0,.string nm),(1,I U d.Ab[k].kind),(2,.bool d.Ab[k].o),(3,I J d.Ab[k].size),(4,I J d.Ab[k].depth),(5,I J d.Ab[k].At)]:=bC;have y:Hq (Bl w c):=by rw[bA];exact DH cD l _
 have bN:c.heap[q]? =Z (T #[.string nm,I U d.Ab[k].kind,.bool d.Ab[k].o,I J d.Ab[k].size,I J d.Ab[k].depth,I J d.Ab[k].At] 62 (0,0)):=by
  rw[bA];have hh:=Di [(0,.string nm),(1,I U d.Ab[k].kind),(2,.bool d.Ab[k].o),(3,I J d.Ab[k].size),(4,I J d.Ab[k].depth),(5,I J d.Ab[k].At)] aT;simp only[Er,aj,ao,an] at hh;exact hh
 clear bC bA l E aT z0 f0 z1 f1 z2 f2 z3 f3 z4 f4 z5 f5 cN cn aN aD j a0 a1 a8 cQ cR cS ae aZ;obtain⟨bW,X⟩:=H2 (show q<c.heap.size from Aa bN) bN;clear bN;have b2:c.cell? ⟨q,1,O⟩=Z (I U d.Ab[k].kind):=by rw[Cr X.o];rfl
 by_cases aE:d.Ab[k].kind=2
 ·have bD:(d.Ab[k].kind==2)=true:=by simp[aE]
  have ar:=cA;replace aR:0<s.queues.length:=by omega
  have cB:(k:Int)<(s.queues.length:Int):=by omega
  have L:=H.o.below y.o;have ap:=HJ.o.below y.o;obtain⟨z,j1,F,j3,j4,C,V⟩:=ap.cells;have j:jb<c.heap.size:=Aa ap;have ae:=qC z j;have aZ:=qC F j;have ax:=qC C j;have b8:=L.Ib aR;have aD:=L.lt;have cO:=qC b8 aD;have cp:=L.qu.cap;have bi:=L.qu.lt;obtain⟨v,u,hc,bK,bL⟩:=L.qu.el k ar;obtain⟨aq,cq,rfl⟩:=bK.rd.C2;obtain⟨aw,cw,rfl,_,_,_⟩:=bL.1.open_;obtain⟨y0,y1,y2⟩:=EO hc;have a0:=qC y0 bi;have a1:=qC y1 bi;have a8:=qC y2 bi;have P:q<c.heap.size:=bW.o;have bO:=qC (show c.cell? ⟨q,0,O⟩=_ from Cr X.o) P;have bP:=qC (show c.cell? ⟨q,1,O⟩=_ from Cr X.o) P;have bQ:=qC (show c.cell? ⟨q,2,O⟩=_ from Cr X.o) P;have bR:=qC (show c.cell? ⟨q,3,O⟩=_ from Cr X.o) P;have bS:=qC (show c.cell? ⟨q,4,O⟩=_ from Cr X.o) P;have bT:=qC (show c.cell? ⟨q,5,O⟩=_ from Cr X.o) P;generalize bI:(d.procs.getD i default).prio=pr;have cl:Hq (∀ W,Bl c W→aV prog 116 #[G (Z ⟨jb,0,O⟩)] W fun e w'=>e=.returned (I J pr)∧Bl W w'):=fun W a=>by
   have:=Jm W D g d t s kind k b data jb _ i now ((H.o.below y.o).below a) OK.o ((HJ.o.below y.o).below a) (fun q hq=>bp.o q (bb y.o.size (bb a.size hq))) hi;rwa [bI] at this
  have aS:=OK.o.qu _ (cu ar);have h6:=OK.o.ok.procs;obtain⟨R,Q,m,o,S,hw⟩:∃ R Q m o S,recvQ d.Ab[k].kind d.Ab[k].size d.Ab[k].depth d.Ab[k].At s.queues[k].q s.queues[k].wait s.queues[k].lost i pr=(R,Q,m,o,S):=⟨_,_,_,_,_,rfl⟩;have HC:Hq (∀ W,Bl c W→aV prog 115 #[.agg #[.string nm,I U d.Ab[k].kind,.bool d.Ab[k].o,I J d.Ab[k].size,I J d.Ab[k].depth,I J d.Ab[k].At],.agg #[.slice aq s.queues[k].q.length cq,.slice aw s.queues[k].wait.length cw,I J s.queues[k].lost],I J i,I J pr] W (NN W R Q s.queues[k].lost m (.bool o) (I J S))):=fun W a=>by
   have:=Yu nm d.Ab[k].kind d.Ab[k].o d.Ab[k].size d.Ab[k].depth d.Ab[k].At s.queues[k].lost i pr (.slice aq s.queues[k].q.length cq) (.slice aw s.queues[k].wait.length cw) s.queues[k].q s.queues[k].wait W (bK.rd.below a) (bL.1.below a) (aS.wait.wf h6) (by have:=aS.wait.len;omega) (by have:=aS.len;omega) (fun x hx=>by have:=(aS.msg x hx).1;omega);rw[hw] at this;exact this
  have bm:=aS.Ql (k:=d.Ab[k].kind) (s:=d.Ab[k].size) (d:=d.Ab[k].depth) (r:=d.Ab[k].At) (p:=i) (u:=pr) (by omega) (by omega);rw[hw] at bm;have ck:Hq (Ah d {s with queues:=s.queues.set k ⟨R,Q,s.queues[k].lost⟩}):=OK.o.Ko k bm.1;have c1:m.length≤64:=bm.2.1;have HE:Hq (Fg d i now (⟨kind,k,b,data⟩:Ac) s=if o then(Co d i m {s with queues:=s.queues.set k ⟨R,Q,s.queues[k].lost⟩},true) else({s with queues:=s.queues.set k ⟨R,Q,s.queues[k].lost⟩},false)):=by
   show Fg d i now (⟨kind,k,b,data⟩:Ac) s=_;simp only[Fg,portA,quA,prioA,cf,getD_at _ _ hk,getD_at _ _ ar,bI,hw];rw[if_pos aE]
  clear hw bK bL aS bm bI;obtain⟨H1,ci⟩:=H2 L ap;clear L ap hc z j1 F j3 j4 C V b8 y0 y1 y2;have cj:=HH aE;clear aE;go_upto_region 5 with (fail);clear b2 bD;refine AS 45 [42] [38,39,40,43,44] [(34,fun v _=>v=I J pr),(35,(fun v w'=>∃ A c2 a3 c3 a4 c4,v=.tuple #[.agg #[Y A R.length c2,Y a3 Q.length c3,I J s.queues[k].lost],Y a4 m.length c4,.bool o,I J S]∧A6 w' c.heap.size (Y A R.length c2) R∧Aq w' c.heap.size (Y a3 Q.length c3) Q∧Af U w' c.heap.size (Y a4 m.length c4) m))] ⟨Ch,(fun v w1 w2 ⟨A,c2,a3,c3,a4,c4,e,h,h',ct⟩ a=>⟨A,c2,a3,c3,a4,c4,e,h.below a,h'.below a,ct.below a⟩),trivial⟩ ?_
  iterate 34 (refine An rfl rfl rfl ?_;intro K hK;go_big_quiet_op;go_big_quiet_on)
  refine A9 rfl rfl (fun w' a hA=>?_) ?_
  ·refine AD (f:=116) (al:=[G (Z ⟨jb,0,O⟩)]) rfl rfl rfl Ho ?_;exact(cl.o w' a).mono fun e w2 h=>⟨_,h.1,h.2,rfl⟩
  intro v w' a hv;obtain rfl:=hv;clear a w';simp only[Au,aj,ao,an];refine A9 rfl rfl (fun w' a hA=>?_) ?_
  ·refine AD (f:=115) (al:=[.agg #[.string nm,I U d.Ab[k].kind,.bool d.Ab[k].o,I J d.Ab[k].size,I J d.Ab[k].depth,I J d.Ab[k].At],.agg #[.slice aq s.queues[k].q.length cq,.slice aw s.queues[k].wait.length cw,I J s.queues[k].lost],I J i,I J pr]) rfl rfl rfl TA ?_;exact(HC.o w' a).mono fun e w2 h=>by
    obtain⟨u1,u2,u3,he,b3,hf,b5,bE⟩:=h;obtain⟨A,c2,cH⟩:=b3.C2;obtain⟨a3,c3,cI⟩:=Bc hf;obtain⟨a4,c4,cJ,_,_,_⟩:=b5.open_;subst cH cI cJ;exact⟨_,he,bE,_,_,_,_,_,_,rfl,b3.mono a.size,hf.mono a.size,b5.mono a.size⟩
  intro v w' a hv;obtain⟨A,c2,a3,c3,a4,c4,rfl,cC,bG,cL⟩:=hv;clear a cC bG cL w';simp only[Au,aj,ao,an]
  iterate 2 (refine An rfl rfl rfl ?_;intro K hK;go_big_quiet_op;go_big_quiet_on)
  iterate 3 (refine Bi rfl rfl rfl ?_;intro K hK;go_big_quiet_op;go_big_quiet_on)
  iterate 1 (refine An rfl rfl rfl ?_;intro K hK;go_big_quiet_op;go_big_quiet_on)
  refine AH rfl ?_
  iterate 2 (refine Bi rfl rfl rfl ?_;intro K hK;go_big_quiet_op;go_big_quiet_on)
  refine AR ?_;intro n l E;have bM:=E 35 _ (by decide) rfl;obtain⟨a5,c5,a6,c6,a7,c7,e3,b4,aW,b6⟩:=bM;injection e3 with e3;simp only[bU,bF,cb,bk,true_and,and_true] at e3;obtain⟨⟨⟨rfl,rfl⟩,rfl,rfl⟩,rfl,rfl⟩:=e3;have cg:Hq (BS n D (Y A R.length c2) R):=A6.CZ b4 fun q hq _=>bp.o q (bb y.o.size hq);have ch:Hq (Bm n D (Y a3 Q.length c3) Q):=Al.CZ aW.1 fun q hq _=>bp.o q (bb y.o.size hq);have bd:Hq (A4 n (NM g t) (Y a4 m.length c4) m):=Af.CZ b6 fun q hq _=>EF H.o (bb y.o.size hq);clear aW b4 b6;have h9:=H1.o.below l;have F9:∀ o,n.frozen? ⟨t.qu.b,o,O⟩=false:=h9.qu.frozen aR;obtain⟨v9,u9,aU,_,_⟩:=h9.qu.el k ar;have z0:n.cell? ⟨t.qu.b,k*3,O⟩=Z _:=aU 0 _ rfl;have f0:=F9 (k*3);have z1:n.cell? ⟨t.qu.b,k*3+1,O⟩=Z _:=aU 1 _ rfl;have f1:=F9 (k*3+1);have z2:n.cell? ⟨t.qu.b,k*3+2,O⟩=Z _:=aU 2 _ rfl;have f2:=F9 (k*3+2);have bl:=h9.Jv ar [(0,Y A R.length c2),(1,Y a3 Q.length c3),(2,I J s.queues[k].lost)] rfl aU (x:=⟨R,Q,s.queues[k].lost⟩) fun w' cy b1=>⟨_,_,cy,cg.o.Ag b1,ch.o.Ag b1⟩;obtain⟨W2,aB⟩:=ex (((n.setCell ⟨t.qu.b,k*3,O⟩ (Y A R.length c2)).setCell ⟨t.qu.b,k*3+1,O⟩ (Y a3 Q.length c3)).setCell ⟨t.qu.b,k*3+2,O⟩ (I J s.queues[k].lost));refine AI (w':=W2) (by rw[aB];simp[cG,go_sem,z0,f0,z1,f1,z2,f2]) ?_;unfold A7;have bq:Hq (PA W2 D g d t {s with queues:=s.queues.set k ⟨R,Q,s.queues[k].lost⟩}):=by rw[aB];exact bl.1
  have am:Hq (Upd (Mut g t) n W2):=by rw[aB];exact bl.2
  have br:Hq (Upd (Mut g t) c W2):=by rw[aB];exact(Upd.below l).trans bl.2
  clear aB bl aU F9 h9 l E z0 f0 z1 f1 z2 f2 cO cp bi aD j a0 a1 a8 ae aZ ax P bO bP bQ bR bS bT;cases o with
  |false=>
   go_wp2_with fail;go_ret;rw[HE.o];exact⟨rfl,bq.o,(Upd.below y.o).trans br.o⟩
  |true=>
   have h2:=bq.o;have N:=HJ.o.BG ((Upd.below y.o).trans br.o) bf.o;obtain⟨z,j1,F,j3,j4,C,V⟩:=N.cells;have j:jb<W2.heap.size:=Aa N;have ae:=qC z j;have ax:=qC C j;clear h2 N z j1 F j3 j4 C V;go_upto_region 10 with (fail);refine BQ 9 [] trivial ?_
   iterate 9 (refine AK rfl ?_;intro K hK;go_big_quiet_op;go_big_quiet_on)
   refine BN ?_;intro n l E;simp only[bc,bB,bJ];have M:Upd (Mut g t) w n:=(((Upd.below y.o).trans br.o)).trans (Upd.below l);obtain⟨ag,am⟩:=H2 (Iu B n D g d t _ i (Y a4 m.length c4) m (HG.o.BG M HM.o) ((bq.o).below l) ck.o hi (((bd.o.Ag (KeepD.nm am.o)).below l).1) (by omega)) M;clear E l M ae ax j;go_wp2_with fail;refine ag.o.mono ?_;rintro e w5 ⟨rfl,p5,u5⟩;obtain⟨aJ,aK⟩:=H2 p5 (am.o.trans u5);clear p5 u5 ag;go_wp2_with fail;go_ret;rw[HE.o];exact⟨rfl,aJ.o,aK.o⟩
 ·have bD:(d.Ab[k].kind==2)=false:=by simp[aE]
  have ar:=cz;replace aR:0<s.samples.length:=by omega
  have cB:(k:Int)<(s.samples.length:Int):=by omega
  have L:=H.o.below y.o;have ap:=HJ.o.below y.o;obtain⟨z,j1,F,j3,j4,C,V⟩:=ap.cells;have j:jb<c.heap.size:=Aa ap;have ae:=qC z j;have aZ:=qC F j;have cM:=qC V j;have b9:=L.Ic aR;have aD:=L.lt;have cP:=qC b9 aD;have cr:=L.sa.cap;have bj:=L.sa.lt;obtain⟨v,hc,hr⟩:=L.sa.el k ar;obtain⟨av,cv,rfl,_,_,_⟩:=hr.1.open_;obtain⟨y0,y1,y2⟩:=EO hc;have a0:=qC y0 bj;have a1:=qC y1 bj;have a8:=qC y2 bj;have P:q<c.heap.size:=bW.o;have bO:=qC (show c.cell? ⟨q,0,O⟩=_ from Cr X.o) P;have bP:=qC (show c.cell? ⟨q,1,O⟩=_ from Cr X.o) P;have bQ:=qC (show c.cell? ⟨q,2,O⟩=_ from Cr X.o) P;have bR:=qC (show c.cell? ⟨q,3,O⟩=_ from Cr X.o) P;have bS:=qC (show c.cell? ⟨q,4,O⟩=_ from Cr X.o) P;have bT:=qC (show c.cell? ⟨q,5,O⟩=_ from Cr X.o) P;obtain⟨m,fr,S,hw⟩:∃ m fr S,DN d.Ab[k] s.samples[k] now=(m,fr,S):=⟨_,_,_,rfl⟩;have aY:=OK.o.sa _ (cu ar);have HC:Hq (∀ W,Bl c W→aV prog 117 #[.agg #[.string nm,I U d.Ab[k].kind,.bool d.Ab[k].o,I J d.Ab[k].size,I J d.Ab[k].depth,I J d.Ab[k].At],.agg #[.slice av s.samples[k].data.length cv,I J s.samples[k].at_,.bool s.samples[k].has],I J now] W fun e w'=>∃ v,e=.returned (.tuple #[v,.bool fr,I J S])∧AA w' W.heap.size v m∧Bl W w'):=fun W a=>by
   have:=Yr nm d.Ab[k].kind d.Ab[k].o d.Ab[k].size d.Ab[k].depth d.Ab[k].At s.samples[k].at_ s.samples[k].has (.slice av s.samples[k].data.length cv) s.samples[k].data W (hr.1.below a) (by have:=aY.len;omega) now aY.at_.1 aY.at_.2 cE cF;have e:DN (⟨d.Ab[k].kind,d.Ab[k].o,d.Ab[k].size,d.Ab[k].depth,d.Ab[k].At⟩:CV) (⟨s.samples[k].data,s.samples[k].at_,s.samples[k].has⟩:Ee) now=(m,fr,S):=hw;rw[e] at this;exact this
  have HX:Hq (m.length≤64):=by
   have e:m=(DN d.Ab[k] s.samples[k] now).1:=by rw[hw]
   show m.length≤64;rw[e];unfold DN;have:=aY.len;split
   ·simp
   ·split
    ·simp
    ·exact this
  have HE:Hq (Fg d i now (⟨kind,k,b,data⟩:Ac) s=(Co d i (if fr=true∧S=0 then m else []) s,true)):=by
   show Fg d i now (⟨kind,k,b,data⟩:Ac) s=_;simp only[Fg,portA,cf,getD_at _ _ hk,getD_at _ _ ar,hw];rw[if_neg aE]
  clear hw hr aY;obtain⟨H1,ci,cj⟩:=H3 L ap aE;clear L ap hc z j1 F j3 j4 C V b9 y0 y1 y2 aE;go_upto_region 6 with (fail);clear b2 bD;refine BQ 27 [(20,(fun v w'=>∃ A c2,v=.tuple #[Y A m.length c2,.bool fr,I J S]∧AA w' c.heap.size (Y A m.length c2) m))] ⟨(fun v w1 w2 ⟨A,c2,e,h⟩ a=>⟨A,c2,e,Ty.below h a⟩),trivial⟩ ?_
  iterate 20 (refine AK rfl ?_;intro K hK;go_big_quiet_op;go_big_quiet_on)
  refine Ca rfl (fun w' a hA=>?_) ?_
  ·refine AD (f:=117) (al:=[.agg #[.string nm,I U d.Ab[k].kind,.bool d.Ab[k].o,I J d.Ab[k].size,I J d.Ab[k].depth,I J d.Ab[k].At],.agg #[.slice av s.samples[k].data.length cv,I J s.samples[k].at_,.bool s.samples[k].has],I J now]) rfl rfl rfl T9 ?_;exact(HC.o w' a).mono fun e w2 h=>by
    obtain⟨u,he,hf,bE⟩:=h;obtain⟨A,c2,hu⟩:=Ty.shape hf;subst hu;exact⟨_,he,bE,_,_,rfl,Ty.mono hf a.size⟩
  intro v w' a hv;obtain⟨A,c2,rfl,bG⟩:=hv;clear a bG w';simp only[Au,aj,ao,an]
  iterate 6 (refine AK rfl ?_;intro K hK;go_big_quiet_op;go_big_quiet_on)
  refine BN ?_;intro n l E;simp only[bc,bB,bJ];have bM:=E 20 _ (by decide) rfl;obtain⟨a3,c3,e3,aW⟩:=bM;injection e3 with e3;simp only[bU,bF,bk,true_and,and_true] at e3;obtain⟨rfl,rfl⟩:=e3;have bd:Hq (A4 n (NM g t) (Y A m.length c2) m):=Af.CZ (Ty.sl aW) fun q hq _=>EF H.o (bb y.o.size hq);obtain⟨W2,aB⟩:=ex n;rw[←aB] at l bd ⊢;have af:=HH l;clear aB l E aW cP cr bj aD j a0 a1 a8 ae aZ cM P bO bP bQ bR bS bT;cases fr with
  |false=>
   simp only[Bool.false_eq_true,false_and,if_false] at HE;have h2:=H1.o.below af.o;have N:=HJ.o.BG ((Upd.below y.o).trans (Upd.below af.o)) bf.o;obtain⟨z,j1,F,j3,j4,C,V⟩:=N.cells;have j:jb<W2.heap.size:=Aa N;have ae:=qC z j;have ax:=qC C j;clear h2 N z j1 F j3 j4 C V;go_upto_region 10 with (fail);refine BQ 9 [] trivial ?_
   iterate 9 (refine AK rfl ?_;intro K hK;go_big_quiet_op;go_big_quiet_on)
   refine BN ?_;intro n l E;simp only[bc,bB,bJ];have M:Upd (Mut g t) w n:=(((Upd.below y.o).trans (Upd.below af.o))).trans (Upd.below l);obtain⟨ag,am⟩:=H2 (Iu B n D g d t _ i (Y O 0 0) [] (HG.o.BG M HM.o) ((H1.o.below af.o).below l) OK.o hi ((A4.nil (D:=fun _=>True)).1) (by simp)) M;clear E l M ae ax j;go_wp2_with fail;refine ag.o.mono ?_;rintro e w5 ⟨rfl,p5,u5⟩;obtain⟨aJ,aK⟩:=H2 p5 (am.o.trans u5);clear p5 u5 ag;go_wp2_with fail;go_ret;rw[HE.o];exact⟨rfl,aJ.o,aK.o⟩
  |true=>
   by_cases aQ:S=0
   ·simp only[aQ,and_self,if_true] at HE;have cx:(S==0)=true:=by simp[aQ]
    clear aQ;have h2:=H1.o.below af.o;have N:=HJ.o.BG ((Upd.below y.o).trans (Upd.below af.o)) bf.o;obtain⟨z,j1,F,j3,j4,C,V⟩:=N.cells;have j:jb<W2.heap.size:=Aa N;have ae:=qC z j;have ax:=qC C j;clear h2 N z j1 F j3 j4 C V;go_upto_region 10 with (fail);refine BQ 9 [] trivial ?_
    iterate 9 (refine AK rfl ?_;intro K hK;go_big_quiet_op;go_big_quiet_on)
    refine BN ?_;intro n l E;simp only[bc,bB,bJ];have M:Upd (Mut g t) w n:=(((Upd.below y.o).trans (Upd.below af.o))).trans (Upd.below l);obtain⟨ag,am⟩:=H2 (Iu B n D g d t _ i (Y A m.length c2) m (HG.o.BG M HM.o) ((H1.o.below af.o).below l) OK.o hi ((bd.o.below l).1) (by have:=HX.o;omega)) M;clear E l M ae ax j;go_wp2_with fail;refine ag.o.mono ?_;rintro e w5 ⟨rfl,p5,u5⟩;obtain⟨aJ,aK⟩:=H2 p5 (am.o.trans u5);clear p5 u5 ag;go_wp2_with fail;go_ret;rw[HE.o];exact⟨rfl,aJ.o,aK.o⟩
   ·simp only[aQ,and_false,if_false] at HE;have cx:(S==0)=false:=by simp[aQ]
    clear aQ;have h2:=H1.o.below af.o;have N:=HJ.o.BG ((Upd.below y.o).trans (Upd.below af.o)) bf.o;obtain⟨z,j1,F,j3,j4,C,V⟩:=N.cells;have j:jb<W2.heap.size:=Aa N;have ae:=qC z j;have ax:=qC C j;clear h2 N z j1 F j3 j4 C V;go_upto_region 10 with (fail);refine BQ 9 [] trivial ?_
    iterate 9 (refine AK rfl ?_;intro K hK;go_big_quiet_op;go_big_quiet_on)
    refine BN ?_;intro n l E;simp only[bc,bB,bJ];have M:Upd (Mut g t) w n:=(((Upd.below y.o).trans (Upd.below af.o))).trans (Upd.below l);obtain⟨ag,am⟩:=H2 (Iu B n D g d t _ i (Y O 0 0) [] (HG.o.BG M HM.o) ((H1.o.below af.o).below l) OK.o hi ((A4.nil (D:=fun _=>True)).1) (by simp)) M;clear E l M ae ax j;go_wp2_with fail;refine ag.o.mono ?_;rintro e w5 ⟨rfl,p5,u5⟩;obtain⟨aJ,aK⟩:=H2 p5 (am.o.trans u5);clear p5 u5 ag;go_wp2_with fail;go_ret;rw[HE.o];exact⟨rfl,aJ.o,aK.o⟩
def Wq(B:Nat)(w:a2)(D:Nat→Prop)(g:Nat)(d:Ad)(a:Hd)(s:Ae)(k:Nat)(b:Int)(data:List Int)(c:Nat)(f:be)(i:Nat)(now:Int)(o:Gl B w)(p:∀ q∈Mut g a,B≤q)(h:PA w D g d a s)(ok:Ah d s)(m:JB w c g 1 k b f i now)(u:c∉Mut g a)(j:∀ q,w.heap.size≤q→D q)(v:0≤now)(x:now≤4294967296)(t:i<s.procs.length)(l:Cz d s.mem.length ⟨1,k,b,data⟩)(r:A4 w (NM g a) f data):
  aV prog 76 #[G (Z ⟨c,0,O⟩)] w fun e w'=>e=.returned (.bool (actA d i now ⟨1,k,b,data⟩ s).2)∧PA w' D g d a (actA d i now ⟨1,k,b,data⟩ s).1∧Upd (Mut g a) w w':=by
 have hid:i<d.procs.length:=by have:=ok.procs;omega
 have n:k<s.mem.length:=by have:=(l.store rfl).1.2;simp only at*;omega
 exact Wl w D g d a s 1 k b data c f i now h ok m j n
def Wy(B:Nat)(w:a2)(D:Nat→Prop)(g:Nat)(d:Ad)(a:Hd)(s:Ae)(k:Nat)(b:Int)(data:List Int)(c:Nat)(l:be)(i:Nat)(now:Int)(m:Gl B w)(o:∀ q∈Mut g a,B≤q)(h:PA w D g d a s)(ok:Ah d s)(r:JB w c g 2 k b l i now)(t:c∉Mut g a)(n:∀ q,w.heap.size≤q→D q)(x:0≤now)(y:now≤4294967296)(z:i<s.procs.length)(f:Cz d s.mem.length ⟨2,k,b,data⟩)(p:A4 w (NM g a) l data):
  aV prog 77 #[G (Z ⟨c,0,O⟩)] w fun e w'=>e=.returned (.bool (actA d i now ⟨2,k,b,data⟩ s).2)∧PA w' D g d a (actA d i now ⟨2,k,b,data⟩ s).1∧Upd (Mut g a) w w':=by
 have hid:i<d.procs.length:=by have:=ok.procs;omega
 have j:k<d.Ab.length:=by have:=(f.send rfl).1.2;simp only at*;omega
 have u:k<s.samples.length:=by rw[ok.samples];exact j
 have v:k<s.queues.length:=by rw[ok.queues];exact j
 exact Wh B w D g d a s 2 k b data c l i now m o h ok r t n x y j u v p f.data f.bytes
def Wz(B:Nat)(w:a2)(D:Nat→Prop)(g:Nat)(d:Ad)(a:Hd)(s:Ae)(k:Nat)(b:Int)(data:List Int)(c:Nat)(j:be)(i:Nat)(now:Int)(l:Gl B w)(n:∀ q∈Mut g a,B≤q)(h:PA w D g d a s)(ok:Ah d s)(p:JB w c g 3 k b j i now)(r:c∉Mut g a)(m:∀ q,w.heap.size≤q→D q)(v:0≤now)(x:now≤4294967296)(z:i<s.procs.length)(o:Cz d s.mem.length ⟨3,k,b,data⟩)(y:A4 w (NM g a) j data):
  aV prog 78 #[G (Z ⟨c,0,O⟩)] w fun e w'=>e=.returned (.bool (actA d i now ⟨3,k,b,data⟩ s).2)∧PA w' D g d a (actA d i now ⟨3,k,b,data⟩ s).1∧Upd (Mut g a) w w':=by
 have hid:i<d.procs.length:=by have:=ok.procs;omega
 have f:k<d.Ab.length:=by have:=(o.recv rfl).1.2;simp only at*;omega
 have t:k<s.samples.length:=by rw[ok.samples];exact f
 have u:k<s.queues.length:=by rw[ok.queues];exact f
 exact Wg B w D g d a s 3 k b data c j i now l n h ok p r m v x f t u hid
def W8(B:Nat)(w:a2)(D:Nat→Prop)(g:Nat)(d:Ad)(a:Hd)(s:Ae)(k:Nat)(b:Int)(data:List Int)(c:Nat)(f:be)(i:Nat)(now:Int)(o:Gl B w)(p:∀ q∈Mut g a,B≤q)(h:PA w D g d a s)(ok:Ah d s)(m:JB w c g 4 k b f i now)(u:c∉Mut g a)(j:∀ q,w.heap.size≤q→D q)(v:0≤now)(x:now≤4294967296)(t:i<s.procs.length)(l:Cz d s.mem.length ⟨4,k,b,data⟩)(r:A4 w (NM g a) f data):
  aV prog 79 #[G (Z ⟨c,0,O⟩)] w fun e w'=>e=.returned (.bool (actA d i now ⟨4,k,b,data⟩ s).2)∧PA w' D g d a (actA d i now ⟨4,k,b,data⟩ s).1∧Upd (Mut g a) w w':=by
 have hid:i<d.procs.length:=by have:=ok.procs;omega
 have n:k<s.semas.length:=by have:=(l.Ep (by simp)).2;have:=ok.semas;simp only at*;omega
 exact Wn w D g d a s 4 k b data c f i now h ok m j n hid
def WA(B:Nat)(w:a2)(D:Nat→Prop)(g:Nat)(d:Ad)(a:Hd)(s:Ae)(k:Nat)(b:Int)(data:List Int)(c:Nat)(f:be)(i:Nat)(now:Int)(j:Gl B w)(m:∀ q∈Mut g a,B≤q)(h:PA w D g d a s)(ok:Ah d s)(o:JB w c g 5 k b f i now)(p:c∉Mut g a)(l:∀ q,w.heap.size≤q→D q)(t:0≤now)(u:now≤4294967296)(x:i<s.procs.length)(n:Cz d s.mem.length ⟨5,k,b,data⟩)(v:A4 w (NM g a) f data):
  aV prog 80 #[G (Z ⟨c,0,O⟩)] w fun e w'=>e=.returned (.bool (actA d i now ⟨5,k,b,data⟩ s).2)∧PA w' D g d a (actA d i now ⟨5,k,b,data⟩ s).1∧Upd (Mut g a) w w':=by
 have hid:i<d.procs.length:=by have:=ok.procs;omega
 have r:k<s.semas.length:=by have:=(n.Ep (by simp)).2;have:=ok.semas;simp only at*;omega
 exact Wj B w D g d a s 5 k b data c f i now j m h ok o p l t u r hid
def WB(B:Nat)(w:a2)(D:Nat→Prop)(g:Nat)(d:Ad)(a:Hd)(s:Ae)(k:Nat)(b:Int)(data:List Int)(c:Nat)(f:be)(i:Nat)(now:Int)(j:Gl B w)(m:∀ q∈Mut g a,B≤q)(h:PA w D g d a s)(ok:Ah d s)(o:JB w c g 6 k b f i now)(p:c∉Mut g a)(l:∀ q,w.heap.size≤q→D q)(t:0≤now)(u:now≤4294967296)(x:i<s.procs.length)(n:Cz d s.mem.length ⟨6,k,b,data⟩)(v:A4 w (NM g a) f data):
  aV prog 81 #[G (Z ⟨c,0,O⟩)] w fun e w'=>e=.returned (.bool (actA d i now ⟨6,k,b,data⟩ s).2)∧PA w' D g d a (actA d i now ⟨6,k,b,data⟩ s).1∧Upd (Mut g a) w w':=by
 have hid:i<d.procs.length:=by have:=ok.procs;omega
 have r:k<s.events.length:=by have:=(n.event (by simp)).2;have:=ok.events;simp only at*;omega
 exact Wf B w D g d a s 6 k b data c f i now j m h ok o p l t u r hid
def WC(B:Nat)(w:a2)(D:Nat→Prop)(g:Nat)(d:Ad)(a:Hd)(s:Ae)(k:Nat)(b:Int)(data:List Int)(c:Nat)(f:be)(i:Nat)(now:Int)(o:Gl B w)(p:∀ q∈Mut g a,B≤q)(h:PA w D g d a s)(ok:Ah d s)(m:JB w c g 7 k b f i now)(u:c∉Mut g a)(j:∀ q,w.heap.size≤q→D q)(v:0≤now)(x:now≤4294967296)(t:i<s.procs.length)(l:Cz d s.mem.length ⟨7,k,b,data⟩)(r:A4 w (NM g a) f data):
  aV prog 82 #[G (Z ⟨c,0,O⟩)] w fun e w'=>e=.returned (.bool (actA d i now ⟨7,k,b,data⟩ s).2)∧PA w' D g d a (actA d i now ⟨7,k,b,data⟩ s).1∧Upd (Mut g a) w w':=by
 have hid:i<d.procs.length:=by have:=ok.procs;omega
 have n:k<s.events.length:=by have:=(l.event (by simp)).2;have:=ok.events;simp only at*;omega
 exact Wb w D g d a s 7 k b data c f i now h ok m j n hid
def WD(B:Nat)(w:a2)(D:Nat→Prop)(g:Nat)(d:Ad)(a:Hd)(s:Ae)(k:Nat)(b:Int)(data:List Int)(c:Nat)(f:be)(i:Nat)(now:Int)(o:Gl B w)(p:∀ q∈Mut g a,B≤q)(h:PA w D g d a s)(ok:Ah d s)(m:JB w c g 8 k b f i now)(u:c∉Mut g a)(j:∀ q,w.heap.size≤q→D q)(v:0≤now)(x:now≤4294967296)(t:i<s.procs.length)(l:Cz d s.mem.length ⟨8,k,b,data⟩)(r:A4 w (NM g a) f data):
  aV prog 83 #[G (Z ⟨c,0,O⟩)] w fun e w'=>e=.returned (.bool (actA d i now ⟨8,k,b,data⟩ s).2)∧PA w' D g d a (actA d i now ⟨8,k,b,data⟩ s).1∧Upd (Mut g a) w w':=by
 have hid:i<d.procs.length:=by have:=ok.procs;omega
 have n:k<s.events.length:=by have:=(l.event (by simp)).2;have:=ok.events;simp only at*;omega
 exact Wm w D g d a s 8 k b data c f i now h ok m j n hid
def WE(B:Nat)(w:a2)(D:Nat→Prop)(g:Nat)(d:Ad)(a:Hd)(s:Ae)(k:Nat)(b:Int)(data:List Int)(f:Nat)(j:be)(i:Nat)(now:Int)(l:Gl B w)(n:∀ q∈Mut g a,B≤q)(h:PA w D g d a s)(ok:Ah d s)(r:JB w f g 9 k b j i now)(t:f∉Mut g a)(m:∀ q,w.heap.size≤q→D q)(v:0≤now)(x:now≤4294967296)(y:i<s.procs.length)(c:Cz d s.mem.length ⟨9,k,b,data⟩)(p:A4 w (NM g a) j data):
  aV prog 84 #[G (Z ⟨f,0,O⟩)] w fun e w'=>e=.returned (.bool (actA d i now ⟨9,k,b,data⟩ s).2)∧PA w' D g d a (actA d i now ⟨9,k,b,data⟩ s).1∧Upd (Mut g a) w w':=by
 have hid:i<d.procs.length:=by have:=ok.procs;omega
 have u:k<s.bufs.length:=by have:=(c.Eg (by simp)).2;have:=ok.bufs;simp only at*;omega
 have o:0<data.length:=c.one (by simp);exact We B w D g d a s 9 k b data f j i now l n h ok r t m v x u hid p o c.data c.bytes
def Wr(B:Nat)(w:a2)(D:Nat→Prop)(g:Nat)(d:Ad)(a:Hd)(s:Ae)(k:Nat)(b:Int)(data:List Int)(c:Nat)(f:be)(i:Nat)(now:Int)(j:Gl B w)(m:∀ q∈Mut g a,B≤q)(h:PA w D g d a s)(ok:Ah d s)(o:JB w c g 10 k b f i now)(p:c∉Mut g a)(l:∀ q,w.heap.size≤q→D q)(t:0≤now)(u:now≤4294967296)(x:i<s.procs.length)(n:Cz d s.mem.length ⟨10,k,b,data⟩)(v:A4 w (NM g a) f data):
  aV prog 85 #[G (Z ⟨c,0,O⟩)] w fun e w'=>e=.returned (.bool (actA d i now ⟨10,k,b,data⟩ s).2)∧PA w' D g d a (actA d i now ⟨10,k,b,data⟩ s).1∧Upd (Mut g a) w w':=by
 have hid:i<d.procs.length:=by have:=ok.procs;omega
 have r:k<s.bufs.length:=by have:=(n.Eg (by simp)).2;have:=ok.bufs;simp only at*;omega
 exact VZ B w D g d a s 10 k b data c f i now j m h ok o p l t u r hid
def Ws(B:Nat)(w:a2)(D:Nat→Prop)(g:Nat)(d:Ad)(a:Hd)(s:Ae)(k:Nat)(b:Int)(data:List Int)(f:Nat)(j:be)(i:Nat)(now:Int)(l:Gl B w)(n:∀ q∈Mut g a,B≤q)(h:PA w D g d a s)(ok:Ah d s)(r:JB w f g 11 k b j i now)(t:f∉Mut g a)(m:∀ q,w.heap.size≤q→D q)(v:0≤now)(x:now≤4294967296)(y:i<s.procs.length)(c:Cz d s.mem.length ⟨11,k,b,data⟩)(p:A4 w (NM g a) j data):
  aV prog 86 #[G (Z ⟨f,0,O⟩)] w fun e w'=>e=.returned (.bool (actA d i now ⟨11,k,b,data⟩ s).2)∧PA w' D g d a (actA d i now ⟨11,k,b,data⟩ s).1∧Upd (Mut g a) w w':=by
 have hid:i<d.procs.length:=by have:=ok.procs;omega
 have u:k<s.boards.length:=by have:=(c.Dz (by simp)).2;have:=ok.boards;simp only at*;omega
 have o:0<data.length:=c.one (by simp);exact Wi B w D g d a s 11 k b data f j i now l n h ok r t m v x u hid p o c.data c.bytes
def Wu(B:Nat)(w:a2)(D:Nat→Prop)(g:Nat)(d:Ad)(a:Hd)(s:Ae)(k:Nat)(b:Int)(data:List Int)(c:Nat)(f:be)(i:Nat)(now:Int)(j:Gl B w)(m:∀ q∈Mut g a,B≤q)(h:PA w D g d a s)(ok:Ah d s)(o:JB w c g 12 k b f i now)(p:c∉Mut g a)(l:∀ q,w.heap.size≤q→D q)(t:0≤now)(u:now≤4294967296)(x:i<s.procs.length)(n:Cz d s.mem.length ⟨12,k,b,data⟩)(v:A4 w (NM g a) f data):
  aV prog 87 #[G (Z ⟨c,0,O⟩)] w fun e w'=>e=.returned (.bool (actA d i now ⟨12,k,b,data⟩ s).2)∧PA w' D g d a (actA d i now ⟨12,k,b,data⟩ s).1∧Upd (Mut g a) w w':=by
 have hid:i<d.procs.length:=by have:=ok.procs;omega
 have r:k<s.boards.length:=by have:=(n.Dz (by simp)).2;have:=ok.boards;simp only at*;omega
 exact Wa B w D g d a s 12 k b data c f i now j m h ok o p l t u r hid
def Wv(B:Nat)(w:a2)(D:Nat→Prop)(g:Nat)(d:Ad)(a:Hd)(s:Ae)(k:Nat)(b:Int)(data:List Int)(c:Nat)(f:be)(i:Nat)(now:Int)(o:Gl B w)(p:∀ q∈Mut g a,B≤q)(h:PA w D g d a s)(ok:Ah d s)(m:JB w c g 13 k b f i now)(u:c∉Mut g a)(j:∀ q,w.heap.size≤q→D q)(v:0≤now)(x:now≤4294967296)(t:i<s.procs.length)(l:Cz d s.mem.length ⟨13,k,b,data⟩)(r:A4 w (NM g a) f data):
  aV prog 88 #[G (Z ⟨c,0,O⟩)] w fun e w'=>e=.returned (.bool (actA d i now ⟨13,k,b,data⟩ s).2)∧PA w' D g d a (actA d i now ⟨13,k,b,data⟩ s).1∧Upd (Mut g a) w w':=by
 have hid:i<d.procs.length:=by have:=ok.procs;omega
 have n:k<s.boards.length:=by have:=(l.Dz (by simp)).2;have:=ok.boards;simp only at*;omega
 exact Wp w D g d a s 13 k b data c f i now h ok m j n hid
def Ww(B:Nat)(w:a2)(D:Nat→Prop)(g:Nat)(d:Ad)(a:Hd)(s:Ae)(k:Nat)(b:Int)(data:List Int)(c:Nat)(f:be)(i:Nat)(now:Int)(j:Gl B w)(o:∀ q∈Mut g a,B≤q)(h:PA w D g d a s)(ok:Ah d s)(n:JB w c g 14 k b f i now)(t:c∉Mut g a)(l:∀ q,w.heap.size≤q→D q)(u:0≤now)(v:now≤4294967296)(m:i<s.procs.length)(p:Cz d s.mem.length ⟨14,k,b,data⟩)(r:A4 w (NM g a) f data):
  aV prog 89 #[G (Z ⟨c,0,O⟩)] w fun e w'=>e=.returned (.bool (actA d i now ⟨14,k,b,data⟩ s).2)∧PA w' D g d a (actA d i now ⟨14,k,b,data⟩ s).1∧Upd (Mut g a) w w':=by
 have hid:i<d.procs.length:=by have:=ok.procs;omega
 exact Wc B w D g d a s 14 k b data c f i now h ok n l j m hid
def Wx(B:Nat)(w:a2)(D:Nat→Prop)(g:Nat)(d:Ad)(a:Hd)(s:Ae)(k:Nat)(b:Int)(data:List Int)(c:Nat)(f:be)(i:Nat)(now:Int)(j:Gl B w)(o:∀ q∈Mut g a,B≤q)(h:PA w D g d a s)(ok:Ah d s)(n:JB w c g 16 k b f i now)(t:c∉Mut g a)(l:∀ q,w.heap.size≤q→D q)(u:0≤now)(v:now≤4294967296)(m:i<s.procs.length)(p:Cz d s.mem.length ⟨16,k,b,data⟩)(r:A4 w (NM g a) f data):
  aV prog 90 #[G (Z ⟨c,0,O⟩)] w fun e w'=>e=.returned (.bool (actA d i now ⟨16,k,b,data⟩ s).2)∧PA w' D g d a (actA d i now ⟨16,k,b,data⟩ s).1∧Upd (Mut g a) w w':=by
 have hid:i<d.procs.length:=by have:=ok.procs;omega
 exact Pb B w D g d a s 16 k b data c f i now h ok n l j m
section
variable {w w':a2} {D D':Nat→Prop} {g:Nat} {d:Ad} {hd:Hd} {s:Ae}
def Ct.grow{v:be}(h:Ct D v)(f:∀ b,D b→D' b):Ct D' v:=fun a m c i e=>f _ (h a m c i e)
def BS.grow{v:be}{q:List (List Int)}(h:BS w D v q)(c:∀ b,D b→D' b):BS w D' v q:=by
 obtain⟨vs,j,k,a⟩:=h;exact⟨vs,j,k.grow c,fun i u x e f=>⟨(a i u x e f).1,(a i u x e f).2.grow c⟩⟩
def Am.grow{b sz c:Nat}{t:TypeId}{a:Option Addr}{α:Type}{El:a2→(Nat→Prop)→Nat→Nat→α→Prop}{l:List α}(h:Am w D b t sz a c El l)(i:¬D' b)(e:∀ b o x,El w D b o x→El w D' b o x):Am w D' b t sz a c El l:=
 ⟨h.cap,h.nil,h.ptr,i,h.lt,h.blk,fun k f=>e _ _ _ (h.el k f)⟩
def PA.Pz(h:PA w D g d hd s):∀ b∈AL g hd,¬D b:=fun b a=>by
 simp only[AL,List.mem_cons,List.not_mem_nil,or_false] at a;rcases a with rfl|rfl|rfl|rfl|rfl|rfl|rfl|rfl|rfl|rfl|rfl|rfl|rfl
 ·exact h.nd
 ·exact h.Bs.nd
 ·exact h.Bt.nd
 ·exact h.AB.nd
 ·exact h.Ay.nd
 ·exact h.pr.nd
 ·exact h.sa.nd
 ·exact h.qu.nd
 ·exact h.bu.nd
 ·exact h.bo.nd
 ·exact h.se.nd
 ·exact h.ev.nd
 ·exact h.me.nd
def PA.grow(h:PA w D g d hd s)(i:∀ b,D b→D' b)(f:∀ b∈AL g hd,¬D' b):PA w D' g d hd s:=
 ⟨h.blk,f _ (by simp[AL]),h.Bs.grow (f _ (by simp[AL])) fun _ _ _ e=>e,h.Bt.grow (f _ (by simp[AL])) fun _ _ _ e=>e,h.AB.grow (f _ (by simp[AL])) fun _ _ _ e=>e,h.Ay.grow (f _ (by simp[AL])) fun _ _ _ ⟨nm,v,c,a⟩=>⟨nm,v,c,a.1,a.2.grow i⟩,
  h.pr.grow (f _ (by simp[AL])) fun _ _ _ e=>e,h.sa.grow (f _ (by simp[AL])) fun _ _ _ ⟨v,c,a⟩=>⟨v,c,a.1,a.2.grow i⟩,h.qu.grow (f _ (by simp[AL])) fun _ _ _ ⟨v,u,c,a,j⟩=>⟨v,u,c,a.grow i,j.1,j.2.grow i⟩,h.bu.grow (f _ (by simp[AL])) fun _ _ _ ⟨v,p,q,c,a,j,k⟩=>⟨v,p,q,c,⟨a.1,a.2.grow i⟩,⟨j.1,j.2.grow i⟩,k.1,k.2.grow i⟩,
  h.bo.grow (f _ (by simp[AL])) fun _ _ _ ⟨v,c,a⟩=>⟨v,c,a.1,a.2.grow i⟩,h.se.grow (f _ (by simp[AL])) fun _ _ _ ⟨v,c,a⟩=>⟨v,c,a.1,a.2.grow i⟩,h.ev.grow (f _ (by simp[AL])) fun _ _ _ ⟨v,c,a⟩=>⟨v,c,a.1,a.2.grow i⟩,h.me.grow (f _ (by simp[AL])) fun _ _ _ e=>e⟩
def Wo(D:Nat→Prop)(M:List Nat)(b:Nat):Prop:=D b∧b∉M
def PA.wo(h:PA w D g d hd s){M:List Nat}(a:∀ q∈M,w.heap.size≤q):PA w (Wo D M) g d hd s:=h.swap fun b e=>by
 have:b∉M:=fun c=>by have:=a b c;omega
 simp[Wo,this]
def PA.L6{M:List Nat}(h:PA w (Wo D M) g d hd s)(c:∀ b∈AL g hd,¬D b):PA w D g d hd s:=h.grow (fun b a=>a.1) c
def PA.loc{M:List Nat}(h:PA w (Wo D M) g d hd s)(e:∀ b∈AL g hd,b∉M)(i:w.heap.size≤w'.heap.size)(a:∀ b,b<w.heap.size→b∉M→w'.heap[b]? =w.heap[b]?):PA w' (Wo D M) g d hd s:=
 h.Ei ⟨i,fun b hd f=>a b f hd.2⟩ fun b c=>a b (h.K8 b c) (e b c)
end
def Da(w:a2)(a b:Obj):((w.alloc a).alloc b).heap[w.heap.size]? =Z a∧((w.alloc a).alloc b).heap[w.heap.size+1]? =Z b:=by
 refine⟨?_,?_⟩
 ·rw[aX _ _ _ (by simp)];exact ba w a
 ·have:=ba (w.alloc a) b;simpa using this
def DX(w:a2)(a b:Obj):Bl w ((w.alloc a).alloc b):=((bH _ w).alloc (bn _) _).alloc (by simp) _
def Nv:prog.underlying 155=Z (.map 5 28):=by kernel_rfl
def Nw:prog.underlying 5=Z (.int U):=by kernel_rfl
def Iy(k:Int):Nat:=
 match k with
 |1=>76|2=>77|3=>78|4=>79|5=>80|6=>81|7=>82|8=>83
 |9=>84|10=>85|11=>86|12=>87|13=>88|14=>89| _=>90
def Ef(a:Nat)(k:Int)(c:Nat):MapEntry:=⟨I U k,.func (.func (Iy k)) #[G (Z ⟨a,0,O⟩)] #[],c⟩
def LN(a:Nat):List MapEntry:=[Ef a 1 0,Ef a 2 1,Ef a 3 2,Ef a 4 3,Ef a 5 4,Ef a 6 5,Ef a 7 6,Ef a 8 7,Ef a 9 8,Ef a 10 9,Ef a 11 10,Ef a 12 11,Ef a 13 12,Ef a 14 13,Ef a 16 14]
def Rt(a:Nat){k:Int}(h:0≤k∧k≤16)(b:k≠0)(c:k≠15):∃ i,cK (.int U) (I U k) (LN a).toArray.toList 0=Z (Z (i,.func (.func (Iy k)) #[G (Z ⟨a,0,O⟩)] #[])):=by
 rcases(show k=1∨k=2∨k=3∨k=4∨k=5∨k=6∨k=7∨k=8∨k=9∨k=10∨k=11∨k=12∨k=13∨k=14∨k=16 by omega) with rfl|rfl|rfl|rfl|rfl|rfl|rfl|rfl|rfl|rfl|rfl|rfl|rfl|rfl|rfl<;>exact⟨_,rfl⟩
def Ru(a:Nat){k:Int}(h:k=0∨k=15):cK (.int U) (I U k) (LN a).toArray.toList 0=Z O:=by
 rcases h with rfl|rfl<;>rfl
def WH(B:Nat)(w:a2)(D:Nat→Prop)(g:Nat)(d:Ad)(c:Hd)(s:Ae)(a:Int)(k:Nat)(b:Int)(data:List Int)(f:Nat)(j:be)(i:Nat)(now:Int)(m:Gl B w)(o:∀ q∈Mut g c,B≤q)(h:PA w D g d c s)(ok:Ah d s)(t:JB w f g a k b j i now)(u:f∉Mut g c)(n:∀ q,w.heap.size≤q→D q)(v:0≤now)(x:now≤4294967296)(r:i<s.procs.length)(l:Cz d s.mem.length ⟨a,k,b,data⟩)(p:A4 w (NM g c) j data)(z:a≠0)(A:a≠15):
  aV prog (Iy a) #[G (Z ⟨f,0,O⟩)] w fun e w'=>e=.returned (.bool (actA d i now ⟨a,k,b,data⟩ s).2)∧PA w' D g d c (actA d i now ⟨a,k,b,data⟩ s).1∧Upd (Mut g c) w w':=by
 have y:=l.kind;simp only at y;rcases(show a=1∨a=2∨a=3∨a=4∨a=5∨a=6∨a=7∨a=8∨a=9∨a=10∨a=11∨a=12∨a=13∨a=14∨a=16 by omega) with rfl|rfl|rfl|rfl|rfl|rfl|rfl|rfl|rfl|rfl|rfl|rfl|rfl|rfl|rfl
 ·exact Wq B w D g d c s k b data f j i now m o h ok t u n v x r l p
 ·exact Wy B w D g d c s k b data f j i now m o h ok t u n v x r l p
 ·exact Wz B w D g d c s k b data f j i now m o h ok t u n v x r l p
 ·exact W8 B w D g d c s k b data f j i now m o h ok t u n v x r l p
 ·exact WA B w D g d c s k b data f j i now m o h ok t u n v x r l p
 ·exact WB B w D g d c s k b data f j i now m o h ok t u n v x r l p
 ·exact WC B w D g d c s k b data f j i now m o h ok t u n v x r l p
 ·exact WD B w D g d c s k b data f j i now m o h ok t u n v x r l p
 ·exact WE B w D g d c s k b data f j i now m o h ok t u n v x r l p
 ·exact Wr B w D g d c s k b data f j i now m o h ok t u n v x r l p
 ·exact Ws B w D g d c s k b data f j i now m o h ok t u n v x r l p
 ·exact Wu B w D g d c s k b data f j i now m o h ok t u n v x r l p
 ·exact Wv B w D g d c s k b data f j i now m o h ok t u n v x r l p
 ·exact Ww B w D g d c s k b data f j i now m o h ok t u n v x r l p
 ·exact Wx B w D g d c s k b data f j i now m o h ok t u n v x r l p
def Ro(w:a2)(D:Nat→Prop)(g:Nat)(d:Ad)(c:Hd)(s:Ae)(a:Ac)(e:Ending)(w':a2):Prop:=
 ∃ f,e=.returned (.agg #[I U a.kind,I J a.a,I J a.b,f])∧Af U w' w.heap.size f a.data∧PA w' D g d c s∧Upd (Mut g c) w w'
end Go.Proofs.YtiepijihpgijbaaGreatDoor
