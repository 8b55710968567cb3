import Derived.Lib.SliceRun
import Derived.Test.YtiepijihpgijbaaGreatDoorQ3
set_option maxHeartbeats 8000000
set_option maxRecDepth 100000
set_option linter.all false
open Option renaming some→Z,none→O
open Go.Obj renaming cells→T
open Go.IntKind renaming u8→U,i64→J
open Go.Value renaming int→I,slice→Y,pointer→G
open List renaming setIfInBounds_toArray→eJ,set_cons_zero→eL,set_cons_succ→eM,not_mem_nil→eN,mem_cons→eQ,replicate→e9,mem_singleton→fd,getElem_mem→fg,drop_succ_cons→fj,drop_zero→fo,drop_nil→ft,length_replicate→fw,take_succ_eq_append_getElem→fA,eq_nil_of_length_eq_zero→fD,getElem?_eq_some_iff→fH,getElem?_eq_getElem→fI,getElem_replicate→fJ,flatMap_append→fL,flatMap_cons→fN,take_length→fP,flatMap_map→fQ,mem_map→fU
open Nat renaming le_of_eq→eK,le_refl→eU,le_trans→e8,lt_of_lt_of_le→fa,ne_of_lt→fi,zero_le→fu,mul_le_mul_right→fy,add_mul→fE
open Go renaming World→eO,bodyPost_ret→eP,heap_alloc_new→eS,Value→eZ,Calls→e7,results→fb,madeCells→fc,heap_setCell_same→ff,execOp→fl,size_madeCells→fz,info_parts→fB,TypeId→fC,Ending→fK,run_make→fR
open Go.RowKit.Below renaming refl→eR,heap_alloc→eX,heap_setCell→eY
open Go.Value.slice renaming injEq→eT
open Go.World renaming cell?_alloc_old→e5,setCell→fs,frozen?→fG
open Int renaming toNat_natCast→e6,eq_ofNat_of_zero_le→fn,le_refl→fF
open Go.IntKind renaming wrap_i64→fe
open Option.some renaming injEq→fh
open List.cons renaming injEq→fk
open Array.mk renaming injEq→fm
open Go.Addr.mk renaming injEq→fp
open Go.Value.agg renaming injEq→fq
open Go.Instr renaming makeSlice→fv,findNow→fS,field→fV
open Go.Lib renaming wpList_append_run→fx
open Go.RowKit renaming intOf→fM
open Go.Builtin renaming clear_→fO
open Go.Value renaming slice→fT
namespace Go.Proofs.YtiepijihpgijbaaGreatDoor
open Go.RowKit Tryz
def Dn{w:eO}{g:Nat}{a b c d e f:eZ}{i:fC}(h:w.heap[g]? =Z (T #[a,b,c,d,e,f] i (0,0))):w.cell? ⟨g,0,O⟩=Z a∧w.cell? ⟨g,1,O⟩=Z b∧w.cell? ⟨g,2,O⟩=Z c∧w.cell? ⟨g,3,O⟩=Z d∧w.cell? ⟨g,4,O⟩=Z e∧w.cell? ⟨g,5,O⟩=Z f:=
 ⟨by rw[Cr h];rfl,by rw[Cr h];rfl,by rw[Cr h];rfl,by rw[Cr h];rfl,by rw[Cr h];rfl,by rw[Cr h];rfl⟩
def Dp{w:eO}{g:Nat}{a b c:eZ}{d:fC}(h:w.heap[g]? =Z (T #[a,b,c] d (0,0))):w.cell? ⟨g,0,O⟩=Z a∧w.cell? ⟨g,1,O⟩=Z b∧w.cell? ⟨g,2,O⟩=Z c:=
 ⟨by rw[Cr h];rfl,by rw[Cr h];rfl,by rw[Cr h];rfl⟩
def QJ(nm:ByteArray)(k:Int)(o:Bool)(s d r a:Int)(b:Bool)(vq:eZ)(q:List Int)(w:eO)(c:Af U w 0 vq q)(i:q.length≤100000):
  e7 prog 53 #[.agg #[.string nm,I U k,.bool o,I J s,I J d,I J r],.agg #[vq,I J a,.bool b]] w fun e w'=>e=.returned (.bool (DZ ⟨k,o,s,d,r⟩ ⟨q,a,b⟩))∧Bl w w':=by
 have f:Hq (∀ W,Bl w W→e7 prog 96 #[.agg #[.string nm,I U k,.bool o,I J s,I J d,I J r,vq,I J a,.bool b]] W fun e w'=>e=.returned (.bool (DZ ⟨k,o,s,d,r⟩ ⟨q,a,b⟩))∧Bl W w'):=fun W g=>Zq nm k o s d r a b vq q W (c.below g) i;clear c;go_enter func53,ntmps53;go_wp2_with (go_at_call 96;refine(f.o _ (((eR _ _).alloc (eU _) _).alloc (by simp) _)).mono ?_;rintro e j ⟨rfl,h⟩);go_ret;exact⟨rfl,(((eR _ _).alloc (eU _) _).alloc (by simp) _).trans (h.mono (by simp;omega))⟩
def Kl(nm:ByteArray)(k:Int)(o:Bool)(s d r a:Int)(f:Bool)(vq:eZ)(q:List Int)(w:eO)(F:Af U w 0 vq q)(N:q.length≤100000)(now:Int):
  e7 prog 91 #[.agg #[.string nm,I U k,.bool o,I J s,I J d,I J r],.agg #[vq,I J a,.bool f],I J now] w fun e w'=>e=.returned (.bool (Ff ⟨k,o,s,d,r⟩ ⟨q,a,f⟩ now))∧Bl w w':=by
 generalize H:DZ ⟨k,o,s,d,r⟩ ⟨q,a,f⟩=K;have B:Hq (∀ W,Bl w W→e7 prog 53 #[.agg #[.string nm,I U k,.bool o,I J s,I J d,I J r],.agg #[vq,I J a,.bool f]] W fun e w'=>e=.returned (.bool K)∧Bl W w'):=fun W hb=>by
  have:=QJ nm k o s d r a f vq q W (F.below hb) N;rwa [H] at this
 have y:Hq (Ff ⟨k,o,s,d,r⟩ ⟨q,a,f⟩ now=(K && A5 a 1073741824 now)):=by
  show Ff ⟨k,o,s,d,r⟩ ⟨q,a,f⟩ now=_;unfold Ff;rw[H];rfl
 obtain⟨L,M,rfl,af,ag,ah⟩:=F.open_;clear af ag ah F H N;obtain⟨l,m⟩:=ex ((w.alloc (T #[.string nm,I U k,.bool o,I J s,I J d,I J r] 62)).alloc (T #[Y L q.length M,I J a,.bool f] 114));have b:Hq (Bl w l):=by subst m;exact(((eR _ w).alloc (eU _) _).alloc (by simp) _)
 have i:Hq (l.heap[w.heap.size+1]? =Z (T #[Y L q.length M,I J a,.bool f] 114 (0,0))):=by
  subst m;exact HH (GF w _ _)
 have E:=Aa i.o;have D:Hq (l.heap[w.heap.size]? =Z (T #[.string nm,I U k,.bool o,I J s,I J d,I J r] 62 (0,0))):=by
  subst m;exact(eX _ _ _ (by simp)).trans (eS w _)
 have j:=HH m;clear m;cases K with
 |false=>
  go_enter func91,ntmps91;go_upto_region 1 with (fail);rw[←j.o];clear j;obtain⟨P,Q,R,S,V,X⟩:=Dn D.o;obtain⟨s0,s1,s2⟩:=Dp i.o;go_wp2_with (go_at_call 53;refine(B.o l b.o).mono ?_;rintro e u ⟨rfl,c⟩;have h:=HH c;have g:=(c.block _ E).trans i.o;have c1:u.cell? ⟨w.heap.size+1,1,O⟩=Z (I J a):=Cr g;clear c g);go_ret;exact⟨A8 (by rw[y.o];rfl),b.o.trans (h.o.mono b.o.size)⟩
 |true=>
  cases v:A5 a 1073741824 now with
  |false=>
   have x:=HH v;go_enter func91,ntmps91;go_upto_region 1 with (fail);rw[←j.o];clear j;obtain⟨P,Q,R,S,V,X⟩:=Dn D.o;obtain⟨s0,s1,s2⟩:=Dp i.o;go_wp2_with (first|(go_at_call 53;refine(B.o l b.o).mono ?_;rintro e u ⟨rfl,c⟩;have h:=HH c;have g:=(c.block _ E).trans i.o;have c1:u.cell? ⟨w.heap.size+1,1,O⟩=Z (I J a):=Cr g;clear c g)|(go_at_call 128;refine(G7 _ _ _).mono ?_;rintro e w3 ⟨a3,b3,rfl,p,n,t⟩;have A:=HH p;have z:=HH n;have C:=HH t;clear p n t)|(go_at_call 166;refine(Et _ _ _ _ _ _ v (by exact z.o.cell) (by exact C.o.cell)).mono ?_;rintro e w4 ⟨rfl,rfl⟩));go_ret;exact⟨A8 (by rw[y.o,x.o];rfl),(b.o.trans (h.o.mono b.o.size)).trans (A.o.mono (b.o.trans (h.o.mono b.o.size)).size)⟩
  |true=>
   have x:=HH v;go_enter func91,ntmps91;go_upto_region 1 with (fail);rw[←j.o];clear j;obtain⟨P,Q,R,S,V,X⟩:=Dn D.o;obtain⟨s0,s1,s2⟩:=Dp i.o;go_wp2_with (first|(go_at_call 53;refine(B.o l b.o).mono ?_;rintro e u ⟨rfl,c⟩;have h:=HH c;have g:=(c.block _ E).trans i.o;have c1:u.cell? ⟨w.heap.size+1,1,O⟩=Z (I J a):=Cr g;clear c g)|(go_at_call 128;refine(G7 _ _ _).mono ?_;rintro e w3 ⟨a3,b3,rfl,p,n,t⟩;have A:=HH p;have z:=HH n;have C:=HH t;clear p n t)|(go_at_call 166;refine(Et _ _ _ _ _ _ v (by exact z.o.cell) (by exact C.o.cell)).mono ?_;rintro e w4 ⟨rfl,rfl⟩));go_ret;exact⟨A8 (by rw[y.o,x.o];rfl),(b.o.trans (h.o.mono b.o.size)).trans (A.o.mono (b.o.trans (h.o.mono b.o.size)).size)⟩
def LI(w:eO)(x:Ee)(e:fK)(w':eO):Prop:=∃ v,e=.returned (.agg #[v,I J x.at_,.bool x.has])∧AA w' w.heap.size v x.data∧Bl w w'
def PE(g:Int)(h:Bool)(vq:eZ)(q:List Int)(w:eO)(m:Af U w 0 vq q)(F:q.length≤100000):
  e7 prog 92 #[.agg #[vq,I J g,.bool h]] w (LI w ⟨q,g,h⟩):=by
 obtain⟨j,k,rfl,_,_,_⟩:=m.open_;obtain⟨a,d⟩:=ex ((w.alloc (T #[Y j q.length k,I J g,.bool h] 114)).alloc (T #[Y O 0 0,I J 0,.bool false] 114));have i:Hq (Bl w a):=by subst d;exact((eR _ w).alloc (eU _) _).alloc (by simp) _
 have f:Hq (a.heap[w.heap.size]? =Z (T #[Y j q.length k,I J g,.bool h] 114 (0,0))):=by subst d;exact(eX _ _ _ (by simp)).trans (eS w _)
 have c:Hq (a.heap[w.heap.size+1]? =Z (T #[Y O 0 0,I J 0,.bool false] 114 (0,0))):=by
  subst d;exact GF w _ _
 have n:=HH (Gj _ q a (m.below i.o) (by omega));have t:a.heap.size=w.heap.size+2:=by subst d;simp
 obtain⟨z,r⟩:=H2 t d;have E:a.cell? ⟨w.heap.size,0,O⟩=Z (Y j q.length k):=by rw[Cr f.o];rfl
 clear m d t;go_enter func92,ntmps92;go_upto_region 1 with (fail);rw[←r.o];go_wp2_with fail;refine n.o.mono ?_;rintro e u ⟨M,rfl,l,b⟩;obtain⟨s,c2,rfl⟩:=Bq l;have y:Hq (AA u a.heap.size (Y s q.length c2) q):=Ty.Bw l;obtain⟨A,B,x⟩:=H3 (Tag.of ((b.block _ (Aa f.o)).trans f.o)) (Tag.of ((b.block _ (Aa c.o)).trans c.o)) (i.o.trans (b.mono i.o.size));obtain⟨N,P,Q,R,S,V⟩:=Aj ((b.block _ (Aa f.o)).trans f.o);obtain⟨C,D,r2,r3,r4,r5⟩:=Aj ((b.block _ (Aa c.o)).trans c.o);have H:=Aa ((b.block _ (Aa c.o)).trans c.o);have K:w.heap.size<u.heap.size:=by omega
 clear l b n r E;go_wp2_with fail;refine eP (v:=.agg #[Y s q.length c2,I J g,.bool h]) (by simp[fb,results92,go_sem,C,D,r2]) rfl ?_;have L:=z.o;refine⟨_,rfl,?_,?_⟩
 ·exact Ty.mono (Ty.set3 (Ty.Kp y.o A.o (by decide)) B.o.set (by decide) _ _ _) (by omega)
 ·exact(((x.o.setCell (p:=⟨w.heap.size,0,O⟩) (by show _≤w.heap.size;omega) _).setCell (p:=⟨w.heap.size+1,0,O⟩) (by show _≤w.heap.size+1;omega) _).setCell (p:=⟨w.heap.size+1,1,O⟩) (by show _≤w.heap.size+1;omega) _).setCell (p:=⟨w.heap.size+1,2,O⟩) (by show _≤w.heap.size+1;omega) _
def FM(k:CV)(x:Ee)(now:Int):Int×Int:=if Ff k x now=false then(0,2) else if x.has=false then(0,6) else(now-x.at_,0)
def LR(nm:ByteArray)(k:Int)(o:Bool)(s d r a:Int)(c:Bool)(vq:eZ)(q:List Int)(w:eO)(z:Af U w 0 vq q)(F:q.length≤100000)(now:Int)(ac:0≤a)(ad:a≤1073741824)(ae:0≤now)(af:now≤4294967296):
  e7 prog 150 #[.agg #[.string nm,I U k,.bool o,I J s,I J d,I J r],.agg #[vq,I J a,.bool c],I J now] w fun e w'=>e=.returned (.tuple #[I J (FM ⟨k,o,s,d,r⟩ ⟨q,a,c⟩ now).1,I J (FM ⟨k,o,s,d,r⟩ ⟨q,a,c⟩ now).2])∧Bl w w':=by
 generalize A:Ff ⟨k,o,s,d,r⟩ ⟨q,a,c⟩ now=B;have u:Hq (∀ W,Bl w W→e7 prog 91 #[.agg #[.string nm,I U k,.bool o,I J s,I J d,I J r],.agg #[vq,I J a,.bool c],I J now] W fun e w'=>e=.returned (.bool B)∧Bl W w'):=fun W V=>by
  have:=Kl nm k o s d r a c vq q W (z.below V) F now;rwa [A] at this
 have t:Hq (FM ⟨k,o,s,d,r⟩ ⟨q,a,c⟩ now=if B=false then(0,2) else if c=false then(0,6) else(now-a,0)):=by
  show FM ⟨k,o,s,d,r⟩ ⟨q,a,c⟩ now=_;unfold FM;rw[A]
 obtain⟨C,E,rfl,X,aa,ab⟩:=z.open_;clear X aa ab;obtain⟨m,p⟩:=ex ((w.alloc (T #[.string nm,I U k,.bool o,I J s,I J d,I J r] 62)).alloc (T #[Y C q.length E,I J a,.bool c] 114));have f:Hq (Bl w m):=by subst p;exact(((eR _ w).alloc (eU _) _).alloc (by simp) _)
 have j:Hq (m.heap[w.heap.size+1]? =Z (T #[Y C q.length E,I J a,.bool c] 114 (0,0))):=by
  subst p;exact HH (GF w _ _)
 have x:=Aa j.o;have i:Hq (m.heap[w.heap.size]? =Z (T #[.string nm,I U k,.bool o,I J s,I J d,I J r] 62 (0,0))):=by
  subst p;exact(eX _ _ _ (by simp)).trans (eS w _)
 have y:=Aa i.o;have l:=HH p;clear p;clear z A F;cases B with
 |false=>
  go_enter func150,ntmps150;go_upto_region 1 with (fail);rw[←l.o];clear l;obtain⟨H,K,L,M,N,P⟩:=Dn i.o;obtain⟨s0,Q,R⟩:=Dp j.o;go_wp2_with (go_at_call 91;refine(u.o m f.o).mono ?_;rintro e S ⟨rfl,b⟩;have n:=HH b;have h:=(b.block _ x).trans j.o;have g:=(b.block _ y).trans i.o;obtain⟨D,c1,c2⟩:=Dp h;obtain⟨d0,d1,d2,d3,d4,d5⟩:=Dn g;clear b h g);refine eP (v:=.tuple #[I J 0,I J 2]) (by simp[fb,results150,go_sem]) rfl ?_;rw[t.o];exact⟨rfl,f.o.trans (n.o.mono f.o.size)⟩
 |true=>
  cases c with
  |false=>
   go_enter func150,ntmps150;go_upto_region 1 with (fail);rw[←l.o];clear l;obtain⟨H,K,L,M,N,P⟩:=Dn i.o;obtain⟨s0,Q,R⟩:=Dp j.o;go_wp2_with (go_at_call 91;refine(u.o m f.o).mono ?_;rintro e S ⟨rfl,b⟩;have n:=HH b;have h:=(b.block _ x).trans j.o;have g:=(b.block _ y).trans i.o;obtain⟨D,c1,c2⟩:=Dp h;obtain⟨d0,d1,d2,d3,d4,d5⟩:=Dn g;clear b h g);refine eP (v:=.tuple #[I J 0,I J 6]) (by simp[fb,results150,go_sem]) rfl ?_;rw[t.o];exact⟨rfl,f.o.trans (n.o.mono f.o.size)⟩
  |true=>
   go_enter func150,ntmps150;go_upto_region 1 with (fail);rw[←l.o];clear l;obtain⟨H,K,L,M,N,P⟩:=Dn i.o;obtain⟨s0,Q,R⟩:=Dp j.o;go_wp2_with (go_at_call 91;refine(u.o m f.o).mono ?_;rintro e S ⟨rfl,b⟩;have n:=HH b;have h:=(b.block _ x).trans j.o;have g:=(b.block _ y).trans i.o;obtain⟨D,c1,c2⟩:=Dp h;obtain⟨d0,d1,d2,d3,d4,d5⟩:=Dn g;clear b h g);refine eP (v:=.tuple #[I J (now-a),I J 0]) (by simp[fb,results150,go_sem]) rfl ?_;rw[t.o];exact⟨rfl,f.o.trans (n.o.mono f.o.size)⟩
def T5:EG 92:=fun _ _=>by kernel_rfl
def Ut(a:Option Addr)(n c:Nat)(x:Int)(b:Bool)(w:eO):(fV 114 (.agg #[Y a n c,I J x,.bool b]) 0).run prog w=.ok (Y a n c) w:=by
 simp[fV,asAgg,go_sem]
def Yr(nm:ByteArray)(k:Int)(o:Bool)(s d r a:Int)(b:Bool)(vq:eZ)(q:List Int)(w:eO)(X:Af U w 0 vq q)(x:q.length≤100000)(now:Int)(P:0≤a)(Q:a≤1073741824)(aa:0≤now)(ab:now≤4294967296):
  e7 prog 117 #[.agg #[.string nm,I U k,.bool o,I J s,I J d,I J r],.agg #[vq,I J a,.bool b],I J now] w fun e w'=>∃ v,e=.returned (.tuple #[v,.bool (DN ⟨k,o,s,d,r⟩ ⟨q,a,b⟩ now).2.1,I J (DN ⟨k,o,s,d,r⟩ ⟨q,a,b⟩ now).2.2])∧AA w' w.heap.size v (DN ⟨k,o,s,d,r⟩ ⟨q,a,b⟩ now).1∧Bl w w':=by
 obtain⟨p,t,rfl,aD,aE,aG⟩:=X.open_;clear aD aE aG;obtain⟨z,E⟩:=ex ((w.alloc (T #[.string nm,I U k,.bool o,I J s,I J d,I J r] 62)).alloc (T #[Y p q.length t,I J a,.bool b] 114));have i:Hq (Bl w z):=by subst E;exact(((eR _ w).alloc (eU _) _).alloc (by simp) _)
 have n:Hq (z.heap[w.heap.size+1]? =Z (T #[Y p q.length t,I J a,.bool b] 114 (0,0))):=by
  subst E;exact HH (GF w _ _)
 have S:=Aa n.o;have m:Hq (z.heap[w.heap.size]? =Z (T #[.string nm,I U k,.bool o,I J s,I J d,I J r] 62 (0,0))):=by
  subst E;exact(eX _ _ _ (by simp)).trans (eS w _)
 have V:=Aa m.o;have y:=HH E;clear E;have D:=HH X;clear X;by_cases ac:DN ⟨k,o,s,d,r⟩ ⟨q,a,b⟩ now=([],false,2)∧Ff ⟨k,o,s,d,r⟩ ⟨q,a,b⟩ now=false
 ·obtain⟨av,j⟩:=ac;have A:=HH av;have C:Hq (∀ W,Bl w W→e7 prog 150 #[.agg #[.string nm,I U k,.bool o,I J s,I J d,I J r],.agg #[Y p q.length t,I J a,.bool b],I J now] W fun e w'=>e=.returned (.tuple #[I J 0,I J 2])∧Bl W w'):=fun W c=>by
   have:=LR nm k o s d r a b _ q W (D.o.below c) x now P Q aa ab;have F:FM ⟨k,o,s,d,r⟩ ⟨q,a,b⟩ now=(0,2):=by unfold FM;rw[j];rfl
   rw[F] at this;exact this
  clear av j x;go_enter func117,ntmps117;go_upto_region 1 with (fail);rw[←y.o];clear y;obtain⟨p0,p1,p2,p3,p4,p5⟩:=Dn m.o;obtain⟨s0,s1,s2⟩:=Dp n.o;go_wp2_with (go_at_call 150;refine(C.o z i.o).mono ?_;rintro e H ⟨rfl,g⟩;have B:=HH g;have M:=HH ((g.block _ S).trans n.o);have L:=HH ((g.block _ V).trans m.o);clear g);refine eP (v:=.tuple #[Y O 0 0,.bool false,I J 2]) (by simp[fb,results117,go_sem]) rfl ?_;rw[A.o];exact⟨_,rfl,Ty.nil _ _ _ _,i.o.trans (B.o.mono i.o.size)⟩
 have j:Ff ⟨k,o,s,d,r⟩ ⟨q,a,b⟩ now=true:=by
  cases h:Ff ⟨k,o,s,d,r⟩ ⟨q,a,b⟩ now with
  |true=>rfl
  |false=>exact absurd ⟨by unfold DN;rw[h];rfl,h⟩ ac
 clear ac;cases b with
 |false=>
  have A:Hq (DN ⟨k,o,s,d,r⟩ ⟨q,a,false⟩ now=([],false,6)):=by show DN ⟨k,o,s,d,r⟩ ⟨q,a,false⟩ now=_;unfold DN;rw[j];rfl
  have C:Hq (∀ W,Bl w W→e7 prog 150 #[.agg #[.string nm,I U k,.bool o,I J s,I J d,I J r],.agg #[Y p q.length t,I J a,.bool false],I J now] W fun e w'=>e=.returned (.tuple #[I J 0,I J 6])∧Bl W w'):=fun W c=>by
   have:=LR nm k o s d r a false _ q W (D.o.below c) x now P Q aa ab;have F:FM ⟨k,o,s,d,r⟩ ⟨q,a,false⟩ now=(0,6):=by unfold FM;rw[j];rfl
   rw[F] at this;exact this
  clear j x;go_enter func117,ntmps117;go_upto_region 1 with (fail);rw[←y.o];clear y;obtain⟨p0,p1,p2,p3,p4,p5⟩:=Dn m.o;obtain⟨s0,s1,s2⟩:=Dp n.o;go_wp2_with (go_at_call 150;refine(C.o z i.o).mono ?_;rintro e H ⟨rfl,g⟩;have B:=HH g;have M:=HH ((g.block _ S).trans n.o);have L:=HH ((g.block _ V).trans m.o);clear g);refine eP (v:=.tuple #[Y O 0 0,.bool false,I J 6]) (by simp[fb,results117,go_sem]) rfl ?_;rw[A.o];exact⟨_,rfl,Ty.nil _ _ _ _,i.o.trans (B.o.mono i.o.size)⟩
 |true=>
  have A:Hq (DN ⟨k,o,s,d,r⟩ ⟨q,a,true⟩ now=(q,decide (now-a≤r),0)):=by show DN ⟨k,o,s,d,r⟩ ⟨q,a,true⟩ now=_;unfold DN;rw[j];rfl
  have az:Hq (∀ W,Bl w W→e7 prog 92 #[.agg #[Y p q.length t,I J a,.bool true]] W (LI W ⟨q,a,true⟩)):=fun W c=>PE a true _ q W (D.o.below c) x;have C:Hq (∀ W,Bl w W→e7 prog 150 #[.agg #[.string nm,I U k,.bool o,I J s,I J d,I J r],.agg #[Y p q.length t,I J a,.bool true],I J now] W fun e w'=>e=.returned (.tuple #[I J (now-a),I J 0])∧Bl W w'):=fun W c=>by
   have:=LR nm k o s d r a true _ q W (D.o.below c) x now P Q aa ab;have F:FM ⟨k,o,s,d,r⟩ ⟨q,a,true⟩ now=((now-a),0):=by unfold FM;rw[j];rfl
   rw[F] at this;exact this
  clear j x D;go_enter func117,ntmps117;go_upto_region 1 with (fail);rw[←y.o];clear y;obtain⟨p0,p1,p2,p3,p4,p5⟩:=Dn m.o;obtain⟨s0,s1,s2⟩:=Dp n.o;go_wp2_with (go_at_call 150;refine(C.o z i.o).mono ?_;rintro e H ⟨rfl,g⟩;have B:=HH g;have M:=HH ((g.block _ S).trans n.o);have L:=HH ((g.block _ V).trans m.o);clear g);have R:=Aa M.o;have aF:=Aa L.o;obtain⟨c0,c1,c2⟩:=Dp M.o;obtain⟨d0,d1,d2,d3,d4,d5⟩:=Dn L.o;have q0:=qC c0 R;have q1:=qC c1 R;have q2:=qC c2 R;have q5:=qC d5 aF;have N:Hq (Bl w H):=i.o.trans (B.o.mono i.o.size);have ad:w.heap.size≤H.heap.size:=N.o.size;clear c0 c1 c2 d0 d1 d2 d3 d4 d5 p0 p1 p2 p3 p4 p5 s0 s1 s2;refine BQ 10 [(1,fun v w'=>∃ l c2,v=.agg #[Y l q.length c2,I J a,.bool true]∧AA w' w.heap.size (Y l q.length c2) q)] ⟨(fun v w1 H ⟨l,c2,e,h⟩ c=>⟨l,c2,e,Ty.below h c⟩),trivial⟩ ?_
  iterate 1 (refine AK rfl ?_;intro K hK;go_big_quiet_op;go_big_quiet_on)
  refine Ca rfl (fun w' c hA=>?_) ?_
  ·refine AD (f:=92) (al:=[.agg #[Y p q.length t,I J a,.bool true]]) rfl rfl rfl T5 ?_;exact(az.o w' (N.o.trans (c.mono ad))).mono fun e w3 h=>by
    obtain⟨u,he,hf,aA⟩:=h;obtain⟨l,c2,rfl,_⟩:=Ty.shape hf;exact⟨_,he,aA,_,_,rfl,Ty.mono hf (e8 ad c.size)⟩
  intro v w' c hv;obtain⟨l,c2,rfl,aC⟩:=hv;clear c aC w';have aL:=Ut l q.length c2 a true;simp only[Au,eJ,eM,eL]
  iterate 8 (refine AK rfl ?_;intro K hK;go_big_quiet_op;go_big_quiet_on)
  refine BN ?_;intro w9 ap aw;simp only[fj,fo,ft];have aH:=aw 1 _ (by decide) rfl;obtain⟨a3,c3,e3,au⟩:=aH;simp only[fq,fm,fk,eT,true_and,and_true] at e3;obtain⟨rfl,rfl⟩:=e3;obtain⟨ay,ax⟩:=H2 au (N.o.trans (ap.mono ad));clear au ap aw;go_wp2_with fail;refine eP (v:=.tuple #[Y l q.length c2,.bool (decide (now-a≤r)),I J 0]) (by simp[fb,results117,go_sem]) rfl ?_;rw[A.o];exact⟨_,rfl,ay.o,ax.o⟩
def QR(nm:ByteArray)(k:Int)(o:Bool)(s d r a:Int)(b:Bool)(vq:eZ)(q:List Int)(w:eO)(hq:Af U w 0 vq q)(F:q.length≤100000)(now:Int)(vm:eZ)(m:List Int)(hm:Af U w 0 vm m)(ai:m.length≤100000):
  e7 prog 48 #[.agg #[.string nm,I U k,.bool o,I J s,I J d,I J r],.agg #[vq,I J a,.bool b],I J now,vm] w fun e w'=>∃ v,e=.returned (.tuple #[.agg #[v,I J (writeSa ⟨k,o,s,d,r⟩ ⟨q,a,b⟩ now m).1.at_,.bool (writeSa ⟨k,o,s,d,r⟩ ⟨q,a,b⟩ now m).1.has],I J (writeSa ⟨k,o,s,d,r⟩ ⟨q,a,b⟩ now m).2])∧AA w' w.heap.size v (writeSa ⟨k,o,s,d,r⟩ ⟨q,a,b⟩ now m).1.data∧Bl w w':=by
 obtain⟨L,M,rfl,ap,ar,av⟩:=hq.open_;clear ap ar av;obtain⟨am,cm,rfl,ap,ar,av⟩:=hm.open_;clear ap ar av;obtain⟨K,aa⟩:=ex (((w.alloc (T #[.string nm,I U k,.bool o,I J s,I J d,I J r] 62)).alloc (T #[Y L q.length M,I J a,.bool b] 114)).alloc (T #[Y O 0 0,I J 0,.bool false] 114));have l:Hq (Bl w K):=by subst aa;exact(((eR _ w).alloc (eU _) _).alloc (by simp) _).alloc (by simp;omega) _
 have E:Hq (K.heap[w.heap.size+1]? =Z (T #[Y L q.length M,I J a,.bool b] 114 (0,0))):=by
  subst aa;exact(eX _ _ _ (by simp)).trans (GF w _ _)
 have af:=Aa E.o;have C:Hq (K.heap[w.heap.size]? =Z (T #[.string nm,I U k,.bool o,I J s,I J d,I J r] 62 (0,0))):=by
  subst aa;exact(eX _ _ _ (by simp;omega)).trans ((eX _ _ _ (by simp)).trans (eS w _))
 have ag:=Aa C.o;have HR:Hq (K.heap[w.heap.size+1+1]? =Z (T #[Y O 0 0,I J 0,.bool false] 114 (0,0))):=by
  subst aa;have h2:=GF (w.alloc (T #[.string nm,I U k,.bool o,I J s,I J d,I J r] 62)) (T #[Y L q.length M,I J a,.bool b] 114) (T #[Y O 0 0,I J 0,.bool false] 114);have hz:(w.alloc (T #[.string nm,I U k,.bool o,I J s,I J d,I J r] 62)).heap.size=w.heap.size+1:=by simp
  rw[hz] at h2;exact HH h2
 have ah:=Aa HR.o;obtain⟨H,D,HM⟩:=H3 aa hq hm;have ak:Hq (∀ W,Bl w W→e7 prog 92 #[.agg #[Y L q.length M,I J a,.bool b]] W (LI W ⟨q,a,b⟩)):=fun W z=>PE a b _ q W (D.o.below z) F;have aI:Hq (∀ W,Bl w W→e7 prog 27 #[Y am m.length cm] W (LB W m)):=fun W z=>Gj _ m W (HM.o.below z) (by omega);clear aa hq hm;cases t:Ff ⟨k,o,s,d,r⟩ ⟨q,a,b⟩ now with
 |false=>
  have Q:Hq (∀ W,Bl w W→e7 prog 91 #[.agg #[.string nm,I U k,.bool o,I J s,I J d,I J r],.agg #[Y L q.length M,I J a,.bool b],I J now] W fun e w'=>e=.returned (.bool false)∧Bl W w'):=fun W z=>by
   have:=Kl nm k o s d r a b _ q W (D.o.below z) F now;rwa [t] at this
  have N:Hq (writeSa ⟨k,o,s,d,r⟩ ⟨q,a,b⟩ now m=(⟨q,a,b⟩,2)):=by
   show writeSa ⟨k,o,s,d,r⟩ ⟨q,a,b⟩ now m=_;unfold writeSa;rw[t];rfl
  clear t F D HM ai;go_enter func48,ntmps48;go_upto_region 1 with (fail);rw[←H.o];clear H;obtain⟨p0,p1,p2,p3,p4,p5⟩:=Dn C.o;obtain⟨s0,s1,s2⟩:=Dp E.o;go_wp2_with (first|(go_at_call 91;refine(Q.o K l.o).mono ?_;rintro e u ⟨rfl,c⟩;have f:Hq (Bl w u):=l.o.trans (c.mono l.o.size);have B:=(c.block _ af).trans E.o;have A:=(c.block _ ag).trans C.o;have y:=HH ((c.block _ ah).trans HR.o);obtain⟨c0,c1,c2⟩:=Dp B;obtain⟨d0,d1,d2,d3,d4,d5⟩:=Dn A;clear c B A)|(go_at_call 92;refine(ak.o u f.o).mono ?_;rintro e x ⟨v3,rfl,j,g⟩;obtain⟨n,c3,rfl⟩:=Ty.shape j;have P:Hq (Bl w x):=f.o.trans (g.mono f.o.size);have i:=(g.block _ (Aa y.o)).trans y.o;have S:=HH (Tag.of i);obtain⟨V,X,r2,r3,r4,r5⟩:=Aj i;have R:Hq (AA x w.heap.size (Y n q.length c3) q):=Ty.mono j f.o.size;clear g i j));refine eP (v:=.tuple #[.agg #[Y n q.length c3,I J a,.bool b],I J 2]) (by simp[fb,results48,go_sem,V,X,r2]) rfl ?_;rw[N.o];refine⟨_,rfl,Ty.set3 R.o S.o (by decide) _ _ _,?_⟩;exact((P.o.setCell (p:=⟨w.heap.size+1+1,0,O⟩) (by show _≤w.heap.size+1+1;omega) _).setCell (p:=⟨w.heap.size+1+1,1,O⟩) (by show _≤w.heap.size+1+1;omega) _).setCell (p:=⟨w.heap.size+1+1,2,O⟩) (by show _≤w.heap.size+1+1;omega) _
 |true=>
  by_cases ab:m=[]
  ·have g0:((m.length:Int)==0)=true:=by simp[ab]
   have M0:=HH ab;clear ab;have Q:Hq (∀ W,Bl w W→e7 prog 91 #[.agg #[.string nm,I U k,.bool o,I J s,I J d,I J r],.agg #[Y L q.length M,I J a,.bool b],I J now] W fun e w'=>e=.returned (.bool true)∧Bl W w'):=fun W z=>by
    have:=Kl nm k o s d r a b _ q W (D.o.below z) F now;rwa [t] at this
   have N:Hq (writeSa ⟨k,o,s,d,r⟩ ⟨q,a,b⟩ now m=(⟨q,a,b⟩,2)):=by
    show writeSa ⟨k,o,s,d,r⟩ ⟨q,a,b⟩ now m=_;unfold writeSa;rw[t];rw[if_pos (Or.inr M0.o)]
   clear t F D HM ai;go_enter func48,ntmps48;go_upto_region 1 with (fail);rw[←H.o];clear H;obtain⟨p0,p1,p2,p3,p4,p5⟩:=Dn C.o;obtain⟨s0,s1,s2⟩:=Dp E.o;go_wp2_with (first|(go_at_call 91;refine(Q.o K l.o).mono ?_;rintro e u ⟨rfl,c⟩;have f:Hq (Bl w u):=l.o.trans (c.mono l.o.size);have B:=(c.block _ af).trans E.o;have A:=(c.block _ ag).trans C.o;have y:=HH ((c.block _ ah).trans HR.o);obtain⟨c0,c1,c2⟩:=Dp B;obtain⟨d0,d1,d2,d3,d4,d5⟩:=Dn A;clear c B A)|(go_at_call 92;refine(ak.o u f.o).mono ?_;rintro e x ⟨v3,rfl,j,g⟩;obtain⟨n,c3,rfl⟩:=Ty.shape j;have P:Hq (Bl w x):=f.o.trans (g.mono f.o.size);have i:=(g.block _ (Aa y.o)).trans y.o;have S:=HH (Tag.of i);obtain⟨V,X,r2,r3,r4,r5⟩:=Aj i;have R:Hq (AA x w.heap.size (Y n q.length c3) q):=Ty.mono j f.o.size;clear g i j));refine eP (v:=.tuple #[.agg #[Y n q.length c3,I J a,.bool b],I J 2]) (by simp[fb,results48,go_sem,V,X,r2]) rfl ?_;rw[N.o];refine⟨_,rfl,Ty.set3 R.o S.o (by decide) _ _ _,?_⟩;exact((P.o.setCell (p:=⟨w.heap.size+1+1,0,O⟩) (by show _≤w.heap.size+1+1;omega) _).setCell (p:=⟨w.heap.size+1+1,1,O⟩) (by show _≤w.heap.size+1+1;omega) _).setCell (p:=⟨w.heap.size+1+1,2,O⟩) (by show _≤w.heap.size+1+1;omega) _
  ·have g0:((m.length:Int)==0)=false:=by
    have:m.length≠0:=fun h=>ab (fD h);simp[this]
   have M0:Hq (¬(true=false∨m=[])):=HH (by simp[ab]);clear ab;by_cases hs:s<(m.length:Int)
   ·have gs:=decide_eq_true hs;have S0:=HH hs;have Q:Hq (∀ W,Bl w W→e7 prog 91 #[.agg #[.string nm,I U k,.bool o,I J s,I J d,I J r],.agg #[Y L q.length M,I J a,.bool b],I J now] W fun e w'=>e=.returned (.bool true)∧Bl W w'):=fun W z=>by
     have:=Kl nm k o s d r a b _ q W (D.o.below z) F now;rwa [t] at this
    have N:Hq (writeSa ⟨k,o,s,d,r⟩ ⟨q,a,b⟩ now m=(⟨q,a,b⟩,3)):=by
     show writeSa ⟨k,o,s,d,r⟩ ⟨q,a,b⟩ now m=_;unfold writeSa;rw[t];rw[if_neg M0.o,if_pos S0.o]
    clear t F D HM ai;go_enter func48,ntmps48;go_upto_region 1 with (fail);rw[←H.o];clear H;obtain⟨p0,p1,p2,p3,p4,p5⟩:=Dn C.o;obtain⟨s0,s1,s2⟩:=Dp E.o;go_wp2_with (first|(go_at_call 91;refine(Q.o K l.o).mono ?_;rintro e u ⟨rfl,c⟩;have f:Hq (Bl w u):=l.o.trans (c.mono l.o.size);have B:=(c.block _ af).trans E.o;have A:=(c.block _ ag).trans C.o;have y:=HH ((c.block _ ah).trans HR.o);obtain⟨c0,c1,c2⟩:=Dp B;obtain⟨d0,d1,d2,d3,d4,d5⟩:=Dn A;clear c B A)|(go_at_call 92;refine(ak.o u f.o).mono ?_;rintro e x ⟨v3,rfl,j,g⟩;obtain⟨n,c3,rfl⟩:=Ty.shape j;have P:Hq (Bl w x):=f.o.trans (g.mono f.o.size);have i:=(g.block _ (Aa y.o)).trans y.o;have S:=HH (Tag.of i);obtain⟨V,X,r2,r3,r4,r5⟩:=Aj i;have R:Hq (AA x w.heap.size (Y n q.length c3) q):=Ty.mono j f.o.size;clear g i j));refine eP (v:=.tuple #[.agg #[Y n q.length c3,I J a,.bool b],I J 3]) (by simp[fb,results48,go_sem,V,X,r2]) rfl ?_;rw[N.o];refine⟨_,rfl,Ty.set3 R.o S.o (by decide) _ _ _,?_⟩;exact((P.o.setCell (p:=⟨w.heap.size+1+1,0,O⟩) (by show _≤w.heap.size+1+1;omega) _).setCell (p:=⟨w.heap.size+1+1,1,O⟩) (by show _≤w.heap.size+1+1;omega) _).setCell (p:=⟨w.heap.size+1+1,2,O⟩) (by show _≤w.heap.size+1+1;omega) _
   ·have gs:=decide_eq_false hs;have S0:=HH hs;have Q:Hq (∀ W,Bl w W→e7 prog 91 #[.agg #[.string nm,I U k,.bool o,I J s,I J d,I J r],.agg #[Y L q.length M,I J a,.bool b],I J now] W fun e w'=>e=.returned (.bool true)∧Bl W w'):=fun W z=>by
     have:=Kl nm k o s d r a b _ q W (D.o.below z) F now;rwa [t] at this
    have N:Hq (writeSa ⟨k,o,s,d,r⟩ ⟨q,a,b⟩ now m=(⟨m,now,true⟩,0)):=by
     show writeSa ⟨k,o,s,d,r⟩ ⟨q,a,b⟩ now m=_;unfold writeSa;rw[t];rw[if_neg M0.o,if_neg S0.o]
    clear t F D HM ai;go_enter func48,ntmps48;go_upto_region 1 with (fail);rw[←H.o];clear H;obtain⟨p0,p1,p2,p3,p4,p5⟩:=Dn C.o;obtain⟨s0,s1,s2⟩:=Dp E.o;go_wp2_with (first|(go_at_call 91;refine(Q.o K l.o).mono ?_;rintro e u ⟨rfl,c⟩;have f:Hq (Bl w u):=l.o.trans (c.mono l.o.size);have B:=(c.block _ af).trans E.o;have A:=(c.block _ ag).trans C.o;have y:=HH ((c.block _ ah).trans HR.o);obtain⟨c0,c1,c2⟩:=Dp B;obtain⟨d0,d1,d2,d3,d4,d5⟩:=Dn A;clear c B A)|(go_at_call 27;refine(aI.o u f.o).mono ?_;rintro e x ⟨v3,rfl,au,g⟩;obtain⟨n,c3,rfl⟩:=Bq au;have j:AA x u.heap.size (Y n m.length c3) m:=Ty.Bw au;clear au;have P:Hq (Bl w x):=f.o.trans (g.mono f.o.size);have i:=(g.block _ (Aa y.o)).trans y.o;have S:=HH (Tag.of i);obtain⟨V,X,r2,r3,r4,r5⟩:=Aj i;have R:Hq (AA x w.heap.size (Y n m.length c3) m):=Ty.mono j f.o.size;clear g i j));refine eP (v:=.tuple #[.agg #[Y n m.length c3,I J now,.bool true],I J 0]) (by simp[fb,results48,go_sem,V,X,r2]) rfl ?_;rw[N.o];refine⟨_,rfl,Ty.set3 R.o S.o (by decide) _ _ _,?_⟩;exact((P.o.setCell (p:=⟨w.heap.size+1+1,0,O⟩) (by show _≤w.heap.size+1+1;omega) _).setCell (p:=⟨w.heap.size+1+1,1,O⟩) (by show _≤w.heap.size+1+1;omega) _).setCell (p:=⟨w.heap.size+1+1,2,O⟩) (by show _≤w.heap.size+1+1;omega) _
def O1:EG 48:=fun _ _=>by kernel_rfl
def O0:EG 49:=fun _ _=>by kernel_rfl
def Wh(B:Nat)(w:eO)(D:Nat→Prop)(g:Nat)(d:Ad)(j:Hd)(s:Ae)(kind:Int)(k:Nat)(b:Int)(data:List Int)(jb:Nat)(vd:eZ)(i:Nat)(now:Int)(bC:Gl B w)(hM:∀ q∈Mut g j,B≤q)(h:PA w D g d j s)(ok:Ah d s)(hj:JB w jb g kind k b vd i now)(bK:jb∉Mut g j)(hD:∀ q,w.heap.size≤q→D q)(cB:0≤now)(cC:now≤4294967296)(hk:k<d.Ab.length)(b6:k<s.samples.length)(b7:k<s.queues.length)(bI:A4 w (NM g j) vd data)(cz:data.length≤64)(cy:Bf data):
  e7 prog 77 #[G (Z ⟨jb,0,O⟩)] w fun e w'=>e=.returned (.bool true)∧PA w' D g d j (EJ d now (⟨kind,k,b,data⟩:Ac) s)∧Upd (Mut g j) w w':=by
 obtain⟨j0,j1,j2,j3,j4,j5,j6⟩:=hj.cells;have t:jb<w.heap.size:=Aa hj;have aM:=qC j0 t;have aN:=qC j2 t;have ar:0<d.Ab.length:=by omega
 have bO:=h.Q2 ar;have ab:=h.lt;have ch:=qC bO ab;have b1:=h.AB.cap;have ap:=h.AB.lt;obtain⟨nm,hc⟩:=h.AB.el k hk;obtain⟨y0,y1,y2,y3,y4,y5⟩:=Od hc;have aO:=qC y0 ap;have aP:=qC y1 ap;have aQ:=qC y2 ap;have ck:=qC y3 ap;have cl:=qC y4 ap;have cm:=qC y5 ap;have cA:(k:Int)<(d.Ab.length:Int):=by omega
 obtain⟨H,HJ,aZ,HG,HM,cs,aY,OK⟩:=H8 h hj hD bC hM bK bI ok;clear h hj hD ok hc bC hM bK bI j0 j1 j2 j3 j4 j5 j6 bO y0 y1 y2 y3 y4 y5;go_enter func77,ntmps77;go_upto_region 1 with (fail);refine AS 17 [16] [] [(15,Bh w.heap.size #[.string ⟨#[]⟩,I U 0,.bool false,I J 0,I J 0,I J 0] 62)] ⟨Bh.AX,trivial⟩ ?_
 iterate 15 (refine An rfl rfl rfl ?_;intro K hK;go_big_quiet_op;go_big_quiet_on)
 refine A9 rfl rfl (fun w' c hA=>?_) ?_
 ·exact EY (T #[.string ⟨#[]⟩,I U 0,.bool false,I J 0,I J 0,I J 0] 62) (by simp[fl,go_sem]) ⟨w'.heap.size,c.size,rfl,eS _ _⟩
 intro v w' c hv;obtain⟨q,hq,rfl,aC⟩:=hv;clear c hq aC w';simp only[Au,eJ,eM,eL];refine AH rfl ?_;refine AR ?_;intro n N ae;obtain⟨ca,aC⟩:=Bh.at_ (ae 15 _ (by decide) rfl);obtain⟨z0,z1,z2,z3,z4,z5⟩:=r6 aC;obtain⟨f0,f1,f2,f3,f4,f5⟩:=f6 aC;obtain⟨a,bg⟩:=ex ((((((n.setCell ⟨q,0,O⟩ (.string nm)).setCell ⟨q,1,O⟩ (I U d.Ab[k].kind)).setCell ⟨q,2,O⟩ (.bool d.Ab[k].o)).setCell ⟨q,3,O⟩ (I J d.Ab[k].size)).setCell ⟨q,4,O⟩ (I J d.Ab[k].depth)).setCell ⟨q,5,O⟩ (I J d.Ab[k].At));refine AI (w':=a) (by rw[bg];simp[fl,go_sem,z0,f0,z1,f1,z2,f2,z3,f3,z4,f4,z5,f5]) ?_;unfold A7;have bf:a=setsAt n q 0 [(0,.string nm),(1,I U d.Ab[k].kind),(2,.bool d.Ab[k].o),(3,I J d.Ab[k].size),(4,I J d.Ab[k].depth),(5,I J d.Ab[k].At)]:=bg;have C:Hq (Bl w a):=by rw[bf];exact DH ca N _
 have br:a.heap[q]? =Z (T #[.string nm,I U d.Ab[k].kind,.bool d.Ab[k].o,I J d.Ab[k].size,I J d.Ab[k].depth,I J d.Ab[k].At] 62 (0,0)):=by
  rw[bf];have hh:=Di [(0,.string nm),(1,I U d.Ab[k].kind),(2,.bool d.Ab[k].o),(3,I J d.Ab[k].size),(4,I J d.Ab[k].depth),(5,I J d.Ab[k].At)] aC;simp only[Er,eJ,eM,eL] at hh;exact hh
 clear bg bf N ae aC z0 f0 z1 f1 z2 f2 z3 f3 z4 f4 z5 f5 ch b1 ap ab t aO aP aQ ck cl cm aM aN;obtain⟨bE,y⟩:=H2 (show q<a.heap.size from Aa br) br;clear br;obtain⟨ad,cd,rfl,_,_,_⟩:=aY.o.1.open_;have bL:a.cell? ⟨q,1,O⟩=Z (I U d.Ab[k].kind):=by rw[Cr y.o];rfl
 by_cases ac:d.Ab[k].kind=1
 ·have bh:(d.Ab[k].kind==1)=true:=by simp[ac]
  have F:=b6;replace ar:0<s.samples.length:=by omega
  have b8:(k:Int)<(s.samples.length:Int):=by omega
  have p:=H.o.below C.o;have V:=HJ.o.below C.o;obtain⟨j0,j1,j2,j3,j4,j5,j6⟩:=V.cells;have t:jb<a.heap.size:=Aa V;have aM:=qC j0 t;have aN:=qC j2 t;have bs:=qC j4 t;have cg:=qC j6 t;have bQ:=p.Ic ar;have ab:=p.lt;have cj:=qC bQ ab;have b3:=p.sa.cap;have aS:=p.sa.lt;obtain⟨v,hc,hr⟩:=p.sa.el k F;obtain⟨av,cv,rfl,_,_,_⟩:=hr.1.open_;obtain⟨y0,y1,y2⟩:=EO hc;have aO:=qC y0 aS;have aP:=qC y1 aS;have aQ:=qC y2 aS;have r:q<a.heap.size:=bE.o;have bt:=qC (show a.cell? ⟨q,0,O⟩=_ from Cr y.o) r;have bu:=qC (show a.cell? ⟨q,1,O⟩=_ from Cr y.o) r;have bw:=qC (show a.cell? ⟨q,2,O⟩=_ from Cr y.o) r;have bx:=qC (show a.cell? ⟨q,3,O⟩=_ from Cr y.o) r;have bz:=qC (show a.cell? ⟨q,4,O⟩=_ from Cr y.o) r;have bA:=qC (show a.cell? ⟨q,5,O⟩=_ from Cr y.o) r;obtain⟨l,M,hw⟩:∃ l M,writeSa d.Ab[k] s.samples[k] now data=(l,M):=⟨_,_,rfl⟩;have HC:Hq (∀ W,Bl a W→e7 prog 48 #[.agg #[.string nm,I U d.Ab[k].kind,.bool d.Ab[k].o,I J d.Ab[k].size,I J d.Ab[k].depth,I J d.Ab[k].At],.agg #[.slice av s.samples[k].data.length cv,I J s.samples[k].at_,.bool s.samples[k].has],I J now,Y ad data.length cd] W fun e w'=>∃ v,e=.returned (.tuple #[.agg #[v,I J l.at_,.bool l.has],I J M])∧AA w' W.heap.size v l.data∧Bl W w'):=fun W c=>by
   have:=QR nm d.Ab[k].kind d.Ab[k].o d.Ab[k].size d.Ab[k].depth d.Ab[k].At s.samples[k].at_ s.samples[k].has (.slice av s.samples[k].data.length cv) s.samples[k].data W (hr.1.below c) (by have:=(OK.o.sa _ (fg F)).len;omega) now (Y ad data.length cd) data ((aY.o.1.below C.o).below c) (by omega);have e:writeSa (⟨d.Ab[k].kind,d.Ab[k].o,d.Ab[k].size,d.Ab[k].depth,d.Ab[k].At⟩:CV) (⟨s.samples[k].data,s.samples[k].at_,s.samples[k].has⟩:Ee) now data=(l,M):=hw;rw[e] at this;exact this
  have HE:Hq (EJ d now (⟨kind,k,b,data⟩:Ac) s={s with samples:=s.samples.set k l}):=by
   show EJ d now (⟨kind,k,b,data⟩:Ac) s=_;simp only[EJ,portA,e6,getD_at _ _ hk,getD_at _ _ F,ac,if_pos,hw]
  clear hw hr;obtain⟨H1,bZ⟩:=H2 p V;clear p V hc j0 j1 j2 j3 j4 j5 j6 bQ y0 y1 y2;have b0:=HH ac;clear ac;go_upto_region 3 with (fail);clear bL bh;refine AS 44 [43] [41] [(38,(fun v w'=>∃ m c2,v=.tuple #[.agg #[Y m l.data.length c2,I J l.at_,.bool l.has],I J M]∧AA w' a.heap.size (Y m l.data.length c2) l.data))] ⟨(fun v w1 w2 ⟨m,c2,e,h⟩ c=>⟨m,c2,e,Ty.below h c⟩),trivial⟩ ?_
  iterate 38 (refine An rfl rfl rfl ?_;intro K hK;go_big_quiet_op;go_big_quiet_on)
  refine A9 rfl rfl (fun w' c hA=>?_) ?_
  ·refine AD (f:=48) (al:=[.agg #[.string nm,I U d.Ab[k].kind,.bool d.Ab[k].o,I J d.Ab[k].size,I J d.Ab[k].depth,I J d.Ab[k].At],.agg #[.slice av s.samples[k].data.length cv,I J s.samples[k].at_,.bool s.samples[k].has],I J now,Y ad data.length cd]) rfl rfl rfl O1 ?_;exact(HC.o w' c).mono fun e w2 h=>by
    obtain⟨u,he,hf,bi⟩:=h;obtain⟨m,c2,hu⟩:=Ty.shape hf;subst hu;exact⟨_,he,bi,_,_,rfl,Ty.mono hf c.size⟩
  intro v w' c hv;obtain⟨m,c2,rfl,bl⟩:=hv;clear c bl w';simp only[Au,eJ,eM,eL]
  iterate 2 (refine An rfl rfl rfl ?_;intro K hK;go_big_quiet_op;go_big_quiet_on)
  iterate 1 (refine Bi rfl rfl rfl ?_;intro K hK;go_big_quiet_op;go_big_quiet_on)
  iterate 1 (refine An rfl rfl rfl ?_;intro K hK;go_big_quiet_op;go_big_quiet_on)
  refine AH rfl ?_;refine AR ?_;intro n N ae;have bq:=ae 38 _ (by decide) rfl;obtain⟨L,c3,Q,aG⟩:=bq;injection Q with Q;simp only[fm,fk,fq,eT,true_and,and_true] at Q;obtain⟨rfl,rfl⟩:=Q;have a0:Hq (A4 n D (Y m l.data.length c2) l.data):=Af.CZ (Ty.sl aG) fun q hq _=>aZ.o q (e8 C.o.size hq);clear aG;have R:=H1.o.below N;have P:∀ o,n.frozen? ⟨j.sa.b,o,O⟩=false:=R.sa.frozen ar;obtain⟨v9,E,_⟩:=R.sa.el k F;have z0:n.cell? ⟨j.sa.b,k*3,O⟩=Z _:=E 0 _ rfl;have f0:=P (k*3);have z1:n.cell? ⟨j.sa.b,k*3+1,O⟩=Z _:=E 1 _ rfl;have f1:=P (k*3+1);have z2:n.cell? ⟨j.sa.b,k*3+2,O⟩=Z _:=E 2 _ rfl;have f2:=P (k*3+2);have au:=R.Lt F [(0,Y m l.data.length c2),(1,I J l.at_),(2,.bool l.has)] rfl E (x:=l) fun w' bj aU=>⟨_,bj,a0.o.Ag aU⟩;obtain⟨W2,S⟩:=ex (((n.setCell ⟨j.sa.b,k*3,O⟩ (Y m l.data.length c2)).setCell ⟨j.sa.b,k*3+1,O⟩ (I J l.at_)).setCell ⟨j.sa.b,k*3+2,O⟩ (.bool l.has));refine AI (w':=W2) (by rw[S];simp[fl,go_sem,z0,f0,z1,f1,z2,f2]) ?_;unfold A7;have a6:Hq (PA W2 D g d j {s with samples:=s.samples.set k l}):=by rw[S];exact au.1
  have a7:Hq (Upd (Mut g j) a W2):=by rw[S];exact(Upd.below N).trans au.2
  clear S au E P R N ae z0 f0 z1 f1 z2 f2 cj b3 aS ab t aO aP aQ aM aN bs cg r bt bu bw bx bz bA;go_wp2_with fail;go_ret;rw[HE.o];exact⟨rfl,a6.o,(Upd.below C.o).trans a7.o⟩
 ·have bh:(d.Ab[k].kind==1)=false:=by simp[ac]
  have F:=b7;replace ar:0<s.queues.length:=by omega
  have b8:(k:Int)<(s.queues.length:Int):=by omega
  have p:=H.o.below C.o;have V:=HJ.o.below C.o;obtain⟨j0,j1,j2,j3,j4,j5,j6⟩:=V.cells;have t:jb<a.heap.size:=Aa V;have aM:=qC j0 t;have aN:=qC j2 t;have bs:=qC j4 t;have bP:=p.Ib ar;have ab:=p.lt;have ci:=qC bP ab;have b2:=p.qu.cap;have aR:=p.qu.lt;obtain⟨v,u,hc,bo,bp⟩:=p.qu.el k F;obtain⟨aq,cq,rfl⟩:=bo.rd.C2;obtain⟨aw,cw,rfl,_,_,_⟩:=bp.1.open_;obtain⟨y0,y1,y2⟩:=EO hc;have aO:=qC y0 aR;have aP:=qC y1 aR;have aQ:=qC y2 aR;have r:q<a.heap.size:=bE.o;have bt:=qC (show a.cell? ⟨q,0,O⟩=_ from Cr y.o) r;have bu:=qC (show a.cell? ⟨q,1,O⟩=_ from Cr y.o) r;have bw:=qC (show a.cell? ⟨q,2,O⟩=_ from Cr y.o) r;have bx:=qC (show a.cell? ⟨q,3,O⟩=_ from Cr y.o) r;have bz:=qC (show a.cell? ⟨q,4,O⟩=_ from Cr y.o) r;have bA:=qC (show a.cell? ⟨q,5,O⟩=_ from Cr y.o) r;have aH:=OK.o.qu _ (fg F);have h6:=OK.o.ok.procs;obtain⟨A,z,X,wk,M,hw⟩:∃ A z X wk M,sendQ d.Ab[k].kind d.Ab[k].size d.Ab[k].depth d.Ab[k].At s.queues[k].q s.queues[k].wait s.queues[k].lost data=(A,z,X,wk,M):=⟨_,_,_,_,_,rfl⟩;have HC:Hq (∀ W,Bl a W→e7 prog 49 #[.agg #[.string nm,I U d.Ab[k].kind,.bool d.Ab[k].o,I J d.Ab[k].size,I J d.Ab[k].depth,I J d.Ab[k].At],.agg #[.slice aq s.queues[k].q.length cq,.slice aw s.queues[k].wait.length cw,I J s.queues[k].lost],Y ad data.length cd] W (LJ W A z X (I J wk) (I J M))):=fun W c=>by
   have:=Qq nm d.Ab[k].kind d.Ab[k].o d.Ab[k].size d.Ab[k].depth d.Ab[k].At s.queues[k].lost (Y ad data.length cd) data (.slice aq s.queues[k].q.length cq) (.slice aw s.queues[k].wait.length cw) s.queues[k].q s.queues[k].wait W (bo.rd.below c) (bp.1.below c) (aH.wait.wf h6) (by have:=aH.wait.len;omega) (by have:=aH.len;omega) (fun x hx=>by have:=(aH.msg x hx).1;omega) ((aY.o.1.below C.o).below c) (by omega);rw[hw] at this;exact this
  have HE:Hq (EJ d now (⟨kind,k,b,data⟩:Ac) s={s with queues:=s.queues.set k ⟨A,z,X⟩}):=by
   show EJ d now (⟨kind,k,b,data⟩:Ac) s=_;simp only[EJ,portA,quA,e6,getD_at _ _ hk,getD_at _ _ F,hw];rw[if_neg ac]
  clear hw bo bp aH;obtain⟨H1,bZ⟩:=H2 p V;clear p V hc j0 j1 j2 j3 j4 j5 j6 bP y0 y1 y2;have b0:=HH ac;clear ac;go_upto_region 4 with (fail);clear bL bh;refine AS 41 [40] [37,38] [(34,(fun v w'=>∃ m c2 L c3,v=.tuple #[.agg #[Y m A.length c2,Y L z.length c3,I J X],I J wk,I J M]∧A6 w' a.heap.size (Y m A.length c2) A∧Aq w' a.heap.size (Y L z.length c3) z))] ⟨(fun v w1 w2 ⟨m,c2,L,c3,e,h,h'⟩ c=>⟨m,c2,L,c3,e,h.below c,h'.below c⟩),trivial⟩ ?_
  iterate 34 (refine An rfl rfl rfl ?_;intro K hK;go_big_quiet_op;go_big_quiet_on)
  refine A9 rfl rfl (fun w' c hA=>?_) ?_
  ·refine AD (f:=49) (al:=[.agg #[.string nm,I U d.Ab[k].kind,.bool d.Ab[k].o,I J d.Ab[k].size,I J d.Ab[k].depth,I J d.Ab[k].At],.agg #[.slice aq s.queues[k].q.length cq,.slice aw s.queues[k].wait.length cw,I J s.queues[k].lost],Y ad data.length cd]) rfl rfl rfl O0 ?_;exact(HC.o w' c).mono fun e w2 h=>by
    obtain⟨u1,u2,he,bM,hf,bi⟩:=h;obtain⟨m,c2,cc⟩:=bM.C2;obtain⟨L,c3,ce⟩:=Bc hf;subst cc ce;exact⟨_,he,bi,_,_,_,_,rfl,bM.mono c.size,hf.mono c.size⟩
  intro v w' c hv;obtain⟨m,c2,L,c3,rfl,b9,bl⟩:=hv;clear c b9 bl w';simp only[Au,eJ,eM,eL]
  iterate 2 (refine An rfl rfl rfl ?_;intro K hK;go_big_quiet_op;go_big_quiet_on)
  iterate 2 (refine Bi rfl rfl rfl ?_;intro K hK;go_big_quiet_op;go_big_quiet_on)
  iterate 1 (refine An rfl rfl rfl ?_;intro K hK;go_big_quiet_op;go_big_quiet_on)
  refine AH rfl ?_;refine AR ?_;intro n N ae;have bq:=ae 34 _ (by decide) rfl;obtain⟨a4,c4,a5,c5,Q,bN,aG⟩:=bq;injection Q with Q;simp only[fm,fk,fq,eT,true_and,and_true] at Q;obtain⟨⟨rfl,rfl⟩,rfl,rfl⟩:=Q;have a0:Hq (BS n D (Y m A.length c2) A):=A6.CZ bN fun q hq _=>aZ.o q (e8 C.o.size hq);have bY:Hq (Bm n D (Y L z.length c3) z):=Al.CZ aG.1 fun q hq _=>aZ.o q (e8 C.o.size hq);clear aG bN;have R:=H1.o.below N;have P:∀ o,n.frozen? ⟨j.qu.b,o,O⟩=false:=R.qu.frozen ar;obtain⟨v9,u9,E,_,_⟩:=R.qu.el k F;have z0:n.cell? ⟨j.qu.b,k*3,O⟩=Z _:=E 0 _ rfl;have f0:=P (k*3);have z1:n.cell? ⟨j.qu.b,k*3+1,O⟩=Z _:=E 1 _ rfl;have f1:=P (k*3+1);have z2:n.cell? ⟨j.qu.b,k*3+2,O⟩=Z _:=E 2 _ rfl;have f2:=P (k*3+2);have au:=R.Jv F [(0,Y m A.length c2),(1,Y L z.length c3),(2,I J X)] rfl E (x:=⟨A,z,X⟩) fun w' bj aU=>⟨_,_,bj,a0.o.Ag aU,bY.o.Ag aU⟩;obtain⟨W2,S⟩:=ex (((n.setCell ⟨j.qu.b,k*3,O⟩ (Y m A.length c2)).setCell ⟨j.qu.b,k*3+1,O⟩ (Y L z.length c3)).setCell ⟨j.qu.b,k*3+2,O⟩ (I J X));refine AI (w':=W2) (by rw[S];simp[fl,go_sem,z0,f0,z1,f1,z2,f2]) ?_;unfold A7;have a6:Hq (PA W2 D g d j {s with queues:=s.queues.set k ⟨A,z,X⟩}):=by rw[S];exact au.1
  have a7:Hq (Upd (Mut g j) a W2):=by rw[S];exact(Upd.below N).trans au.2
  clear S au E P R N ae z0 f0 z1 f1 z2 f2 ci b2 aR ab t aO aP aQ aM aN bs r bt bu bw bx bz bA;go_wp2_with fail;go_ret;rw[HE.o];exact⟨rfl,a6.o,(Upd.below C.o).trans a7.o⟩
def T9:EG 117:=fun _ _=>by kernel_rfl
def TA:EG 115:=fun _ _=>by kernel_rfl
def Wg(B:Nat)(w:eO)(D:Nat→Prop)(g:Nat)(d:Ad)(t:Hd)(s:Ae)(kind:Int)(k:Nat)(b:Int)(data:List Int)(jb:Nat)(vd:eZ)(i:Nat)(now:Int)(bV:Gl B w)(hM:∀ q∈Mut g t,B≤q)(h:PA w D g d t s)(ok:Ah d s)(hj:JB w jb g kind k b vd i now)(b0:jb∉Mut g t)(hD:∀ q,w.heap.size≤q→D q)(cE:0≤now)(cF:now≤4294967296)(hk:k<d.Ab.length)(cz:k<s.samples.length)(cA:k<s.queues.length)(hi:i<d.procs.length):
  e7 prog 78 #[G (Z ⟨jb,0,O⟩)] w fun e w'=>e=.returned (.bool (Fg d i now (⟨kind,k,b,data⟩:Ac) s).2)∧PA w' D g d t (Fg d i now (⟨kind,k,b,data⟩:Ac) s).1∧Upd (Mut g t) w w':=by
 obtain⟨z,j1,F,j3,j4,C,V⟩:=hj.cells;have j:jb<w.heap.size:=Aa hj;have ae:=qC z j;have aZ:=qC F j;have aR:0<d.Ab.length:=by omega
 have b7:=h.Q2 aR;have aD:=h.lt;have cN:=qC b7 aD;have cn:=h.AB.cap;have aN:=h.AB.lt;obtain⟨nm,hc⟩:=h.AB.el k hk;obtain⟨y0,y1,y2,y3,y4,y5⟩:=Od hc;have a0:=qC y0 aN;have a1:=qC y1 aN;have a8:=qC y2 aN;have cQ:=qC y3 aN;have cR:=qC y4 aN;have cS:=qC y5 aN;have c0:(k:Int)<(d.Ab.length:Int):=by omega
 obtain⟨H,HJ,bp,HG,HM,bf,OK⟩:=H7 h hj hD bV hM b0 ok;clear h hj hD ok hc bV hM b0 z j1 F j3 j4 C V b7 y0 y1 y2 y3 y4 y5;go_enter func78,ntmps78;go_upto_region 1 with (fail);refine AS 17 [16] [] [(15,Bh w.heap.size #[.string ⟨#[]⟩,I U 0,.bool false,I J 0,I J 0,I J 0] 62)] ⟨Bh.AX,trivial⟩ ?_
 iterate 15 (refine An rfl rfl rfl ?_;intro K hK;go_big_quiet_op;go_big_quiet_on)
 refine A9 rfl rfl (fun w' a hA=>?_) ?_
 ·exact EY (T #[.string ⟨#[]⟩,I U 0,.bool false,I J 0,I J 0,I J 0] 62) (by simp[fl,go_sem]) ⟨w'.heap.size,a.size,rfl,eS _ _⟩
 intro v w' a hv;obtain⟨q,hq,rfl,aT⟩:=hv;clear a hq aT w';simp only[Au,eJ,eM,eL];refine AH rfl ?_;refine AR ?_;intro n l E;obtain⟨cD,aT⟩:=Bh.at_ (E 15 _ (by decide) rfl);obtain⟨z0,z1,z2,z3,z4,z5⟩:=r6 aT;obtain⟨f0,f1,f2,f3,f4,f5⟩:=f6 aT;obtain⟨c,bC⟩:=ex ((((((n.setCell ⟨q,0,O⟩ (.string nm)).setCell ⟨q,1,O⟩ (I U d.Ab[k].kind)).setCell ⟨q,2,O⟩ (.bool d.Ab[k].o)).setCell ⟨q,3,O⟩ (I J d.Ab[k].size)).setCell ⟨q,4,O⟩ (I J d.Ab[k].depth)).setCell ⟨q,5,O⟩ (I J d.Ab[k].At));refine AI (w':=c) (by rw[bC];simp[fl,go_sem,z0,f0,z1,f1,z2,f2,z3,f3,z4,f4,z5,f5]) ?_;unfold A7;have bA:c=setsAt n q 0 [(0,.string nm),(1,I U d.Ab[k].kind),(2,.bool d.Ab[k].o),(3,I J d.Ab[k].size),(4,I J d.Ab[k].depth),(5,I J d.Ab[k].At)]:=bC;have y:Hq (Bl w c):=by rw[bA];exact DH cD l _
 have bN:c.heap[q]? =Z (T #[.string nm,I U d.Ab[k].kind,.bool d.Ab[k].o,I J d.Ab[k].size,I J d.Ab[k].depth,I J d.Ab[k].At] 62 (0,0)):=by
  rw[bA];have hh:=Di [(0,.string nm),(1,I U d.Ab[k].kind),(2,.bool d.Ab[k].o),(3,I J d.Ab[k].size),(4,I J d.Ab[k].depth),(5,I J d.Ab[k].At)] aT;simp only[Er,eJ,eM,eL] at hh;exact hh
 clear bC bA l E aT z0 f0 z1 f1 z2 f2 z3 f3 z4 f4 z5 f5 cN cn aN aD j a0 a1 a8 cQ cR cS ae aZ;obtain⟨bW,X⟩:=H2 (show q<c.heap.size from Aa bN) bN;clear bN;have b2:c.cell? ⟨q,1,O⟩=Z (I U d.Ab[k].kind):=by rw[Cr X.o];rfl
 by_cases aE:d.Ab[k].kind=2
 ·have bD:(d.Ab[k].kind==2)=true:=by simp[aE]
  have ar:=cA;replace aR:0<s.queues.length:=by omega
  have cB:(k:Int)<(s.queues.length:Int):=by omega
  have L:=H.o.below y.o;have ap:=HJ.o.below y.o;obtain⟨z,j1,F,j3,j4,C,V⟩:=ap.cells;have j:jb<c.heap.size:=Aa ap;have ae:=qC z j;have aZ:=qC F j;have ax:=qC C j;have b8:=L.Ib aR;have aD:=L.lt;have cO:=qC b8 aD;have cp:=L.qu.cap;have bi:=L.qu.lt;obtain⟨v,u,hc,bK,bL⟩:=L.qu.el k ar;obtain⟨aq,cq,rfl⟩:=bK.rd.C2;obtain⟨aw,cw,rfl,_,_,_⟩:=bL.1.open_;obtain⟨y0,y1,y2⟩:=EO hc;have a0:=qC y0 bi;have a1:=qC y1 bi;have a8:=qC y2 bi;have P:q<c.heap.size:=bW.o;have bO:=qC (show c.cell? ⟨q,0,O⟩=_ from Cr X.o) P;have bP:=qC (show c.cell? ⟨q,1,O⟩=_ from Cr X.o) P;have bQ:=qC (show c.cell? ⟨q,2,O⟩=_ from Cr X.o) P;have bR:=qC (show c.cell? ⟨q,3,O⟩=_ from Cr X.o) P;have bS:=qC (show c.cell? ⟨q,4,O⟩=_ from Cr X.o) P;have bT:=qC (show c.cell? ⟨q,5,O⟩=_ from Cr X.o) P;generalize bI:(d.procs.getD i default).prio=pr;have cl:Hq (∀ W,Bl c W→e7 prog 116 #[G (Z ⟨jb,0,O⟩)] W fun e w'=>e=.returned (I J pr)∧Bl W w'):=fun W a=>by
   have:=Jm W D g d t s kind k b data jb _ i now ((H.o.below y.o).below a) OK.o ((HJ.o.below y.o).below a) (fun q hq=>bp.o q (e8 y.o.size (e8 a.size hq))) hi;rwa [bI] at this
  have aS:=OK.o.qu _ (fg ar);have h6:=OK.o.ok.procs;obtain⟨R,Q,m,o,S,hw⟩:∃ R Q m o S,recvQ d.Ab[k].kind d.Ab[k].size d.Ab[k].depth d.Ab[k].At s.queues[k].q s.queues[k].wait s.queues[k].lost i pr=(R,Q,m,o,S):=⟨_,_,_,_,_,rfl⟩;have HC:Hq (∀ W,Bl c W→e7 prog 115 #[.agg #[.string nm,I U d.Ab[k].kind,.bool d.Ab[k].o,I J d.Ab[k].size,I J d.Ab[k].depth,I J d.Ab[k].At],.agg #[.slice aq s.queues[k].q.length cq,.slice aw s.queues[k].wait.length cw,I J s.queues[k].lost],I J i,I J pr] W (NN W R Q s.queues[k].lost m (.bool o) (I J S))):=fun W a=>by
   have:=Yu nm d.Ab[k].kind d.Ab[k].o d.Ab[k].size d.Ab[k].depth d.Ab[k].At s.queues[k].lost i pr (.slice aq s.queues[k].q.length cq) (.slice aw s.queues[k].wait.length cw) s.queues[k].q s.queues[k].wait W (bK.rd.below a) (bL.1.below a) (aS.wait.wf h6) (by have:=aS.wait.len;omega) (by have:=aS.len;omega) (fun x hx=>by have:=(aS.msg x hx).1;omega);rw[hw] at this;exact this
  have bm:=aS.Ql (k:=d.Ab[k].kind) (s:=d.Ab[k].size) (d:=d.Ab[k].depth) (r:=d.Ab[k].At) (p:=i) (u:=pr) (by omega) (by omega);rw[hw] at bm;have ck:Hq (Ah d {s with queues:=s.queues.set k ⟨R,Q,s.queues[k].lost⟩}):=OK.o.Ko k bm.1;have c1:m.length≤64:=bm.2.1;have HE:Hq (Fg d i now (⟨kind,k,b,data⟩:Ac) s=if o then(Co d i m {s with queues:=s.queues.set k ⟨R,Q,s.queues[k].lost⟩},true) else({s with queues:=s.queues.set k ⟨R,Q,s.queues[k].lost⟩},false)):=by
   show Fg d i now (⟨kind,k,b,data⟩:Ac) s=_;simp only[Fg,portA,quA,prioA,e6,getD_at _ _ hk,getD_at _ _ ar,bI,hw];rw[if_pos aE]
  clear hw bK bL aS bm bI;obtain⟨H1,ci⟩:=H2 L ap;clear L ap hc z j1 F j3 j4 C V b8 y0 y1 y2;have cj:=HH aE;clear aE;go_upto_region 5 with (fail);clear b2 bD;refine AS 45 [42] [38,39,40,43,44] [(34,fun v _=>v=I J pr),(35,(fun v w'=>∃ A c2 a3 c3 a4 c4,v=.tuple #[.agg #[Y A R.length c2,Y a3 Q.length c3,I J s.queues[k].lost],Y a4 m.length c4,.bool o,I J S]∧A6 w' c.heap.size (Y A R.length c2) R∧Aq w' c.heap.size (Y a3 Q.length c3) Q∧Af U w' c.heap.size (Y a4 m.length c4) m))] ⟨Ch,(fun v w1 w2 ⟨A,c2,a3,c3,a4,c4,e,h,h',ct⟩ a=>⟨A,c2,a3,c3,a4,c4,e,h.below a,h'.below a,ct.below a⟩),trivial⟩ ?_
  iterate 34 (refine An rfl rfl rfl ?_;intro K hK;go_big_quiet_op;go_big_quiet_on)
  refine A9 rfl rfl (fun w' a hA=>?_) ?_
  ·refine AD (f:=116) (al:=[G (Z ⟨jb,0,O⟩)]) rfl rfl rfl Ho ?_;exact(cl.o w' a).mono fun e w2 h=>⟨_,h.1,h.2,rfl⟩
  intro v w' a hv;obtain rfl:=hv;clear a w';simp only[Au,eJ,eM,eL];refine A9 rfl rfl (fun w' a hA=>?_) ?_
  ·refine AD (f:=115) (al:=[.agg #[.string nm,I U d.Ab[k].kind,.bool d.Ab[k].o,I J d.Ab[k].size,I J d.Ab[k].depth,I J d.Ab[k].At],.agg #[.slice aq s.queues[k].q.length cq,.slice aw s.queues[k].wait.length cw,I J s.queues[k].lost],I J i,I J pr]) rfl rfl rfl TA ?_;exact(HC.o w' a).mono fun e w2 h=>by
    obtain⟨u1,u2,u3,he,b3,hf,b5,bE⟩:=h;obtain⟨A,c2,cH⟩:=b3.C2;obtain⟨a3,c3,cI⟩:=Bc hf;obtain⟨a4,c4,cJ,_,_,_⟩:=b5.open_;subst cH cI cJ;exact⟨_,he,bE,_,_,_,_,_,_,rfl,b3.mono a.size,hf.mono a.size,b5.mono a.size⟩
  intro v w' a hv;obtain⟨A,c2,a3,c3,a4,c4,rfl,cC,bG,cL⟩:=hv;clear a cC bG cL w';simp only[Au,eJ,eM,eL]
  iterate 2 (refine An rfl rfl rfl ?_;intro K hK;go_big_quiet_op;go_big_quiet_on)
  iterate 3 (refine Bi rfl rfl rfl ?_;intro K hK;go_big_quiet_op;go_big_quiet_on)
  iterate 1 (refine An rfl rfl rfl ?_;intro K hK;go_big_quiet_op;go_big_quiet_on)
  refine AH rfl ?_
  iterate 2 (refine Bi rfl rfl rfl ?_;intro K hK;go_big_quiet_op;go_big_quiet_on)
  refine AR ?_;intro n l E;have bM:=E 35 _ (by decide) rfl;obtain⟨a5,c5,a6,c6,a7,c7,e3,b4,aW,b6⟩:=bM;injection e3 with e3;simp only[fm,fk,fq,eT,true_and,and_true] at e3;obtain⟨⟨⟨rfl,rfl⟩,rfl,rfl⟩,rfl,rfl⟩:=e3;have cg:Hq (BS n D (Y A R.length c2) R):=A6.CZ b4 fun q hq _=>bp.o q (e8 y.o.size hq);have ch:Hq (Bm n D (Y a3 Q.length c3) Q):=Al.CZ aW.1 fun q hq _=>bp.o q (e8 y.o.size hq);have bd:Hq (A4 n (NM g t) (Y a4 m.length c4) m):=Af.CZ b6 fun q hq _=>EF H.o (e8 y.o.size hq);clear aW b4 b6;have h9:=H1.o.below l;have F9:∀ o,n.frozen? ⟨t.qu.b,o,O⟩=false:=h9.qu.frozen aR;obtain⟨v9,u9,aU,_,_⟩:=h9.qu.el k ar;have z0:n.cell? ⟨t.qu.b,k*3,O⟩=Z _:=aU 0 _ rfl;have f0:=F9 (k*3);have z1:n.cell? ⟨t.qu.b,k*3+1,O⟩=Z _:=aU 1 _ rfl;have f1:=F9 (k*3+1);have z2:n.cell? ⟨t.qu.b,k*3+2,O⟩=Z _:=aU 2 _ rfl;have f2:=F9 (k*3+2);have bl:=h9.Jv ar [(0,Y A R.length c2),(1,Y a3 Q.length c3),(2,I J s.queues[k].lost)] rfl aU (x:=⟨R,Q,s.queues[k].lost⟩) fun w' cy b1=>⟨_,_,cy,cg.o.Ag b1,ch.o.Ag b1⟩;obtain⟨W2,aB⟩:=ex (((n.setCell ⟨t.qu.b,k*3,O⟩ (Y A R.length c2)).setCell ⟨t.qu.b,k*3+1,O⟩ (Y a3 Q.length c3)).setCell ⟨t.qu.b,k*3+2,O⟩ (I J s.queues[k].lost));refine AI (w':=W2) (by rw[aB];simp[fl,go_sem,z0,f0,z1,f1,z2,f2]) ?_;unfold A7;have bq:Hq (PA W2 D g d t {s with queues:=s.queues.set k ⟨R,Q,s.queues[k].lost⟩}):=by rw[aB];exact bl.1
  have am:Hq (Upd (Mut g t) n W2):=by rw[aB];exact bl.2
  have br:Hq (Upd (Mut g t) c W2):=by rw[aB];exact(Upd.below l).trans bl.2
  clear aB bl aU F9 h9 l E z0 f0 z1 f1 z2 f2 cO cp bi aD j a0 a1 a8 ae aZ ax P bO bP bQ bR bS bT;cases o with
  |false=>
   go_wp2_with fail;go_ret;rw[HE.o];exact⟨rfl,bq.o,(Upd.below y.o).trans br.o⟩
  |true=>
   have h2:=bq.o;have N:=HJ.o.BG ((Upd.below y.o).trans br.o) bf.o;obtain⟨z,j1,F,j3,j4,C,V⟩:=N.cells;have j:jb<W2.heap.size:=Aa N;have ae:=qC z j;have ax:=qC C j;clear h2 N z j1 F j3 j4 C V;go_upto_region 10 with (fail);refine BQ 9 [] trivial ?_
   iterate 9 (refine AK rfl ?_;intro K hK;go_big_quiet_op;go_big_quiet_on)
   refine BN ?_;intro n l E;simp only[fj,fo,ft];have M:Upd (Mut g t) w n:=(((Upd.below y.o).trans br.o)).trans (Upd.below l);obtain⟨ag,am⟩:=H2 (Iu B n D g d t _ i (Y a4 m.length c4) m (HG.o.BG M HM.o) ((bq.o).below l) ck.o hi (((bd.o.Ag (KeepD.nm am.o)).below l).1) (by omega)) M;clear E l M ae ax j;go_wp2_with fail;refine ag.o.mono ?_;rintro e w5 ⟨rfl,p5,u5⟩;obtain⟨aJ,aK⟩:=H2 p5 (am.o.trans u5);clear p5 u5 ag;go_wp2_with fail;go_ret;rw[HE.o];exact⟨rfl,aJ.o,aK.o⟩
 ·have bD:(d.Ab[k].kind==2)=false:=by simp[aE]
  have ar:=cz;replace aR:0<s.samples.length:=by omega
  have cB:(k:Int)<(s.samples.length:Int):=by omega
  have L:=H.o.below y.o;have ap:=HJ.o.below y.o;obtain⟨z,j1,F,j3,j4,C,V⟩:=ap.cells;have j:jb<c.heap.size:=Aa ap;have ae:=qC z j;have aZ:=qC F j;have cM:=qC V j;have b9:=L.Ic aR;have aD:=L.lt;have cP:=qC b9 aD;have cr:=L.sa.cap;have bj:=L.sa.lt;obtain⟨v,hc,hr⟩:=L.sa.el k ar;obtain⟨av,cv,rfl,_,_,_⟩:=hr.1.open_;obtain⟨y0,y1,y2⟩:=EO hc;have a0:=qC y0 bj;have a1:=qC y1 bj;have a8:=qC y2 bj;have P:q<c.heap.size:=bW.o;have bO:=qC (show c.cell? ⟨q,0,O⟩=_ from Cr X.o) P;have bP:=qC (show c.cell? ⟨q,1,O⟩=_ from Cr X.o) P;have bQ:=qC (show c.cell? ⟨q,2,O⟩=_ from Cr X.o) P;have bR:=qC (show c.cell? ⟨q,3,O⟩=_ from Cr X.o) P;have bS:=qC (show c.cell? ⟨q,4,O⟩=_ from Cr X.o) P;have bT:=qC (show c.cell? ⟨q,5,O⟩=_ from Cr X.o) P;obtain⟨m,fr,S,hw⟩:∃ m fr S,DN d.Ab[k] s.samples[k] now=(m,fr,S):=⟨_,_,_,rfl⟩;have aY:=OK.o.sa _ (fg ar);have HC:Hq (∀ W,Bl c W→e7 prog 117 #[.agg #[.string nm,I U d.Ab[k].kind,.bool d.Ab[k].o,I J d.Ab[k].size,I J d.Ab[k].depth,I J d.Ab[k].At],.agg #[.slice av s.samples[k].data.length cv,I J s.samples[k].at_,.bool s.samples[k].has],I J now] W fun e w'=>∃ v,e=.returned (.tuple #[v,.bool fr,I J S])∧AA w' W.heap.size v m∧Bl W w'):=fun W a=>by
   have:=Yr nm d.Ab[k].kind d.Ab[k].o d.Ab[k].size d.Ab[k].depth d.Ab[k].At s.samples[k].at_ s.samples[k].has (.slice av s.samples[k].data.length cv) s.samples[k].data W (hr.1.below a) (by have:=aY.len;omega) now aY.at_.1 aY.at_.2 cE cF;have e:DN (⟨d.Ab[k].kind,d.Ab[k].o,d.Ab[k].size,d.Ab[k].depth,d.Ab[k].At⟩:CV) (⟨s.samples[k].data,s.samples[k].at_,s.samples[k].has⟩:Ee) now=(m,fr,S):=hw;rw[e] at this;exact this
  have HX:Hq (m.length≤64):=by
   have e:m=(DN d.Ab[k] s.samples[k] now).1:=by rw[hw]
   show m.length≤64;rw[e];unfold DN;have:=aY.len;split
   ·simp
   ·split
    ·simp
    ·exact this
  have HE:Hq (Fg d i now (⟨kind,k,b,data⟩:Ac) s=(Co d i (if fr=true∧S=0 then m else []) s,true)):=by
   show Fg d i now (⟨kind,k,b,data⟩:Ac) s=_;simp only[Fg,portA,e6,getD_at _ _ hk,getD_at _ _ ar,hw];rw[if_neg aE]
  clear hw hr aY;obtain⟨H1,ci,cj⟩:=H3 L ap aE;clear L ap hc z j1 F j3 j4 C V b9 y0 y1 y2 aE;go_upto_region 6 with (fail);clear b2 bD;refine BQ 27 [(20,(fun v w'=>∃ A c2,v=.tuple #[Y A m.length c2,.bool fr,I J S]∧AA w' c.heap.size (Y A m.length c2) m))] ⟨(fun v w1 w2 ⟨A,c2,e,h⟩ a=>⟨A,c2,e,Ty.below h a⟩),trivial⟩ ?_
  iterate 20 (refine AK rfl ?_;intro K hK;go_big_quiet_op;go_big_quiet_on)
  refine Ca rfl (fun w' a hA=>?_) ?_
  ·refine AD (f:=117) (al:=[.agg #[.string nm,I U d.Ab[k].kind,.bool d.Ab[k].o,I J d.Ab[k].size,I J d.Ab[k].depth,I J d.Ab[k].At],.agg #[.slice av s.samples[k].data.length cv,I J s.samples[k].at_,.bool s.samples[k].has],I J now]) rfl rfl rfl T9 ?_;exact(HC.o w' a).mono fun e w2 h=>by
    obtain⟨u,he,hf,bE⟩:=h;obtain⟨A,c2,hu⟩:=Ty.shape hf;subst hu;exact⟨_,he,bE,_,_,rfl,Ty.mono hf a.size⟩
  intro v w' a hv;obtain⟨A,c2,rfl,bG⟩:=hv;clear a bG w';simp only[Au,eJ,eM,eL]
  iterate 6 (refine AK rfl ?_;intro K hK;go_big_quiet_op;go_big_quiet_on)
  refine BN ?_;intro n l E;simp only[fj,fo,ft];have bM:=E 20 _ (by decide) rfl;obtain⟨a3,c3,e3,aW⟩:=bM;injection e3 with e3;simp only[fm,fk,eT,true_and,and_true] at e3;obtain⟨rfl,rfl⟩:=e3;have bd:Hq (A4 n (NM g t) (Y A m.length c2) m):=Af.CZ (Ty.sl aW) fun q hq _=>EF H.o (e8 y.o.size hq);obtain⟨W2,aB⟩:=ex n;rw[←aB] at l bd ⊢;have af:=HH l;clear aB l E aW cP cr bj aD j a0 a1 a8 ae aZ cM P bO bP bQ bR bS bT;cases fr with
  |false=>
   simp only[Bool.false_eq_true,false_and,if_false] at HE;have h2:=H1.o.below af.o;have N:=HJ.o.BG ((Upd.below y.o).trans (Upd.below af.o)) bf.o;obtain⟨z,j1,F,j3,j4,C,V⟩:=N.cells;have j:jb<W2.heap.size:=Aa N;have ae:=qC z j;have ax:=qC C j;clear h2 N z j1 F j3 j4 C V;go_upto_region 10 with (fail);refine BQ 9 [] trivial ?_
   iterate 9 (refine AK rfl ?_;intro K hK;go_big_quiet_op;go_big_quiet_on)
   refine BN ?_;intro n l E;simp only[fj,fo,ft];have M:Upd (Mut g t) w n:=(((Upd.below y.o).trans (Upd.below af.o))).trans (Upd.below l);obtain⟨ag,am⟩:=H2 (Iu B n D g d t _ i (Y O 0 0) [] (HG.o.BG M HM.o) ((H1.o.below af.o).below l) OK.o hi ((A4.nil (D:=fun _=>True)).1) (by simp)) M;clear E l M ae ax j;go_wp2_with fail;refine ag.o.mono ?_;rintro e w5 ⟨rfl,p5,u5⟩;obtain⟨aJ,aK⟩:=H2 p5 (am.o.trans u5);clear p5 u5 ag;go_wp2_with fail;go_ret;rw[HE.o];exact⟨rfl,aJ.o,aK.o⟩
  |true=>
   by_cases aQ:S=0
   ·simp only[aQ,and_self,if_true] at HE;have cx:(S==0)=true:=by simp[aQ]
    clear aQ;have h2:=H1.o.below af.o;have N:=HJ.o.BG ((Upd.below y.o).trans (Upd.below af.o)) bf.o;obtain⟨z,j1,F,j3,j4,C,V⟩:=N.cells;have j:jb<W2.heap.size:=Aa N;have ae:=qC z j;have ax:=qC C j;clear h2 N z j1 F j3 j4 C V;go_upto_region 10 with (fail);refine BQ 9 [] trivial ?_
    iterate 9 (refine AK rfl ?_;intro K hK;go_big_quiet_op;go_big_quiet_on)
    refine BN ?_;intro n l E;simp only[fj,fo,ft];have M:Upd (Mut g t) w n:=(((Upd.below y.o).trans (Upd.below af.o))).trans (Upd.below l);obtain⟨ag,am⟩:=H2 (Iu B n D g d t _ i (Y A m.length c2) m (HG.o.BG M HM.o) ((H1.o.below af.o).below l) OK.o hi ((bd.o.below l).1) (by have:=HX.o;omega)) M;clear E l M ae ax j;go_wp2_with fail;refine ag.o.mono ?_;rintro e w5 ⟨rfl,p5,u5⟩;obtain⟨aJ,aK⟩:=H2 p5 (am.o.trans u5);clear p5 u5 ag;go_wp2_with fail;go_ret;rw[HE.o];exact⟨rfl,aJ.o,aK.o⟩
   ·simp only[aQ,and_false,if_false] at HE;have cx:(S==0)=false:=by simp[aQ]
    clear aQ;have h2:=H1.o.below af.o;have N:=HJ.o.BG ((Upd.below y.o).trans (Upd.below af.o)) bf.o;obtain⟨z,j1,F,j3,j4,C,V⟩:=N.cells;have j:jb<W2.heap.size:=Aa N;have ae:=qC z j;have ax:=qC C j;clear h2 N z j1 F j3 j4 C V;go_upto_region 10 with (fail);refine BQ 9 [] trivial ?_
    iterate 9 (refine AK rfl ?_;intro K hK;go_big_quiet_op;go_big_quiet_on)
    refine BN ?_;intro n l E;simp only[fj,fo,ft];have M:Upd (Mut g t) w n:=(((Upd.below y.o).trans (Upd.below af.o))).trans (Upd.below l);obtain⟨ag,am⟩:=H2 (Iu B n D g d t _ i (Y O 0 0) [] (HG.o.BG M HM.o) ((H1.o.below af.o).below l) OK.o hi ((A4.nil (D:=fun _=>True)).1) (by simp)) M;clear E l M ae ax j;go_wp2_with fail;refine ag.o.mono ?_;rintro e w5 ⟨rfl,p5,u5⟩;obtain⟨aJ,aK⟩:=H2 p5 (am.o.trans u5);clear p5 u5 ag;go_wp2_with fail;go_ret;rw[HE.o];exact⟨rfl,aJ.o,aK.o⟩
def Wq(B:Nat)(w:eO)(D:Nat→Prop)(g:Nat)(d:Ad)(a:Hd)(s:Ae)(k:Nat)(b:Int)(data:List Int)(c:Nat)(f:eZ)(i:Nat)(now:Int)(o:Gl B w)(p:∀ q∈Mut g a,B≤q)(h:PA w D g d a s)(ok:Ah d s)(m:JB w c g 1 k b f i now)(u:c∉Mut g a)(j:∀ q,w.heap.size≤q→D q)(v:0≤now)(x:now≤4294967296)(t:i<s.procs.length)(l:Cz d s.mem.length ⟨1,k,b,data⟩)(r:A4 w (NM g a) f data):
  e7 prog 76 #[G (Z ⟨c,0,O⟩)] w fun e w'=>e=.returned (.bool (actA d i now ⟨1,k,b,data⟩ s).2)∧PA w' D g d a (actA d i now ⟨1,k,b,data⟩ s).1∧Upd (Mut g a) w w':=by
 have hid:i<d.procs.length:=by have:=ok.procs;omega
 have n:k<s.mem.length:=by have:=(l.store rfl).1.2;simp only at*;omega
 exact Wl w D g d a s 1 k b data c f i now h ok m j n
def Wy(B:Nat)(w:eO)(D:Nat→Prop)(g:Nat)(d:Ad)(a:Hd)(s:Ae)(k:Nat)(b:Int)(data:List Int)(c:Nat)(l:eZ)(i:Nat)(now:Int)(m:Gl B w)(o:∀ q∈Mut g a,B≤q)(h:PA w D g d a s)(ok:Ah d s)(r:JB w c g 2 k b l i now)(t:c∉Mut g a)(n:∀ q,w.heap.size≤q→D q)(x:0≤now)(y:now≤4294967296)(z:i<s.procs.length)(f:Cz d s.mem.length ⟨2,k,b,data⟩)(p:A4 w (NM g a) l data):
  e7 prog 77 #[G (Z ⟨c,0,O⟩)] w fun e w'=>e=.returned (.bool (actA d i now ⟨2,k,b,data⟩ s).2)∧PA w' D g d a (actA d i now ⟨2,k,b,data⟩ s).1∧Upd (Mut g a) w w':=by
 have hid:i<d.procs.length:=by have:=ok.procs;omega
 have j:k<d.Ab.length:=by have:=(f.send rfl).1.2;simp only at*;omega
 have u:k<s.samples.length:=by rw[ok.samples];exact j
 have v:k<s.queues.length:=by rw[ok.queues];exact j
 exact Wh B w D g d a s 2 k b data c l i now m o h ok r t n x y j u v p f.data f.bytes
def Wz(B:Nat)(w:eO)(D:Nat→Prop)(g:Nat)(d:Ad)(a:Hd)(s:Ae)(k:Nat)(b:Int)(data:List Int)(c:Nat)(j:eZ)(i:Nat)(now:Int)(l:Gl B w)(n:∀ q∈Mut g a,B≤q)(h:PA w D g d a s)(ok:Ah d s)(p:JB w c g 3 k b j i now)(r:c∉Mut g a)(m:∀ q,w.heap.size≤q→D q)(v:0≤now)(x:now≤4294967296)(z:i<s.procs.length)(o:Cz d s.mem.length ⟨3,k,b,data⟩)(y:A4 w (NM g a) j data):
  e7 prog 78 #[G (Z ⟨c,0,O⟩)] w fun e w'=>e=.returned (.bool (actA d i now ⟨3,k,b,data⟩ s).2)∧PA w' D g d a (actA d i now ⟨3,k,b,data⟩ s).1∧Upd (Mut g a) w w':=by
 have hid:i<d.procs.length:=by have:=ok.procs;omega
 have f:k<d.Ab.length:=by have:=(o.recv rfl).1.2;simp only at*;omega
 have t:k<s.samples.length:=by rw[ok.samples];exact f
 have u:k<s.queues.length:=by rw[ok.queues];exact f
 exact Wg B w D g d a s 3 k b data c j i now l n h ok p r m v x f t u hid
def W8(B:Nat)(w:eO)(D:Nat→Prop)(g:Nat)(d:Ad)(a:Hd)(s:Ae)(k:Nat)(b:Int)(data:List Int)(c:Nat)(f:eZ)(i:Nat)(now:Int)(o:Gl B w)(p:∀ q∈Mut g a,B≤q)(h:PA w D g d a s)(ok:Ah d s)(m:JB w c g 4 k b f i now)(u:c∉Mut g a)(j:∀ q,w.heap.size≤q→D q)(v:0≤now)(x:now≤4294967296)(t:i<s.procs.length)(l:Cz d s.mem.length ⟨4,k,b,data⟩)(r:A4 w (NM g a) f data):
  e7 prog 79 #[G (Z ⟨c,0,O⟩)] w fun e w'=>e=.returned (.bool (actA d i now ⟨4,k,b,data⟩ s).2)∧PA w' D g d a (actA d i now ⟨4,k,b,data⟩ s).1∧Upd (Mut g a) w w':=by
 have hid:i<d.procs.length:=by have:=ok.procs;omega
 have n:k<s.semas.length:=by have:=(l.Ep (by simp)).2;have:=ok.semas;simp only at*;omega
 exact Wn w D g d a s 4 k b data c f i now h ok m j n hid
def WA(B:Nat)(w:eO)(D:Nat→Prop)(g:Nat)(d:Ad)(a:Hd)(s:Ae)(k:Nat)(b:Int)(data:List Int)(c:Nat)(f:eZ)(i:Nat)(now:Int)(j:Gl B w)(m:∀ q∈Mut g a,B≤q)(h:PA w D g d a s)(ok:Ah d s)(o:JB w c g 5 k b f i now)(p:c∉Mut g a)(l:∀ q,w.heap.size≤q→D q)(t:0≤now)(u:now≤4294967296)(x:i<s.procs.length)(n:Cz d s.mem.length ⟨5,k,b,data⟩)(v:A4 w (NM g a) f data):
  e7 prog 80 #[G (Z ⟨c,0,O⟩)] w fun e w'=>e=.returned (.bool (actA d i now ⟨5,k,b,data⟩ s).2)∧PA w' D g d a (actA d i now ⟨5,k,b,data⟩ s).1∧Upd (Mut g a) w w':=by
 have hid:i<d.procs.length:=by have:=ok.procs;omega
 have r:k<s.semas.length:=by have:=(n.Ep (by simp)).2;have:=ok.semas;simp only at*;omega
 exact Wj B w D g d a s 5 k b data c f i now j m h ok o p l t u r hid
def WB(B:Nat)(w:eO)(D:Nat→Prop)(g:Nat)(d:Ad)(a:Hd)(s:Ae)(k:Nat)(b:Int)(data:List Int)(c:Nat)(f:eZ)(i:Nat)(now:Int)(j:Gl B w)(m:∀ q∈Mut g a,B≤q)(h:PA w D g d a s)(ok:Ah d s)(o:JB w c g 6 k b f i now)(p:c∉Mut g a)(l:∀ q,w.heap.size≤q→D q)(t:0≤now)(u:now≤4294967296)(x:i<s.procs.length)(n:Cz d s.mem.length ⟨6,k,b,data⟩)(v:A4 w (NM g a) f data):
  e7 prog 81 #[G (Z ⟨c,0,O⟩)] w fun e w'=>e=.returned (.bool (actA d i now ⟨6,k,b,data⟩ s).2)∧PA w' D g d a (actA d i now ⟨6,k,b,data⟩ s).1∧Upd (Mut g a) w w':=by
 have hid:i<d.procs.length:=by have:=ok.procs;omega
 have r:k<s.events.length:=by have:=(n.event (by simp)).2;have:=ok.events;simp only at*;omega
 exact Wf B w D g d a s 6 k b data c f i now j m h ok o p l t u r hid
def WC(B:Nat)(w:eO)(D:Nat→Prop)(g:Nat)(d:Ad)(a:Hd)(s:Ae)(k:Nat)(b:Int)(data:List Int)(c:Nat)(f:eZ)(i:Nat)(now:Int)(o:Gl B w)(p:∀ q∈Mut g a,B≤q)(h:PA w D g d a s)(ok:Ah d s)(m:JB w c g 7 k b f i now)(u:c∉Mut g a)(j:∀ q,w.heap.size≤q→D q)(v:0≤now)(x:now≤4294967296)(t:i<s.procs.length)(l:Cz d s.mem.length ⟨7,k,b,data⟩)(r:A4 w (NM g a) f data):
  e7 prog 82 #[G (Z ⟨c,0,O⟩)] w fun e w'=>e=.returned (.bool (actA d i now ⟨7,k,b,data⟩ s).2)∧PA w' D g d a (actA d i now ⟨7,k,b,data⟩ s).1∧Upd (Mut g a) w w':=by
 have hid:i<d.procs.length:=by have:=ok.procs;omega
 have n:k<s.events.length:=by have:=(l.event (by simp)).2;have:=ok.events;simp only at*;omega
 exact Wb w D g d a s 7 k b data c f i now h ok m j n hid
def WD(B:Nat)(w:eO)(D:Nat→Prop)(g:Nat)(d:Ad)(a:Hd)(s:Ae)(k:Nat)(b:Int)(data:List Int)(c:Nat)(f:eZ)(i:Nat)(now:Int)(o:Gl B w)(p:∀ q∈Mut g a,B≤q)(h:PA w D g d a s)(ok:Ah d s)(m:JB w c g 8 k b f i now)(u:c∉Mut g a)(j:∀ q,w.heap.size≤q→D q)(v:0≤now)(x:now≤4294967296)(t:i<s.procs.length)(l:Cz d s.mem.length ⟨8,k,b,data⟩)(r:A4 w (NM g a) f data):
  e7 prog 83 #[G (Z ⟨c,0,O⟩)] w fun e w'=>e=.returned (.bool (actA d i now ⟨8,k,b,data⟩ s).2)∧PA w' D g d a (actA d i now ⟨8,k,b,data⟩ s).1∧Upd (Mut g a) w w':=by
 have hid:i<d.procs.length:=by have:=ok.procs;omega
 have n:k<s.events.length:=by have:=(l.event (by simp)).2;have:=ok.events;simp only at*;omega
 exact Wm w D g d a s 8 k b data c f i now h ok m j n hid
def WE(B:Nat)(w:eO)(D:Nat→Prop)(g:Nat)(d:Ad)(a:Hd)(s:Ae)(k:Nat)(b:Int)(data:List Int)(f:Nat)(j:eZ)(i:Nat)(now:Int)(l:Gl B w)(n:∀ q∈Mut g a,B≤q)(h:PA w D g d a s)(ok:Ah d s)(r:JB w f g 9 k b j i now)(t:f∉Mut g a)(m:∀ q,w.heap.size≤q→D q)(v:0≤now)(x:now≤4294967296)(y:i<s.procs.length)(c:Cz d s.mem.length ⟨9,k,b,data⟩)(p:A4 w (NM g a) j data):
  e7 prog 84 #[G (Z ⟨f,0,O⟩)] w fun e w'=>e=.returned (.bool (actA d i now ⟨9,k,b,data⟩ s).2)∧PA w' D g d a (actA d i now ⟨9,k,b,data⟩ s).1∧Upd (Mut g a) w w':=by
 have hid:i<d.procs.length:=by have:=ok.procs;omega
 have u:k<s.bufs.length:=by have:=(c.Eg (by simp)).2;have:=ok.bufs;simp only at*;omega
 have o:0<data.length:=c.one (by simp);exact We B w D g d a s 9 k b data f j i now l n h ok r t m v x u hid p o c.data c.bytes
def Wr(B:Nat)(w:eO)(D:Nat→Prop)(g:Nat)(d:Ad)(a:Hd)(s:Ae)(k:Nat)(b:Int)(data:List Int)(c:Nat)(f:eZ)(i:Nat)(now:Int)(j:Gl B w)(m:∀ q∈Mut g a,B≤q)(h:PA w D g d a s)(ok:Ah d s)(o:JB w c g 10 k b f i now)(p:c∉Mut g a)(l:∀ q,w.heap.size≤q→D q)(t:0≤now)(u:now≤4294967296)(x:i<s.procs.length)(n:Cz d s.mem.length ⟨10,k,b,data⟩)(v:A4 w (NM g a) f data):
  e7 prog 85 #[G (Z ⟨c,0,O⟩)] w fun e w'=>e=.returned (.bool (actA d i now ⟨10,k,b,data⟩ s).2)∧PA w' D g d a (actA d i now ⟨10,k,b,data⟩ s).1∧Upd (Mut g a) w w':=by
 have hid:i<d.procs.length:=by have:=ok.procs;omega
 have r:k<s.bufs.length:=by have:=(n.Eg (by simp)).2;have:=ok.bufs;simp only at*;omega
 exact VZ B w D g d a s 10 k b data c f i now j m h ok o p l t u r hid
def Ws(B:Nat)(w:eO)(D:Nat→Prop)(g:Nat)(d:Ad)(a:Hd)(s:Ae)(k:Nat)(b:Int)(data:List Int)(f:Nat)(j:eZ)(i:Nat)(now:Int)(l:Gl B w)(n:∀ q∈Mut g a,B≤q)(h:PA w D g d a s)(ok:Ah d s)(r:JB w f g 11 k b j i now)(t:f∉Mut g a)(m:∀ q,w.heap.size≤q→D q)(v:0≤now)(x:now≤4294967296)(y:i<s.procs.length)(c:Cz d s.mem.length ⟨11,k,b,data⟩)(p:A4 w (NM g a) j data):
  e7 prog 86 #[G (Z ⟨f,0,O⟩)] w fun e w'=>e=.returned (.bool (actA d i now ⟨11,k,b,data⟩ s).2)∧PA w' D g d a (actA d i now ⟨11,k,b,data⟩ s).1∧Upd (Mut g a) w w':=by
 have hid:i<d.procs.length:=by have:=ok.procs;omega
 have u:k<s.boards.length:=by have:=(c.Dz (by simp)).2;have:=ok.boards;simp only at*;omega
 have o:0<data.length:=c.one (by simp);exact Wi B w D g d a s 11 k b data f j i now l n h ok r t m v x u hid p o c.data c.bytes
def Wu(B:Nat)(w:eO)(D:Nat→Prop)(g:Nat)(d:Ad)(a:Hd)(s:Ae)(k:Nat)(b:Int)(data:List Int)(c:Nat)(f:eZ)(i:Nat)(now:Int)(j:Gl B w)(m:∀ q∈Mut g a,B≤q)(h:PA w D g d a s)(ok:Ah d s)(o:JB w c g 12 k b f i now)(p:c∉Mut g a)(l:∀ q,w.heap.size≤q→D q)(t:0≤now)(u:now≤4294967296)(x:i<s.procs.length)(n:Cz d s.mem.length ⟨12,k,b,data⟩)(v:A4 w (NM g a) f data):
  e7 prog 87 #[G (Z ⟨c,0,O⟩)] w fun e w'=>e=.returned (.bool (actA d i now ⟨12,k,b,data⟩ s).2)∧PA w' D g d a (actA d i now ⟨12,k,b,data⟩ s).1∧Upd (Mut g a) w w':=by
 have hid:i<d.procs.length:=by have:=ok.procs;omega
 have r:k<s.boards.length:=by have:=(n.Dz (by simp)).2;have:=ok.boards;simp only at*;omega
 exact Wa B w D g d a s 12 k b data c f i now j m h ok o p l t u r hid
def Wv(B:Nat)(w:eO)(D:Nat→Prop)(g:Nat)(d:Ad)(a:Hd)(s:Ae)(k:Nat)(b:Int)(data:List Int)(c:Nat)(f:eZ)(i:Nat)(now:Int)(o:Gl B w)(p:∀ q∈Mut g a,B≤q)(h:PA w D g d a s)(ok:Ah d s)(m:JB w c g 13 k b f i now)(u:c∉Mut g a)(j:∀ q,w.heap.size≤q→D q)(v:0≤now)(x:now≤4294967296)(t:i<s.procs.length)(l:Cz d s.mem.length ⟨13,k,b,data⟩)(r:A4 w (NM g a) f data):
  e7 prog 88 #[G (Z ⟨c,0,O⟩)] w fun e w'=>e=.returned (.bool (actA d i now ⟨13,k,b,data⟩ s).2)∧PA w' D g d a (actA d i now ⟨13,k,b,data⟩ s).1∧Upd (Mut g a) w w':=by
 have hid:i<d.procs.length:=by have:=ok.procs;omega
 have n:k<s.boards.length:=by have:=(l.Dz (by simp)).2;have:=ok.boards;simp only at*;omega
 exact Wp w D g d a s 13 k b data c f i now h ok m j n hid
def Ww(B:Nat)(w:eO)(D:Nat→Prop)(g:Nat)(d:Ad)(a:Hd)(s:Ae)(k:Nat)(b:Int)(data:List Int)(c:Nat)(f:eZ)(i:Nat)(now:Int)(j:Gl B w)(o:∀ q∈Mut g a,B≤q)(h:PA w D g d a s)(ok:Ah d s)(n:JB w c g 14 k b f i now)(t:c∉Mut g a)(l:∀ q,w.heap.size≤q→D q)(u:0≤now)(v:now≤4294967296)(m:i<s.procs.length)(p:Cz d s.mem.length ⟨14,k,b,data⟩)(r:A4 w (NM g a) f data):
  e7 prog 89 #[G (Z ⟨c,0,O⟩)] w fun e w'=>e=.returned (.bool (actA d i now ⟨14,k,b,data⟩ s).2)∧PA w' D g d a (actA d i now ⟨14,k,b,data⟩ s).1∧Upd (Mut g a) w w':=by
 have hid:i<d.procs.length:=by have:=ok.procs;omega
 exact Wc B w D g d a s 14 k b data c f i now h ok n l j m hid
def Wx(B:Nat)(w:eO)(D:Nat→Prop)(g:Nat)(d:Ad)(a:Hd)(s:Ae)(k:Nat)(b:Int)(data:List Int)(c:Nat)(f:eZ)(i:Nat)(now:Int)(j:Gl B w)(o:∀ q∈Mut g a,B≤q)(h:PA w D g d a s)(ok:Ah d s)(n:JB w c g 16 k b f i now)(t:c∉Mut g a)(l:∀ q,w.heap.size≤q→D q)(u:0≤now)(v:now≤4294967296)(m:i<s.procs.length)(p:Cz d s.mem.length ⟨16,k,b,data⟩)(r:A4 w (NM g a) f data):
  e7 prog 90 #[G (Z ⟨c,0,O⟩)] w fun e w'=>e=.returned (.bool (actA d i now ⟨16,k,b,data⟩ s).2)∧PA w' D g d a (actA d i now ⟨16,k,b,data⟩ s).1∧Upd (Mut g a) w w':=by
 have hid:i<d.procs.length:=by have:=ok.procs;omega
 exact Pb B w D g d a s 16 k b data c f i now h ok n l j m
section
variable {w w':eO} {D D':Nat→Prop} {g:Nat} {d:Ad} {hd:Hd} {s:Ae}
def Ct.grow{v:eZ}(h:Ct D v)(f:∀ b,D b→D' b):Ct D' v:=fun a m c i e=>f _ (h a m c i e)
def BS.grow{v:eZ}{q:List (List Int)}(h:BS w D v q)(c:∀ b,D b→D' b):BS w D' v q:=by
 obtain⟨vs,j,k,a⟩:=h;exact⟨vs,j,k.grow c,fun i u x e f=>⟨(a i u x e f).1,(a i u x e f).2.grow c⟩⟩
def Am.grow{b sz c:Nat}{t:fC}{a:Option Addr}{α:Type}{El:eO→(Nat→Prop)→Nat→Nat→α→Prop}{l:List α}(h:Am w D b t sz a c El l)(i:¬D' b)(e:∀ b o x,El w D b o x→El w D' b o x):Am w D' b t sz a c El l:=
 ⟨h.cap,h.nil,h.ptr,i,h.lt,h.blk,fun k f=>e _ _ _ (h.el k f)⟩
def PA.Pz(h:PA w D g d hd s):∀ b∈AL g hd,¬D b:=fun b a=>by
 simp only[AL,eQ,eN,or_false] at a;rcases a with rfl|rfl|rfl|rfl|rfl|rfl|rfl|rfl|rfl|rfl|rfl|rfl|rfl
 ·exact h.nd
 ·exact h.Bs.nd
 ·exact h.Bt.nd
 ·exact h.AB.nd
 ·exact h.Ay.nd
 ·exact h.pr.nd
 ·exact h.sa.nd
 ·exact h.qu.nd
 ·exact h.bu.nd
 ·exact h.bo.nd
 ·exact h.se.nd
 ·exact h.ev.nd
 ·exact h.me.nd
def PA.grow(h:PA w D g d hd s)(i:∀ b,D b→D' b)(f:∀ b∈AL g hd,¬D' b):PA w D' g d hd s:=
 ⟨h.blk,f _ (by simp[AL]),h.Bs.grow (f _ (by simp[AL])) fun _ _ _ e=>e,h.Bt.grow (f _ (by simp[AL])) fun _ _ _ e=>e,h.AB.grow (f _ (by simp[AL])) fun _ _ _ e=>e,h.Ay.grow (f _ (by simp[AL])) fun _ _ _ ⟨nm,v,c,a⟩=>⟨nm,v,c,a.1,a.2.grow i⟩,
  h.pr.grow (f _ (by simp[AL])) fun _ _ _ e=>e,h.sa.grow (f _ (by simp[AL])) fun _ _ _ ⟨v,c,a⟩=>⟨v,c,a.1,a.2.grow i⟩,h.qu.grow (f _ (by simp[AL])) fun _ _ _ ⟨v,u,c,a,j⟩=>⟨v,u,c,a.grow i,j.1,j.2.grow i⟩,h.bu.grow (f _ (by simp[AL])) fun _ _ _ ⟨v,p,q,c,a,j,k⟩=>⟨v,p,q,c,⟨a.1,a.2.grow i⟩,⟨j.1,j.2.grow i⟩,k.1,k.2.grow i⟩,
  h.bo.grow (f _ (by simp[AL])) fun _ _ _ ⟨v,c,a⟩=>⟨v,c,a.1,a.2.grow i⟩,h.se.grow (f _ (by simp[AL])) fun _ _ _ ⟨v,c,a⟩=>⟨v,c,a.1,a.2.grow i⟩,h.ev.grow (f _ (by simp[AL])) fun _ _ _ ⟨v,c,a⟩=>⟨v,c,a.1,a.2.grow i⟩,h.me.grow (f _ (by simp[AL])) fun _ _ _ e=>e⟩
def Wo(D:Nat→Prop)(M:List Nat)(b:Nat):Prop:=D b∧b∉M
def PA.wo(h:PA w D g d hd s){M:List Nat}(a:∀ q∈M,w.heap.size≤q):PA w (Wo D M) g d hd s:=h.swap fun b e=>by
 have:b∉M:=fun c=>by have:=a b c;omega
 simp[Wo,this]
def PA.L6{M:List Nat}(h:PA w (Wo D M) g d hd s)(c:∀ b∈AL g hd,¬D b):PA w D g d hd s:=h.grow (fun b a=>a.1) c
def PA.loc{M:List Nat}(h:PA w (Wo D M) g d hd s)(e:∀ b∈AL g hd,b∉M)(i:w.heap.size≤w'.heap.size)(a:∀ b,b<w.heap.size→b∉M→w'.heap[b]? =w.heap[b]?):PA w' (Wo D M) g d hd s:=
 h.Ei ⟨i,fun b hd f=>a b f hd.2⟩ fun b c=>a b (h.K8 b c) (e b c)
end
def Da(w:eO)(a b:Obj):((w.alloc a).alloc b).heap[w.heap.size]? =Z a∧((w.alloc a).alloc b).heap[w.heap.size+1]? =Z b:=by
 refine⟨?_,?_⟩
 ·rw[eX _ _ _ (by simp)];exact eS w a
 ·have:=eS (w.alloc a) b;simpa using this
def DX(w:eO)(a b:Obj):Bl w ((w.alloc a).alloc b):=((eR _ w).alloc (eU _) _).alloc (by simp) _
def Nv:prog.underlying 155=Z (.map 5 28):=by kernel_rfl
def Nw:prog.underlying 5=Z (.int U):=by kernel_rfl
def Iy(k:Int):Nat:=
 match k with
 |1=>76|2=>77|3=>78|4=>79|5=>80|6=>81|7=>82|8=>83
 |9=>84|10=>85|11=>86|12=>87|13=>88|14=>89| _=>90
def Ef(a:Nat)(k:Int)(c:Nat):MapEntry:=⟨I U k,.func (.func (Iy k)) #[G (Z ⟨a,0,O⟩)] #[],c⟩
def LN(a:Nat):List MapEntry:=[Ef a 1 0,Ef a 2 1,Ef a 3 2,Ef a 4 3,Ef a 5 4,Ef a 6 5,Ef a 7 6,Ef a 8 7,Ef a 9 8,Ef a 10 9,Ef a 11 10,Ef a 12 11,Ef a 13 12,Ef a 14 13,Ef a 16 14]
def Rt(a:Nat){k:Int}(h:0≤k∧k≤16)(b:k≠0)(c:k≠15):∃ i,fS (.int U) (I U k) (LN a).toArray.toList 0=Z (Z (i,.func (.func (Iy k)) #[G (Z ⟨a,0,O⟩)] #[])):=by
 rcases(show k=1∨k=2∨k=3∨k=4∨k=5∨k=6∨k=7∨k=8∨k=9∨k=10∨k=11∨k=12∨k=13∨k=14∨k=16 by omega) with rfl|rfl|rfl|rfl|rfl|rfl|rfl|rfl|rfl|rfl|rfl|rfl|rfl|rfl|rfl<;>exact⟨_,rfl⟩
def Ru(a:Nat){k:Int}(h:k=0∨k=15):fS (.int U) (I U k) (LN a).toArray.toList 0=Z O:=by
 rcases h with rfl|rfl<;>rfl
def WH(B:Nat)(w:eO)(D:Nat→Prop)(g:Nat)(d:Ad)(c:Hd)(s:Ae)(a:Int)(k:Nat)(b:Int)(data:List Int)(f:Nat)(j:eZ)(i:Nat)(now:Int)(m:Gl B w)(o:∀ q∈Mut g c,B≤q)(h:PA w D g d c s)(ok:Ah d s)(t:JB w f g a k b j i now)(u:f∉Mut g c)(n:∀ q,w.heap.size≤q→D q)(v:0≤now)(x:now≤4294967296)(r:i<s.procs.length)(l:Cz d s.mem.length ⟨a,k,b,data⟩)(p:A4 w (NM g c) j data)(z:a≠0)(A:a≠15):
  e7 prog (Iy a) #[G (Z ⟨f,0,O⟩)] w fun e w'=>e=.returned (.bool (actA d i now ⟨a,k,b,data⟩ s).2)∧PA w' D g d c (actA d i now ⟨a,k,b,data⟩ s).1∧Upd (Mut g c) w w':=by
 have y:=l.kind;simp only at y;rcases(show a=1∨a=2∨a=3∨a=4∨a=5∨a=6∨a=7∨a=8∨a=9∨a=10∨a=11∨a=12∨a=13∨a=14∨a=16 by omega) with rfl|rfl|rfl|rfl|rfl|rfl|rfl|rfl|rfl|rfl|rfl|rfl|rfl|rfl|rfl
 ·exact Wq B w D g d c s k b data f j i now m o h ok t u n v x r l p
 ·exact Wy B w D g d c s k b data f j i now m o h ok t u n v x r l p
 ·exact Wz B w D g d c s k b data f j i now m o h ok t u n v x r l p
 ·exact W8 B w D g d c s k b data f j i now m o h ok t u n v x r l p
 ·exact WA B w D g d c s k b data f j i now m o h ok t u n v x r l p
 ·exact WB B w D g d c s k b data f j i now m o h ok t u n v x r l p
 ·exact WC B w D g d c s k b data f j i now m o h ok t u n v x r l p
 ·exact WD B w D g d c s k b data f j i now m o h ok t u n v x r l p
 ·exact WE B w D g d c s k b data f j i now m o h ok t u n v x r l p
 ·exact Wr B w D g d c s k b data f j i now m o h ok t u n v x r l p
 ·exact Ws B w D g d c s k b data f j i now m o h ok t u n v x r l p
 ·exact Wu B w D g d c s k b data f j i now m o h ok t u n v x r l p
 ·exact Wv B w D g d c s k b data f j i now m o h ok t u n v x r l p
 ·exact Ww B w D g d c s k b data f j i now m o h ok t u n v x r l p
 ·exact Wx B w D g d c s k b data f j i now m o h ok t u n v x r l p
def Ro(w:eO)(D:Nat→Prop)(g:Nat)(d:Ad)(c:Hd)(s:Ae)(a:Ac)(e:fK)(w':eO):Prop:=
 ∃ f,e=.returned (.agg #[I U a.kind,I J a.a,I J a.b,f])∧Af U w' w.heap.size f a.data∧PA w' D g d c s∧Upd (Mut g c) w w'
def GU{W a:eO}{B:Nat}{v:eZ}{l:List Int}(h:Af U W B v l)(i:W.heap.size≤a.heap.size)(c:∀ b,B≤b→b<W.heap.size→a.heap[b]? =W.heap[b]?):Af U a B v l:=by
 have g:Ct (fun b=>B≤b) v:=Ja h fun b c _=>c
 have d:=A4.Ag (D:=fun b=>B≤b) (w':=a) ⟨h.mono (fu _),g⟩ ⟨i,fun b e f=>c b e f⟩;exact Np h d.1
def ZQ(W:eO):(zeroValue 28).run prog W=.ok .nilFunc W:=by kernel_rfl
def Tu{k:Int}(h:0≤k∧k≤16)(a:k≠0)(b:k≠15):∀ args w,(callFunc (Iy k) args).run prog w=.ok (.enter (Iy k) args) w:=by
 rcases(show k=1∨k=2∨k=3∨k=4∨k=5∨k=6∨k=7∨k=8∨k=9∨k=10∨k=11∨k=12∨k=13∨k=14∨k=16 by omega) with rfl|rfl|rfl|rfl|rfl|rfl|rfl|rfl|rfl|rfl|rfl|rfl|rfl|rfl|rfl<;>exact fun _ _=>by kernel_rfl
def TE:EG 75:=fun _ _=>by kernel_rfl
def YA(B:Nat)(w:eO)(D:Nat→Prop)(g:Nat)(d:Ad)(l:Hd)(s:Ae)(i:Nat)(now:Int)(cr:Gl B w)(hM:∀ q∈Mut g l,B≤q)(h:PA w D g d l s)(ok:Ah d s)(c5:K0 d)(c3:∀ x∈s.boards,0≤x.val∧x.val≤255)(cj:Ed (d.procs.getD i default).code.length (s.procs.getD i default).s)(hD:∀ q,w.heap.size≤q→D q)(dm:0≤now)(dn:now≤4294967296)(hi:i<s.procs.length):
  e7 prog 46 #[G (Z ⟨g,0,O⟩),I J i,I J now] w (Ro w D g d l (EI d i now s).1 (EI d i now s).2):=by
 have hid:i<d.procs.length:=by have:=ok.procs;omega
 have ew:(i:Int)<(d.procs.length:Int):=by omega
 have ey:(i:Int)<(s.procs.length:Int):=by omega
 have ez:=ok.procs;have db:=h.Ke;have c1:=h.K8;have de:=h.Pz;have ev:=h.lt;rw[getD_eq hid,getD_eq hi] at cj;obtain⟨r0,r1,r2,r3,hr,dQ⟩:=h.pr.el i hi;have dl:s.procs[i].s=⟨s.procs[i].s.pc,s.procs[i].s.left,[r0,r1,r2,r3]⟩:=by rw[←hr]
 have az:=Q8 (c5 _ (fg hid)) cj ok.I0;have cl:=ok.pr _ (fg hi);have ci:=ok.ok.pc _ (fg hid);obtain⟨rr,bL⟩:=ex (FZ d.procs[i].code s.procs[i].s s.mem);rw[←bL] at az;obtain⟨⟨aV,a6,R'⟩,n,ra,r,m⟩:=rr;obtain⟨s0,s1,s2,s3,rfl⟩:∃ s0 s1 s2 s3,R'=[s0,s1,s2,s3]:=by
  have h4:=az.1.AG;simp only at h4
  match R',h4 with
  | [a,b,c,e],_=>exact⟨a,b,c,e,rfl⟩
 obtain⟨k,rfl⟩:∃ k:Nat,ra=(k:Int):=⟨ra.toNat,by have:=az.2.nn;simp only at this;omega⟩;obtain⟨x1,bN⟩:∃ x1:BA,x1={s.procs[i] with s:=⟨aV,a6,[s0,s1,s2,s3]⟩}:=⟨_,rfl⟩;have dK:=HH bN;have ch:Ah d {s with procs:=s.procs.set i x1}:=ok.G4 i (by
  have h4:=az.1.pc;have h5:=ci.len;simp only at h4;rw[bN];exact {cl with AG:=az.1.AG,bytes:=az.1.bytes,pc:=⟨h4.1,by show aV≤24;omega⟩,left:=az.1.left})
 have cY:EI d i now s=(if(actA d i now ⟨n,k,r,m⟩ {s with procs:=s.procs.set i x1}).2 then(actA d i now ⟨n,k,r,m⟩ {s with procs:=s.procs.set i x1}).1 else {(actA d i now ⟨n,k,r,m⟩ {s with procs:=s.procs.set i x1}).1 with procs:=(actA d i now ⟨n,k,r,m⟩ {s with procs:=s.procs.set i x1}).1.procs.set i (waitR ⟨n,k,r,m⟩ ((actA d i now ⟨n,k,r,m⟩ {s with procs:=s.procs.set i x1}).1.procs.getD i default))},⟨n,k,r,m⟩):=by
  simp only[EI];rw[getD_eq hid,getD_eq hi,←bL,bN]
 rw[cY];have b8:=Ah.act (now:=now) (i:=i) (a:=⟨n,k,r,m⟩) ch c3 (by simpa using hi) az.2 dm dn;obtain⟨t,ht⟩:=ex (actA d i now ⟨n,k,r,m⟩ {s with procs:=s.procs.set i x1});rw[←ht] at b8 ⊢;obtain⟨a4,ce⟩:=ex (if t.2 then t.1 else {t.1 with procs:=t.1.procs.set i (waitR ⟨n,k,r,m⟩ (t.1.procs.getD i default))});rw[←ce];have ba:=HH ce;clear ce;obtain⟨HT,dE,dG,a1,OK,dJ,cD,HG,HM,a0,bw,bV⟩:=Rb ht b8 ch az ok bL dl cr hM db c1 de;obtain⟨dF,dL,dH⟩:=H3 hD cl ci;have h':PA w (Wo D [w.heap.size,w.heap.size+1]) g d l s:=h.wo (by intro q hq;simp only[eQ,eN,or_false] at hq;omega);have H:=HH h';have cg:w.cell? ⟨g,10,O⟩=Z (Y (Z ⟨l.pr.b,0,O⟩) s.procs.length l.pr.c):=h.FC (by omega);have cap:=h.pr.cap;have dM:∀ ob,(w.alloc ob).cell? ⟨g,10,O⟩=Z (Y (Z ⟨l.pr.b,0,O⟩) s.procs.length l.pr.c):=fun ob=>by
  rw[e5 _ _ _ (fi h.lt)];exact cg
 clear cY bN ht b8 ch az bL ok cj dl dQ hr h h' hM db c1 de hD cl ci cr c5 c3;go_enter func46,ntmps46;go_upto_region 3 with (fail);clear cg dM;obtain⟨Q,bp⟩:=ex ((w.alloc (T #[I U 0,I J 0,I J 0,Y O 0 0] 40)).alloc (T #[I U 0,I J 0,I J 0,Y O 0 0] 40));rw[←bp];obtain⟨cn,cp⟩:=Da w (T #[I U 0,I J 0,I J 0,Y O 0 0] 40) (T #[I U 0,I J 0,I J 0,Y O 0 0] 40);have bQ:Hq (Bl w Q):=by rw[bp];exact DX w _ _
 have ay:Hq (Q.heap.size=w.heap.size+1+1):=by rw[bp];show _=_;simp
 rw[←bp] at cn cp;obtain⟨Q0,Q1⟩:=H2 cn cp;clear cn cp bp;have h0:=H.o.below bQ.o;obtain⟨ei,ej,ek,em,hr,hc⟩:=h0.pr.el i hi;obtain⟨rfl,rfl,rfl,rfl⟩:r0=ei∧r1=ej∧r2=ek∧r3=em:=by
  have h1:=hr;rw[cD.o] at h1;simp only[fk,and_true] at h1;exact h1
 have c8:=h0.lt;have aT:=h0.pr.lt;have dT:=h0.Ay.lt;have er:=h0.Ay.cap;obtain⟨nm,vc,c4,cd⟩:=h0.Ay.el i hid;obtain⟨ac,cc,rfl,_,_⟩:=cd.1.open_;have cu:=HH cd;have cP:=h0.GW (by omega);have cO:Q.cell? ⟨g,19,O⟩=Z (Y l.me.a s.mem.length l.me.c):=h0.cell 19;have yv:Q.cell? ⟨l.Ay.b,i*5+4,O⟩=Z (.slice ac d.procs[i].code.length cc):=c4 4 _ rfl;have y1:Q.cell? ⟨l.pr.b,i*12+1,O⟩=Z (I J s.procs[i].s.pc):=hc 1 _ rfl;have y2:Q.cell? ⟨l.pr.b,i*12+2,O⟩=Z (I J s.procs[i].s.left):=hc 2 _ rfl;have y3:Q.cell? ⟨l.pr.b,i*12+3,O⟩=Z (I U r0):=hc 3 _ rfl;have y4:Q.cell? ⟨l.pr.b,i*12+4,O⟩=Z (I U r1):=hc 4 _ rfl;have y5:Q.cell? ⟨l.pr.b,i*12+5,O⟩=Z (I U r2):=hc 5 _ rfl;have y6:Q.cell? ⟨l.pr.b,i*12+6,O⟩=Z (I U r3):=hc 6 _ rfl;have ec:=qC y1 aT;have ed:=qC y2 aT;have ee:=qC y3 aT;have ef:=qC y4 aT;have eg:=qC y5 aT;have eh:=qC y6 aT;have dY:=qC cP c8;have dX:=qC cO c8;have dZ:=qC yv dT;have bX:Hq (Cn Q l.me.a s.mem∧s.mem.length≤l.me.c):=⟨fun j hj=>⟨l.me.b,h0.me.ptr (by omega),h0.me.lt,by
  have:=h0.me.el j hj 0 _ rfl;simpa using this⟩,h0.me.cap⟩
 have HC:Hq (∀ W,Bl Q W→e7 prog 75 #[.slice ac d.procs[i].code.length cc,.agg #[I J s.procs[i].s.pc,I J s.procs[i].s.left,I U r0,I U r1,I U r2,I U r3],Y l.me.a s.mem.length l.me.c] W fun e w'=>∃ vd,e=.returned (.tuple #[.agg #[I J aV,I J a6,I U s0,I U s1,I U s2,I U s3],.agg #[I U n,I J k,I J r,vd]])∧Af U w' W.heap.size vd m∧Bl W w'):=fun W C=>by
  have hx:=dL.o;have hp:=dH.o;have:=YY B (.slice ac d.procs[i].code.length cc) d.procs[i].code ⟨s.procs[i].s.pc,s.procs[i].s.left,[r0,r1,r2,r3]⟩ l.me.a l.me.c s.mem W ((HG.o.below bQ.o).below C) (cu.o.1.below C) ⟨by have:=hp.len;omega,hp.ops⟩ (by have:=hx.pc.1;show-1≤s.procs[i].s.pc;omega) (by have:=hx.pc.2;show s.procs[i].s.pc≤_;omega) hx.left.1 hx.left.2 rfl (by have:=hx.bytes;rw[hr] at this;exact this) (fun j hj=>by
   obtain⟨bm,e1,e2,e3⟩:=bX.o.1 j hj;exact⟨bm,e1,fa e2 C.size,(C.cell (p:=⟨bm,j,O⟩) e2).trans e3⟩) bX.o.2
  rw[show (⟨s.procs[i].s.pc,s.procs[i].s.left,[r0,r1,r2,r3]⟩:St)=s.procs[i].s from by rw[←hr]] at this;have e2:=dJ.o;rw[←e2,cD.o] at this;exact this
 have H0:=HH h0;clear h0 hr hc c4 cd cP cO yv y1 y2 y3 y4 y5 y6;refine AS 26 [24,25] [21] [(18,(fun v w'=>∃ z A,v=.tuple #[.agg #[I J aV,I J a6,I U s0,I U s1,I U s2,I U s3],.agg #[I U n,I J k,I J r,Y z m.length A]]∧Af U w' Q.heap.size (Y z m.length A) m))] ⟨(fun v w1 w2 ⟨a2,c2,e,h⟩ C=>⟨a2,c2,e,h.below C⟩),trivial⟩ ?_
 iterate 18 (refine An rfl rfl rfl ?_;intro K hK;go_big_quiet_op;go_big_quiet_on)
 refine A9 rfl rfl (fun w' C hA=>?_) ?_
 ·refine AD (f:=75) (al:=[.slice ac d.procs[i].code.length cc,.agg #[I J s.procs[i].s.pc,I J s.procs[i].s.left,I U r0,I U r1,I U r2,I U r3],Y l.me.a s.mem.length l.me.c]) rfl rfl rfl TE ?_;exact(HC.o w' C).mono fun e w2 h=>by
   obtain⟨vd,he,hf,dP⟩:=h;obtain⟨a2,c2,rfl,_,_⟩:=hf.open_;exact⟨_,he,dP,_,_,rfl,hf.mono C.size⟩
 intro v w' C hv;obtain⟨z,A,rfl,dS⟩:=hv;clear C dS w';simp only[Au,eJ,eM,eL]
 iterate 2 (refine An rfl rfl rfl ?_;intro K hK;go_big_quiet_op;go_big_quiet_on)
 iterate 1 (refine Bi rfl rfl rfl ?_;intro K hK;go_big_quiet_op;go_big_quiet_on)
 iterate 2 (refine An rfl rfl rfl ?_;intro K hK;go_big_quiet_op;go_big_quiet_on)
 refine AH rfl ?_;refine AH rfl ?_;refine AR ?_;intro w9 aA bM;obtain⟨eq,es,e3,dk⟩:=bM 18 _ (by decide) rfl;simp only[Value.tuple.injEq,fm,fk,fq,eT,true_and,and_true] at e3;obtain⟨rfl,rfl⟩:=e3;have h9:=H0.o.below aA;have F9:∀ o,w9.frozen? ⟨l.pr.b,o,O⟩=false:=h9.pr.frozen (by omega);obtain⟨q0,q1,q2,q3,bK,af⟩:=h9.pr.el i hi;have z1:w9.cell? ⟨l.pr.b,i*12+1,O⟩=Z _:=af 1 _ rfl;have f1:=F9 (i*12+1);have z2:w9.cell? ⟨l.pr.b,i*12+2,O⟩=Z _:=af 2 _ rfl;have f2:=F9 (i*12+2);have z3:w9.cell? ⟨l.pr.b,i*12+3,O⟩=Z _:=af 3 _ rfl;have f3:=F9 (i*12+3);have z4:w9.cell? ⟨l.pr.b,i*12+4,O⟩=Z _:=af 4 _ rfl;have f4:=F9 (i*12+4);have z5:w9.cell? ⟨l.pr.b,i*12+5,O⟩=Z _:=af 5 _ rfl;have f5:=F9 (i*12+5);have z6:w9.cell? ⟨l.pr.b,i*12+6,O⟩=Z _:=af 6 _ rfl;have f6:=F9 (i*12+6);have aG:=h9.FY hi [(1,I J aV),(2,I J a6),(3,I U s0),(4,I U s1),(5,I U s2),(6,I U s3)] rfl af (x:=x1) fun w' cb dV=>by
  rw[dK.o];exact⟨s0,s1,s2,s3,rfl,cb⟩
 obtain⟨W1,b6⟩:=ex ((((((w9.setCell ⟨l.pr.b,i*12+1,O⟩ (I J aV)).setCell ⟨l.pr.b,i*12+2,O⟩ (I J a6)).setCell ⟨l.pr.b,i*12+3,O⟩ (I U s0)).setCell ⟨l.pr.b,i*12+4,O⟩ (I U s1)).setCell ⟨l.pr.b,i*12+5,O⟩ (I U s2)).setCell ⟨l.pr.b,i*12+6,O⟩ (I U s3));refine AI (w':=W1) (by rw[b6];simp[fl,go_sem,z1,f1,z2,f2,z3,f3,z4,f4,z5,f5,z6,f6]) ?_;have a3:W1=setsAt w9 l.pr.b (i*12) [(1,I J aV),(2,I J a6),(3,I U s0),(4,I U s1),(5,I U s2),(6,I U s3)]:=b6;rw[←a3] at aG;have eA:l.pr.b<w.heap.size:=a0.o _ (by simp[Mut]);have du:W1.heap[w.heap.size]? =Z (T #[I U 0,I J 0,I J 0,Y O 0 0] 40 (0,0)):=by
  rw[a3,AU (by omega)];exact(aA.block _ (by have:=ay.o;omega)).trans Q0.o
 have bs:W1.heap[w.heap.size+1]? =Z (T #[I U 0,I J 0,I J 0,Y O 0 0] 40 (0,0)):=by
  rw[a3,AU (by omega)];exact(aA.block _ (by have:=ay.o;omega)).trans Q1.o
 have di:Af U W1 Q.heap.size (Y z m.length A) m:=GU dk (by rw[a3,BO];exact eU _) fun j dO _=>by
  have aS:j≠l.pr.b:=by have:=ay.o;omega
  rw[a3];exact AU aS _ _
 have cz:=HH aG.1;have bZ:Hq (Upd (Mut g l) w W1):=((Upd.below bQ.o).trans (Upd.below aA)).trans aG.2;clear b6 a3 aG af bK F9 h9 dk z1 f1 z2 f2 z3 f3 z4 f4 z5 f5 z6 f6 ec ed ee ef eg eh dY dX dZ;obtain⟨z0,z1,z2,z3⟩:=r4 bs;obtain⟨bh,bi,bj,bk⟩:=f4 bs;obtain⟨y,b7⟩:=ex ((((W1.setCell ⟨w.heap.size+1,0,O⟩ (I U n)).setCell ⟨w.heap.size+1,1,O⟩ (I J k)).setCell ⟨w.heap.size+1,2,O⟩ (I J r)).setCell ⟨w.heap.size+1,3,O⟩ (Y z m.length A));refine AI (w':=y) (by rw[b7];simp[fl,go_sem,z0,bh,z1,bi,z2,bj,z3,bk]) ?_;unfold A7;have ai:y=setsAt W1 (w.heap.size+1) 0 [(0,I U n),(1,I J k),(2,I J r),(3,Y z m.length A)]:=b7;have dr:y.heap[w.heap.size]? =Z (T #[I U 0,I J 0,I J 0,Y O 0 0] 40 (0,0)):=by
  rw[ai,AU (by omega)];exact du
 have cm:y.heap[w.heap.size+1]? =Z (T #[I U n,I J k,I J r,Y z m.length A] 40 (0,0)):=by
  rw[ai];have hh:=Di [(0,I U n),(1,I J k),(2,I J r),(3,Y z m.length A)] bs;simp only[Er,eJ,eM,eL] at hh;exact hh
 have dj:Af U y Q.heap.size (Y z m.length A) m:=GU di (by rw[ai,BO];exact eU _) fun j dO _=>by
  have aS:j≠w.heap.size+1:=by have:=ay.o;omega
  rw[ai];exact AU aS _ _
 have cA:Hq (PA y (Wo D [w.heap.size,w.heap.size+1]) g d l {s with procs:=s.procs.set i x1}):=cz.o.loc (fun b C=>by
  have:=bw.o b C;simp only[eQ,eN,or_false,not_or];omega) (by rw[ai,BO];exact eU _) fun b C F=>by
   rw[ai];exact AU (fun e=>F (by simp[e])) _ _
 have cG:Hq (Upd (Mut g l) w y):=by
  have E:=bZ.o;refine⟨?_,?_,?_,?_,fun j hj F=>?_⟩
  ·rw[ai,(Be _ _).1];exact E.os
  ·rw[ai,(Be _ _).2.1];exact E.tape
  ·rw[ai,(Be _ _).2.2];exact E.output
  ·rw[ai,BO];exact E.size
  ·rw[ai,AU (by omega)];exact E.block j hj F
 have cB:=HH dj;have cE:Hq (Q.heap.size≤y.heap.size):=by
  rw[ai,BO];have:=bZ.o.size;have:=Aa bs;have:=ay.o;show _≤_;omega
 obtain⟨b0,b1⟩:=H2 dr cm;clear b7 ai du bs di dj bM aA z0 bh z1 bi z2 bj z3 bk cz bZ HC bX cu H0 Q0 Q1;obtain⟨z0,z1,z2,z3⟩:=r4 cm;clear dr cm;go_upto_region 5 with (fail);obtain⟨W3,bH⟩:=ex (y.alloc (T #[G (Z ⟨g,0,O⟩),I U n,I J k,I J r,Y z m.length A,I J i,I J now] 154));rw[←bH];have da:W3.heap[y.heap.size]? =Z (T #[G (Z ⟨g,0,O⟩),I U n,I J k,I J r,Y z m.length A,I J i,I J now] 154 (0,0)):=by
  rw[bH];exact eS y _
 have bR:Hq (Bl y W3):=by
  rw[bH];exact(eR _ y).alloc (eU _) _
 have bU:=HH da;clear bH da z0 z1 z2 z3;go_upto_region 6 with (first|(refine ZM rfl rfl ?_)|(refine ZJ rfl rfl Nv Nw rfl rfl rfl rfl ?_)|fail);obtain⟨N,bI⟩:=ex (W3.alloc (.map #[⟨I U 1,.func (.func 76) #[G (Z ⟨y.heap.size,0,O⟩)] #[],0⟩,⟨I U 2,.func (.func 77) #[G (Z ⟨y.heap.size,0,O⟩)] #[],1⟩,⟨I U 3,.func (.func 78) #[G (Z ⟨y.heap.size,0,O⟩)] #[],2⟩,⟨I U 4,.func (.func 79) #[G (Z ⟨y.heap.size,0,O⟩)] #[],3⟩,⟨I U 5,.func (.func 80) #[G (Z ⟨y.heap.size,0,O⟩)] #[],4⟩,⟨I U 6,.func (.func 81) #[G (Z ⟨y.heap.size,0,O⟩)] #[],5⟩,⟨I U 7,.func (.func 82) #[G (Z ⟨y.heap.size,0,O⟩)] #[],6⟩,⟨I U 8,.func (.func 83) #[G (Z ⟨y.heap.size,0,O⟩)] #[],7⟩,⟨I U 9,.func (.func 84) #[G (Z ⟨y.heap.size,0,O⟩)] #[],8⟩,⟨I U 10,.func (.func 85) #[G (Z ⟨y.heap.size,0,O⟩)] #[],9⟩,⟨I U 11,.func (.func 86) #[G (Z ⟨y.heap.size,0,O⟩)] #[],10⟩,⟨I U 12,.func (.func 87) #[G (Z ⟨y.heap.size,0,O⟩)] #[],11⟩,⟨I U 13,.func (.func 88) #[G (Z ⟨y.heap.size,0,O⟩)] #[],12⟩,⟨I U 14,.func (.func 89) #[G (Z ⟨y.heap.size,0,O⟩)] #[],13⟩,⟨I U 16,.func (.func 90) #[G (Z ⟨y.heap.size,0,O⟩)] #[],14⟩] 15));rw[←bI];have bx:Hq (N.heap[W3.heap.size]? =Z (.map (LN y.heap.size).toArray 15)):=by
  rw[bI];exact eS W3 _
 have bS:Hq (Bl W3 N):=by
  rw[bI];exact(eR _ W3).alloc (eU _) _
 clear bI;have aY:Hq (Bl y N):=bR.o.trans (bS.o.mono bR.o.size);have bf:Hq (N.heap[w.heap.size+1]? =Z (T #[I U n,I J k,I J r,Y z m.length A] 40 (0,0))):=(aY.o.block _ (Aa b1.o)).trans b1.o;have bB:Hq (N.heap[w.heap.size]? =Z (T #[I U 0,I J 0,I J 0,Y O 0 0] 40 (0,0))):=(aY.o.block _ (Aa b0.o)).trans b0.o;have bW:Hq (PA N (Wo D [w.heap.size,w.heap.size+1]) g d l {s with procs:=s.procs.set i x1}):=cA.o.below aY.o;have bA:Hq (Upd (Mut g l) w N):=cG.o.trans (Upd.below aY.o);have cx:Hq (JB N y.heap.size g n k r (Y z m.length A) i now):=(bS.o.block _ (Aa bU.o)).trans bU.o;have bz:Hq (Af U N Q.heap.size (Y z m.length A) m):=cB.o.below aY.o;have bY:Hq (Q.heap.size≤N.heap.size):=e8 cE.o aY.o.size;have dp:N.cell? ⟨w.heap.size+1,0,O⟩=Z (I U n):=Cr bf.o;clear bR bS bU b0 b1 cG cB cE;by_cases bq:n=0∨n=15
 ·obtain⟨HF,HK⟩:=H2 (Ru y.heap.size bq) bq;have a9:Hq (a4={s with procs:=s.procs.set i x1}):=by
   show _=_;rw[ba.o,HT.o];rcases HK.o with e|e
   ·subst e;rfl
   ·subst e;rfl
  clear bq;go_upto_region 9 with (first|(refine ZL rfl rfl Nv Nw (ZQ _) bx.o rfl rfl HF.o ?_)|fail);clear bx dp;have bc:Hq (PA N (Wo D [w.heap.size,w.heap.size+1]) g d l a4):=by rw[a9.o];exact bW.o
  have bd:Hq (Upd (Mut g l) w N):=bA.o;have a8:=HH (Gj (Y z m.length A) m N (bz.o.mono (fu _)) (by have:=a1.o.2.data;simp only at this;omega));have bg:Hq (N.heap[w.heap.size]? =Z (T #[I U 0,I J 0,I J 0,Y O 0 0] 40 (0,0))):=bB.o;have aM:Hq (N.heap[w.heap.size+1]? =Z (T #[I U n,I J k,I J r,Y z m.length A] 40 (0,0))):=bf.o;have zq:N.cell? ⟨w.heap.size+1,3,O⟩=Z (Y z m.length A):=Cr aM.o;go_wp2_with fail;refine a8.o.mono ?_;rintro e L ⟨u,rfl,ho,ae⟩;obtain⟨S,V,rfl⟩:=Bq ho;obtain⟨bb,aK⟩:=H2 ho ae;have R:Hq (w.heap.size+1<N.heap.size):=by have:=ay.o;have:=bY.o;show _<_;omega
  have aw:L.heap[w.heap.size]? =Z (T #[I U 0,I J 0,I J 0,Y O 0 0] 40 (0,0)):=(ae.block _ (by have:=R.o;omega)).trans bg.o;have ax:L.heap[w.heap.size+1]? =Z (T #[I U n,I J k,I J r,Y z m.length A] 40 (0,0)):=(ae.block _ R.o).trans aM.o;obtain⟨z0,z1,z2,z3⟩:=r4 ax;obtain⟨bh,bi,bj,bk⟩:=f4 ax;obtain⟨y0,y1,y2,y3⟩:=r4 aw;obtain⟨cR,cS,cT,cU⟩:=f4 aw;clear aw ax zq ho ae;go_wp2_with fail;refine eP (v:=.agg #[I U n,I J k,I J r,Y S m.length V]) (by simp[fb,results46,go_sem,z0,z1,z2,z3,y0,y1,y2,y3]) rfl ?_;obtain⟨W9,aq⟩:=ex (((((L.setCell ⟨w.heap.size+1,3,O⟩ (Y S m.length V)).setCell ⟨w.heap.size,0,O⟩ (I U n)).setCell ⟨w.heap.size,1,O⟩ (I J k)).setCell ⟨w.heap.size,2,O⟩ (I J r)).setCell ⟨w.heap.size,3,O⟩ (Y S m.length V));rw[←aq];have X:W9=setsAt (setsAt L (w.heap.size+1) 0 [(3,Y S m.length V)]) w.heap.size 0 [(0,I U n),(1,I J k),(2,I J r),(3,Y S m.length V)]:=aq;have au:W9.heap.size=L.heap.size:=by rw[X,BO,BO]
  have hoth:∀ j,j≠w.heap.size→j≠w.heap.size+1→W9.heap[j]? =L.heap[j]?:=fun j h1 h2=>by
   rw[X,AU h1,AU h2]
  clear aq;refine⟨_,rfl,?_,?_,?_⟩
  ·refine(GU bb.o.rd (eK au.symm) fun j hj _=>hoth j (by have:=R.o;omega) (by have:=R.o;omega)).mono (by have:=R.o;omega)
  ·refine PA.L6 (M:=[w.heap.size,w.heap.size+1]) ((bc.o.below aK.o).loc (fun b C=>?_) (eK au.symm) fun b C F=>?_) bV.o
   ·have:=bw.o b C;simp only[eQ,eN,or_false,not_or];omega
   ·simp only[eQ,eN,or_false,not_or] at F;exact hoth b F.1 F.2
  ·have E:=bd.o.trans (Upd.below aK.o);refine⟨?_,?_,?_,?_,fun j hj F=>?_⟩
   ·rw[X,(Be _ _).1,(Be _ _).1];exact E.os
   ·rw[X,(Be _ _).2.1,(Be _ _).2.1];exact E.tape
   ·rw[X,(Be _ _).2.2,(Be _ _).2.2];exact E.output
   ·rw[au];exact E.size
   ·rw[hoth j (by omega) (by omega)];exact E.block j hj F
 ·have HK:=HH bq;obtain⟨ix,HF⟩:=Rt y.heap.size a1.o.2.kind (fun h=>HK.o (.inl h)) (fun h=>HK.o (.inr h));replace HF:=HH HF;clear bq;have dR:∀ args W,(callFunc (Iy n) args).run prog W=.ok (.enter (Iy n) args) W:=Tu a1.o.2.kind (fun h=>HK.o (.inl h)) (fun h=>HK.o (.inr h));have bT:=HH (WH B N (Wo D [w.heap.size,w.heap.size+1]) g d l {s with procs:=s.procs.set i x1} n k r m y.heap.size (Y z m.length A) i now (HG.o.BG bA.o HM.o) HM.o bW.o dG.o cx.o (fun hm=>by have:=cA.o.Ke _ hm;omega) (fun q hq=>⟨dF.o q (by have:=ay.o;have:=bY.o;omega),by simp only[eQ,eN,or_false,not_or];have:=ay.o;have:=bY.o;omega⟩) dm dn (by simpa using hi) a1.o.2 (bz.o.CZ fun b C _ hm=>by have:=a0.o b hm;have:=ay.o;omega) (fun h=>HK.o (.inl h)) (fun h=>HK.o (.inr h)));rw[←HT.o] at bT;go_upto_region 7 with (first|(refine ZK rfl rfl Nv Nw bx.o rfl rfl HF.o ?_)|fail);clear bx dp;go_wp2_with fail;refine bT.o.mono ?_;rintro e P ⟨rfl,p5,u5⟩;have P5:=HH p5;have U5:Hq (Upd (Mut g l) w P):=bA.o.trans u5;have dc:w.heap.size∉Mut g l:=fun hm=>by have:=a0.o _ hm;omega
  have dd:w.heap.size+1∉Mut g l:=fun hm=>by have:=a0.o _ hm;omega
  have b3:Hq (P.heap[w.heap.size]? =Z (T #[I U 0,I J 0,I J 0,Y O 0 0] 40 (0,0))):=(u5.block _ (Aa bB.o) dc).trans bB.o;have aB:Hq (P.heap[w.heap.size+1]? =Z (T #[I U n,I J k,I J r,Y z m.length A] 40 (0,0))):=(u5.block _ (Aa bf.o) dd).trans bf.o;have cC:Hq (A4 P (NM g l) (Y z m.length A) m):=A4.Ag (bz.o.CZ fun b C _ hm=>by have:=a0.o b hm;have:=ay.o;omega) (KeepD.nm u5);clear p5 u5 dR bT HF bz cx bW bA bB bf;cases bJ:t.2
  ·have a9:Hq (a4={t.1 with procs:=t.1.procs.set i (waitR ⟨n,k,r,m⟩ (t.1.procs.getD i default))}):=by
    show _=_;rw[ba.o,bJ];rfl
   have cf:i<t.1.procs.length:=by have:=dE.o.procs;omega
   have aT:=P5.o.pr.lt;clear ba;have ea:∀ p:MC.FI (MC.Dj P [w.heap.size+1]),p.W.cell? ⟨w.heap.size+1,0,O⟩=Z (I U n):=fun p=>(p.cell (by simp)).trans (Cr aB.o);have eb:∀ p:MC.FI (MC.Dj P [w.heap.size+1]),p.W.cell? ⟨w.heap.size+1,1,O⟩=Z (I J k):=fun p=>(p.cell (by simp)).trans (Cr aB.o);go_upto_region 8 with (fail);clear bJ;refine MC.AS (MC.Dj P [w.heap.size+1]) 16 [9,12,15] [1,2,3,4,5,6,10,11,13,14] [] (MC.LP (fun b C=>by simp only[fd] at C;have:=Aa aB.o;omega)) trivial ?_
   iterate 1 (refine MC.An rfl rfl rfl ?_;intro K hK;go_big_quiet_op;go_big_quiet_on)
   iterate 6 (refine MC.Bi rfl rfl rfl ?_;intro K hK;go_big_quiet_op;go_big_quiet_on)
   iterate 2 (refine MC.An rfl rfl rfl ?_;intro K hK;go_big_quiet_op;go_big_quiet_on)
   refine MC.AH rfl ?_
   iterate 2 (refine MC.Bi rfl rfl rfl ?_;intro K hK;go_big_quiet_op;go_big_quiet_on)
   refine MC.AH rfl ?_
   iterate 2 (refine MC.Bi rfl rfl rfl ?_;intro K hK;go_big_quiet_op;go_big_quiet_on)
   refine MC.AH rfl ?_;refine MC.AR ?_;intro w9 aA bM;clear bM ea eb;have h9:=P5.o.below aA;have F9:∀ o,w9.frozen? ⟨l.pr.b,o,O⟩=false:=h9.pr.frozen (by omega);obtain⟨q0,q1,q2,q3,bK,af⟩:=h9.pr.el i cf;have z0:w9.cell? ⟨l.pr.b,i*12,O⟩=Z _:=af 0 _ rfl;have f0:=F9 (i*12);have bO:w9.cell? ⟨l.pr.b,i*12+10,O⟩=Z _:=af 10 _ rfl;have f10:=F9 (i*12+10);have bP:w9.cell? ⟨l.pr.b,i*12+11,O⟩=Z _:=af 11 _ rfl;have f11:=F9 (i*12+11);have aG:=h9.FY cf [(0,I U 3),(10,I U n),(11,I J k)] rfl af (x:=waitR ⟨n,k,r,m⟩ (t.1.procs.getD i default)) fun w' cb dV=>by
    rw[getD_eq cf];exact⟨q0,q1,q2,q3,bK,cb⟩
   have aS:l.pr.b∉ [w.heap.size+1]:=by
    simp only[fd];have:=a0.o l.pr.b (by simp[Mut]);omega
   have cZ:MC.Dj P [w.heap.size+1] w9:=MC.LP (fun b C=>by simp only[fd] at C;have:=Aa aB.o;omega) _ aA;obtain⟨V0,a5⟩:=ex (w9.setCell ⟨l.pr.b,i*12,O⟩ (I U 3));obtain⟨V1,bo⟩:=ex (V0.setCell ⟨l.pr.b,i*12+10,O⟩ (I U n));obtain⟨V2,bG⟩:=ex (V1.setCell ⟨l.pr.b,i*12+11,O⟩ (I J k));have b9:MC.Dj P [w.heap.size+1] V0:=by rw[a5];exact cZ.set aS _
   refine MC.AI (w':=V0) (by rw[a5];simp[fl,go_sem,z0,f0,bO,f10,bP,f11]) b9 ?_;have ca:MC.Dj P [w.heap.size+1] V1:=by rw[bo];exact b9.set aS _
   refine MC.AI (w':=V1) (by rw[bo,a5];simp[fl,go_sem,z0,f0,bO,f10,bP,f11]) ca ?_;have c0:MC.Dj P [w.heap.size+1] V2:=by rw[bG];exact ca.set aS _
   refine MC.AI (w':=V2) (by rw[bG,bo,a5];simp[fl,go_sem,z0,f0,bO,f10,bP,f11]) c0 ?_;unfold MC.A7;have eV:V2=setsAt w9 l.pr.b (i*12) [(0,I U 3),(10,I U n),(11,I J k)]:=by rw[bG,bo,a5];rfl
   rw[←eV] at aG;have dI:=HH aG.1;have be:Hq (Upd (Mut g l) P V2):=(Upd.below aA).trans aG.2;clear a5 bo bG eV aG af bK F9 h9 aA cZ b9 ca c0 z0 f0 bO f10 bP f11;have bc:Hq (PA V2 (Wo D [w.heap.size,w.heap.size+1]) g d l a4):=by rw[a9.o];exact dI.o
   have bd:Hq (Upd (Mut g l) w V2):=U5.o.trans be.o;have a8:=HH (Gj (Y z m.length A) m V2 ((cC.o.Ag (KeepD.nm be.o)).1) (by have:=a1.o.2.data;simp only at this;omega));have bg:Hq (V2.heap[w.heap.size]? =Z (T #[I U 0,I J 0,I J 0,Y O 0 0] 40 (0,0))):=(be.o.block _ (Aa b3.o) dc).trans b3.o;have aM:Hq (V2.heap[w.heap.size+1]? =Z (T #[I U n,I J k,I J r,Y z m.length A] 40 (0,0))):=(be.o.block _ (Aa aB.o) dd).trans aB.o;have zq:V2.cell? ⟨w.heap.size+1,3,O⟩=Z (Y z m.length A):=Cr aM.o;go_wp2_with fail;refine a8.o.mono ?_;rintro e L ⟨u,rfl,ho,ae⟩;obtain⟨S,V,rfl⟩:=Bq ho;obtain⟨bb,aK⟩:=H2 ho ae;have R:Hq (w.heap.size+1<V2.heap.size):=by have:=Aa aB.o;have:=be.o.size;show _<_;omega
   have aw:L.heap[w.heap.size]? =Z (T #[I U 0,I J 0,I J 0,Y O 0 0] 40 (0,0)):=(ae.block _ (by have:=R.o;omega)).trans bg.o;have ax:L.heap[w.heap.size+1]? =Z (T #[I U n,I J k,I J r,Y z m.length A] 40 (0,0)):=(ae.block _ R.o).trans aM.o;obtain⟨z0,z1,z2,z3⟩:=r4 ax;obtain⟨bh,bi,bj,bk⟩:=f4 ax;obtain⟨y0,y1,y2,y3⟩:=r4 aw;obtain⟨cR,cS,cT,cU⟩:=f4 aw;clear aw ax zq ho ae;go_wp2_with fail;refine eP (v:=.agg #[I U n,I J k,I J r,Y S m.length V]) (by simp[fb,results46,go_sem,z0,z1,z2,z3,y0,y1,y2,y3]) rfl ?_;obtain⟨W9,aq⟩:=ex (((((L.setCell ⟨w.heap.size+1,3,O⟩ (Y S m.length V)).setCell ⟨w.heap.size,0,O⟩ (I U n)).setCell ⟨w.heap.size,1,O⟩ (I J k)).setCell ⟨w.heap.size,2,O⟩ (I J r)).setCell ⟨w.heap.size,3,O⟩ (Y S m.length V));rw[←aq];have X:W9=setsAt (setsAt L (w.heap.size+1) 0 [(3,Y S m.length V)]) w.heap.size 0 [(0,I U n),(1,I J k),(2,I J r),(3,Y S m.length V)]:=aq;have au:W9.heap.size=L.heap.size:=by rw[X,BO,BO]
   have hoth:∀ j,j≠w.heap.size→j≠w.heap.size+1→W9.heap[j]? =L.heap[j]?:=fun j h1 h2=>by
    rw[X,AU h1,AU h2]
   clear aq;refine⟨_,rfl,?_,?_,?_⟩
   ·refine(GU bb.o.rd (eK au.symm) fun j hj _=>hoth j (by have:=R.o;omega) (by have:=R.o;omega)).mono (by have:=R.o;omega)
   ·refine PA.L6 (M:=[w.heap.size,w.heap.size+1]) ((bc.o.below aK.o).loc (fun b C=>?_) (eK au.symm) fun b C F=>?_) bV.o
    ·have:=bw.o b C;simp only[eQ,eN,or_false,not_or];omega
    ·simp only[eQ,eN,or_false,not_or] at F;exact hoth b F.1 F.2
   ·have E:=bd.o.trans (Upd.below aK.o);refine⟨?_,?_,?_,?_,fun j hj F=>?_⟩
    ·rw[X,(Be _ _).1,(Be _ _).1];exact E.os
    ·rw[X,(Be _ _).2.1,(Be _ _).2.1];exact E.tape
    ·rw[X,(Be _ _).2.2,(Be _ _).2.2];exact E.output
    ·rw[au];exact E.size
    ·rw[hoth j (by omega) (by omega)];exact E.block j hj F
  ·have a9:Hq (a4=t.1):=by
    show _=_;rw[ba.o,bJ];rfl
   clear ba;go_upto_region 9 with (fail);clear bJ;have bc:Hq (PA P (Wo D [w.heap.size,w.heap.size+1]) g d l a4):=by rw[a9.o];exact P5.o
   have bd:Hq (Upd (Mut g l) w P):=U5.o;have a8:=HH (Gj (Y z m.length A) m P (cC.o.1) (by have:=a1.o.2.data;simp only at this;omega));have bg:Hq (P.heap[w.heap.size]? =Z (T #[I U 0,I J 0,I J 0,Y O 0 0] 40 (0,0))):=b3.o;have aM:Hq (P.heap[w.heap.size+1]? =Z (T #[I U n,I J k,I J r,Y z m.length A] 40 (0,0))):=aB.o;have zq:P.cell? ⟨w.heap.size+1,3,O⟩=Z (Y z m.length A):=Cr aM.o;go_wp2_with fail;refine a8.o.mono ?_;rintro e L ⟨u,rfl,ho,ae⟩;obtain⟨S,V,rfl⟩:=Bq ho;obtain⟨bb,aK⟩:=H2 ho ae;have R:Hq (w.heap.size+1<P.heap.size):=by have:=Aa aB.o;show _<_;omega
   have aw:L.heap[w.heap.size]? =Z (T #[I U 0,I J 0,I J 0,Y O 0 0] 40 (0,0)):=(ae.block _ (by have:=R.o;omega)).trans bg.o;have ax:L.heap[w.heap.size+1]? =Z (T #[I U n,I J k,I J r,Y z m.length A] 40 (0,0)):=(ae.block _ R.o).trans aM.o;obtain⟨z0,z1,z2,z3⟩:=r4 ax;obtain⟨bh,bi,bj,bk⟩:=f4 ax;obtain⟨y0,y1,y2,y3⟩:=r4 aw;obtain⟨cR,cS,cT,cU⟩:=f4 aw;clear aw ax zq ho ae;go_wp2_with fail;refine eP (v:=.agg #[I U n,I J k,I J r,Y S m.length V]) (by simp[fb,results46,go_sem,z0,z1,z2,z3,y0,y1,y2,y3]) rfl ?_;obtain⟨W9,aq⟩:=ex (((((L.setCell ⟨w.heap.size+1,3,O⟩ (Y S m.length V)).setCell ⟨w.heap.size,0,O⟩ (I U n)).setCell ⟨w.heap.size,1,O⟩ (I J k)).setCell ⟨w.heap.size,2,O⟩ (I J r)).setCell ⟨w.heap.size,3,O⟩ (Y S m.length V));rw[←aq];have X:W9=setsAt (setsAt L (w.heap.size+1) 0 [(3,Y S m.length V)]) w.heap.size 0 [(0,I U n),(1,I J k),(2,I J r),(3,Y S m.length V)]:=aq;have au:W9.heap.size=L.heap.size:=by rw[X,BO,BO]
   have hoth:∀ j,j≠w.heap.size→j≠w.heap.size+1→W9.heap[j]? =L.heap[j]?:=fun j h1 h2=>by
    rw[X,AU h1,AU h2]
   clear aq;refine⟨_,rfl,?_,?_,?_⟩
   ·refine(GU bb.o.rd (eK au.symm) fun j hj _=>hoth j (by have:=R.o;omega) (by have:=R.o;omega)).mono (by have:=R.o;omega)
   ·refine PA.L6 (M:=[w.heap.size,w.heap.size+1]) ((bc.o.below aK.o).loc (fun b C=>?_) (eK au.symm) fun b C F=>?_) bV.o
    ·have:=bw.o b C;simp only[eQ,eN,or_false,not_or];omega
    ·simp only[eQ,eN,or_false,not_or] at F;exact hoth b F.1 F.2
   ·have E:=bd.o.trans (Upd.below aK.o);refine⟨?_,?_,?_,?_,fun j hj F=>?_⟩
    ·rw[X,(Be _ _).1,(Be _ _).1];exact E.os
    ·rw[X,(Be _ _).2.1,(Be _ _).2.1];exact E.tape
    ·rw[X,(Be _ _).2.2,(Be _ _).2.2];exact E.output
    ·rw[au];exact E.size
    ·rw[hoth j (by omega) (by omega)];exact E.block j hj F
section
variable {w w':eO} {D:Nat→Prop} {g:Nat} {d:Ad} {hd:Hd} {s:Ae}
def PA.P8(h:PA w D g d hd s)(p:KeepD D w w'){c:Ae}(o:w'.heap[g]? =Z (T (CR d hd c) 88 (0,0)))(hoth:∀ b,b<w.heap.size→b≠g→w'.heap[b]? =w.heap[b]?)
  (e:c.procs=s.procs) (f:c.samples=s.samples) (i:c.queues=s.queues) (j:c.bufs=s.bufs) (k:c.boards=s.boards) (l:c.semas=s.semas) (m:c.events=s.events) (n:c.mem=s.mem):PA w' D g d hd c:=by
 have a:Dv D g 88 w w':=⟨p,⟨_,_,h.blk⟩,hoth⟩;exact⟨o,h.nd,h.Bs.one C8 a (by decide),h.Bt.one C8 a (by decide),h.AB.one Fc a (by decide),h.Ay.one Fb a (by decide),e ▸ h.pr.one Fw a (by decide),f ▸ h.sa.one FT a (by decide),i ▸ h.qu.one F0 a (by decide),j ▸ h.bu.one Fu a (by decide),k ▸ h.bo.one Ft a (by decide),l ▸ h.se.one F4 a (by decide),m ▸ h.ev.one Fv a (by decide),n ▸ h.me.one ED a (by decide)⟩
def PA.Kn(h:PA w D g d hd s)(c:Int):PA (w.setCell ⟨g,18,O⟩ (I J c)) D g d hd {s with clock:=c}∧Upd (Mut g hd) w (w.setCell ⟨g,18,O⟩ (I J c)):=
 ⟨h.P8 (KeepD.set h.nd _ _) (by rw[ff w g 18 _ _ _ h.blk];rfl) (fun b _ a=>eY _ _ _ _ a) rfl rfl rfl rfl rfl rfl rfl rfl,Upd.Cc (M:=Mut g hd) (by simp[Mut]) 0 [(18,I J c)]⟩
def PA.Lr(h:PA w D g d hd s)(c:Int):PA (w.setCell ⟨g,17,O⟩ (I U c)) D g d hd {s with mode:=c}∧Upd (Mut g hd) w (w.setCell ⟨g,17,O⟩ (I U c)):=
 ⟨h.P8 (KeepD.set h.nd _ _) (by rw[ff w g 17 _ _ _ h.blk];rfl) (fun b _ a=>eY _ _ _ _ a) rfl rfl rfl rfl rfl rfl rfl rfl,Upd.Cc (M:=Mut g hd) (by simp[Mut]) 0 [(17,I U c)]⟩
def BJ(w:eO)(B:Nat)(v:eZ)(l:List CG):Prop:=Sl w B 3 v l.length (Hn l)
def BF.rd{B:Nat}{v:eZ}{l:List CG}(h:BF w B v l):BJ w B v l:=Sl.Bw h
def PA.two(h:PA w' (Wo D [w.heap.size,w.heap.size+1]) g d hd s)(i:∀ b∈AL g hd,¬D b)(e:∀ b∈AL g hd,b<w.heap.size){W:eO}(j:w'.heap.size≤W.heap.size)(a:∀ b,b<w'.heap.size→b≠w.heap.size→b≠w.heap.size+1→W.heap[b]? =w'.heap[b]?):PA W D g d hd s:=
 PA.L6 (M:=[w.heap.size,w.heap.size+1]) (h.loc (fun b a=>by
  have:=e b a;simp only[eQ,eN,or_false,not_or];omega) j fun b f c=>by
  simp only[eQ,eN,or_false,not_or] at c;exact a b f c.1 c.2) i
def Upd.two{M:List Nat}{u:eO}(h:Upd M w w')(k:w'.heap.size≤u.heap.size)(f:u.os=w'.os)(l:u.tape=w'.tape)(i:u.output=w'.output)(c:∀ b,b<w'.heap.size→b≠w.heap.size→b≠w.heap.size+1→u.heap[b]? =w'.heap[b]?):Upd M w u:=
 ⟨f.trans h.os,l.trans h.tape,i.trans h.output,e8 h.size k,fun j a e=>(c j (fa a h.size) (by omega) (by omega)).trans (h.block j a e)⟩
end
def No{W a:eO}{B sz n:Nat}{v:eZ}{d:List eZ}(h:Sl W B sz v n d)(i:W.heap.size≤a.heap.size)(c:∀ b,B≤b→b<W.heap.size→a.heap[b]? =W.heap[b]?):Sl a B sz v n d:=by
 have g:Ct (fun b=>B≤b) v:=Ja h fun b c _=>c
 exact Np h (I6 (D:=fun b=>B≤b) (h.mono (fu _)) g ⟨i,fun b e f=>c b e f⟩)
def BF.lt{w:eO}{B b:Nat}{v:eZ}{l:List CG}(h:BF w B v l)(a:v.ownBlock=Z b):b<w.heap.size:=by
 rcases h.2 with ⟨rfl,_⟩|⟨q,cap,cur,rfl,_,c,_⟩
 ·cases a
 ·injection a with a;have:=Aa c;show b<_;rw[←a];exact this
def Rp(w:eO)(D:Nat→Prop)(g:Nat)(d:Ad)(c:Hd)(r:Ae×Im)(e:fK)(w':eO):Prop:=
 ∃ f h,e=.returned (.tuple #[.agg #[I J r.2.ran,I U r.2.act.kind,I J r.2.act.a,I J r.2.act.b,f,h],I J r.2.e])∧Af U w' w.heap.size f r.2.act.data∧BJ w' w.heap.size h r.2.faults∧PA w' D g d c r.1∧Upd (Mut g c) w w'
def Zb(B:Nat)(w:eO)(D:Nat→Prop)(g:Nat)(d:Ad)(l:Hd)(s:Ae)(now:Int)(cR:Gl B w)(hM:∀ q∈Mut g l,B≤q)(h:PA w D g d l s)(ok:Ah d s)(dk:K0 d)(dj:∀ x∈s.boards,0≤x.val∧x.val≤255)(ds:∀ i,i<s.procs.length→Ed (d.procs.getD i default).code.length (s.procs.getD i default).s)(hD:∀ q,w.heap.size≤q→D q):
  e7 prog 17 #[G (Z ⟨g,0,O⟩),I J now] w (Rp w D g d l (A3 d now s)):=by
 have HN:=HH h.Pz;have aE:=HH h.K8;have a9:=HH h.Ke;obtain⟨OK,HM,HG,dK,dx,dy,bT⟩:=H7 ok hM cR ds dj dk hD;have ez:=ok.clock;have h':PA w (Wo D [w.heap.size,w.heap.size+1]) g d l s:=h.wo (by intro q hq;simp only[eQ,eN,or_false] at hq;omega);have H:=HH h';have dz:=HH h.cut;have cC:=h.lt;have dR:∀ a b,((w.alloc a).alloc b).cell? ⟨g,17,O⟩=Z (I U s.mode):=fun a b=>((DX w a b).cell (p:=⟨g,17,O⟩) cC).trans (h.cell 17);have dS:∀ a b,((w.alloc a).alloc b).cell? ⟨g,18,O⟩=Z (I J s.clock):=fun a b=>((DX w a b).cell (p:=⟨g,18,O⟩) cC).trans (h.cell 18);have dT:∀ a b,((w.alloc a).alloc b).cell? ⟨g,20,O⟩=Z (.bool true):=fun a b=>((DX w a b).cell (p:=⟨g,20,O⟩) cC).trans (h.cell 20);have f18:∀ a b,((w.alloc a).alloc b).frozen? ⟨g,18,O⟩=false:=fun a b=>(h.below (DX w a b)).frozen 18;clear h h' ok hM cR ds dj dk hD;have eh:s.procs.length=d.procs.length:=OK.o.procs;have h6:s.procs.length≤6:=by have:=OK.o.ok.procs;omega
 go_enter func17,ntmps17;go_upto_region 4 with (fail);clear dR dS dT f18;obtain⟨F,b3⟩:=ex ((w.alloc (T #[I J 0,I U 0,I J 0,I J 0,Y O 0 0,Y O 0 0] 43)).alloc (T #[I J (-1),I U 0,I J 0,I J 0,Y O 0 0,Y O 0 0] 43));rw[←b3];obtain⟨cO,cP⟩:=Da w (T #[I J 0,I U 0,I J 0,I J 0,Y O 0 0,Y O 0 0] 43) (T #[I J (-1),I U 0,I J 0,I J 0,Y O 0 0,Y O 0 0] 43);have bx:Hq (Bl w F):=by rw[b3];exact DX w _ _
 rw[←b3] at cO cP;have Q0:Hq (F.heap[w.heap.size]? =Z (T #[I J 0,I U 0,I J 0,I J 0,Y O 0 0,Y O 0 0] 43 (0,0))):=cO;have Q1:Hq (F.heap[w.heap.size+1]? =Z (T #[I J (-1),I U 0,I J 0,I J 0,Y O 0 0,Y O 0 0] 43 (0,0))):=cP;clear cO cP b3;have aY:Hq (PA F (Wo D [w.heap.size,w.heap.size+1]) g d l s):=H.o.below bx.o;have en:F.cell? ⟨g,17,O⟩=Z (I U s.mode):=aY.o.cell 17;have eo:F.cell? ⟨g,18,O⟩=Z (I J s.clock):=aY.o.cell 18;have dU:F.frozen? ⟨g,18,O⟩=false:=aY.o.frozen 18;by_cases dn:now<s.clock
 ·have M:Hq (A3 d now s=(s,⟨-1,zeroA,[],2⟩)):=by
   show _=_;simp only[A3];rw[if_pos (.inl dn)]
  have R:Hq (F.heap[w.heap.size]? =Z (T #[I J 0,I U 0,I J 0,I J 0,Y O 0 0,Y O 0 0] 43 (0,0))):=Q0.o;have QB:Hq (F.heap[w.heap.size+1]? =Z (T #[I J (-1),I U 0,I J 0,I J 0,Y O 0 0,Y O 0 0] 43 (0,0))):=Q1.o;have ar:Hq (PA F (Wo D [w.heap.size,w.heap.size+1]) g d l (A3 d now s).1):=by
   rw[M.o];exact aY.o
  have au:Hq (Upd (Mut g l) w F):=(Upd.below bx.o);obtain⟨ay,az,aA,aB,aC,aD⟩:=r6 R.o;obtain⟨bc,bd,be,bf,bg,bh⟩:=f6 R.o;obtain⟨ac,ae,ag,ah,ai,aj⟩:=r6 QB.o;go_wp2_with fail;refine eP (v:=.tuple #[.agg #[I J (-1),I U 0,I J 0,I J 0,Y O 0 0,Y O 0 0],I J 2]) (by simp[fb,results17,go_sem,ay,ac,az,ae,aA,ag,aB,ah,aC,ai,aD,aj]) rfl ?_;obtain⟨m,E⟩:=ex ((((((F.setCell ⟨w.heap.size,0,O⟩ (I J (-1))).setCell ⟨w.heap.size,1,O⟩ (I U 0)).setCell ⟨w.heap.size,2,O⟩ (I J 0)).setCell ⟨w.heap.size,3,O⟩ (I J 0)).setCell ⟨w.heap.size,4,O⟩ (Y O 0 0)).setCell ⟨w.heap.size,5,O⟩ (Y O 0 0));rw[←E];have K:m=setsAt F w.heap.size 0 [(0,I J (-1)),(1,I U 0),(2,I J 0),(3,I J 0),(4,Y O 0 0),(5,Y O 0 0)]:=E;have N:m.heap.size=F.heap.size:=by rw[K,BO]
  have hoth:∀ j,j≠w.heap.size→m.heap[j]? =F.heap[j]?:=fun j u=>by rw[K,AU u]
  have L:m.os=F.os∧m.tape=F.tape∧m.output=F.output:=by rw[K];exact Be _ _
  clear E;refine⟨(Y O 0 0),(Y O 0 0),?_,?_,?_,?_,?_⟩
  ·rw[M.o];try rfl
  ·rw[M.o];exact Af.nil _ _ _
  ·rw[M.o];exact(Sl.nil _ _ _)
  ·have aa:∀ b,(Wo D [w.heap.size,w.heap.size+1]) b→D b∧b≠w.heap.size:=(fun b f=>⟨f.1,fun e=>f.2 (by simp[e])⟩);exact(ar.o.Ei ⟨eK N.symm,fun b f hl=>hoth b (aa b f).2⟩ fun b f=>hoth b (by have:=aE.o b f;omega)).grow (fun b f=>(aa b f).1) HN.o
  ·exact au.o.two (eK N.symm) L.1 L.2.1 L.2.2 fun b _ u _=>hoth b u
 ·by_cases dl:1073741824<now
  ·have M:Hq (A3 d now s=(s,⟨-1,zeroA,[],2⟩)):=by
    show _=_;simp only[A3];rw[if_pos (.inr dl)]
   have R:Hq (F.heap[w.heap.size]? =Z (T #[I J 0,I U 0,I J 0,I J 0,Y O 0 0,Y O 0 0] 43 (0,0))):=Q0.o;have QB:Hq (F.heap[w.heap.size+1]? =Z (T #[I J (-1),I U 0,I J 0,I J 0,Y O 0 0,Y O 0 0] 43 (0,0))):=Q1.o;have ar:Hq (PA F (Wo D [w.heap.size,w.heap.size+1]) g d l (A3 d now s).1):=by
    rw[M.o];exact aY.o
   have au:Hq (Upd (Mut g l) w F):=(Upd.below bx.o);obtain⟨ay,az,aA,aB,aC,aD⟩:=r6 R.o;obtain⟨bc,bd,be,bf,bg,bh⟩:=f6 R.o;obtain⟨ac,ae,ag,ah,ai,aj⟩:=r6 QB.o;go_wp2_with fail;refine eP (v:=.tuple #[.agg #[I J (-1),I U 0,I J 0,I J 0,Y O 0 0,Y O 0 0],I J 2]) (by simp[fb,results17,go_sem,ay,ac,az,ae,aA,ag,aB,ah,aC,ai,aD,aj]) rfl ?_;obtain⟨m,E⟩:=ex ((((((F.setCell ⟨w.heap.size,0,O⟩ (I J (-1))).setCell ⟨w.heap.size,1,O⟩ (I U 0)).setCell ⟨w.heap.size,2,O⟩ (I J 0)).setCell ⟨w.heap.size,3,O⟩ (I J 0)).setCell ⟨w.heap.size,4,O⟩ (Y O 0 0)).setCell ⟨w.heap.size,5,O⟩ (Y O 0 0));rw[←E];have K:m=setsAt F w.heap.size 0 [(0,I J (-1)),(1,I U 0),(2,I J 0),(3,I J 0),(4,Y O 0 0),(5,Y O 0 0)]:=E;have N:m.heap.size=F.heap.size:=by rw[K,BO]
   have hoth:∀ j,j≠w.heap.size→m.heap[j]? =F.heap[j]?:=fun j u=>by rw[K,AU u]
   have L:m.os=F.os∧m.tape=F.tape∧m.output=F.output:=by rw[K];exact Be _ _
   clear E;refine⟨(Y O 0 0),(Y O 0 0),?_,?_,?_,?_,?_⟩
   ·rw[M.o];try rfl
   ·rw[M.o];exact Af.nil _ _ _
   ·rw[M.o];exact(Sl.nil _ _ _)
   ·have aa:∀ b,(Wo D [w.heap.size,w.heap.size+1]) b→D b∧b≠w.heap.size:=(fun b f=>⟨f.1,fun e=>f.2 (by simp[e])⟩);exact(ar.o.Ei ⟨eK N.symm,fun b f hl=>hoth b (aa b f).2⟩ fun b f=>hoth b (by have:=aE.o b f;omega)).grow (fun b f=>(aa b f).1) HN.o
   ·exact au.o.two (eK N.symm) L.1 L.2.1 L.2.2 fun b _ u _=>hoth b u
  ·have a7:¬(now<s.clock∨1073741824<now):=by omega
   have a6:0≤now:=by omega
   have ef:now≤1073741824:=by omega
   have ej:IntKind.i64.wrap (now+1)=now+1:=by rw[fe];omega
   obtain⟨S,bi⟩:=ex (F.setCell ⟨g,18,O⟩ (I J (now+1)));have c9:=HH bi;go_upto_region 7 with (fail);rw[←c9.o];have eB:g<F.heap.size:=aY.o.lt;have a0:Hq (S.heap[w.heap.size]? =Z (T #[I J 0,I U 0,I J 0,I J 0,Y O 0 0,Y O 0 0] 43 (0,0))):=by
    rw[bi];exact(eY _ _ _ _ (by show w.heap.size≠g;omega)).trans Q0.o
   have aN:Hq (S.heap[w.heap.size+1]? =Z (T #[I J (-1),I U 0,I J 0,I J 0,Y O 0 0,Y O 0 0] 43 (0,0))):=by
    rw[bi];exact(eY _ _ _ _ (by show w.heap.size+1≠g;omega)).trans Q1.o
   have aZ:Hq (PA S (Wo D [w.heap.size,w.heap.size+1]) g d l {s with clock:=now+1}):=by rw[bi];exact(aY.o.Kn _).1
   have cX:Hq (PA S (fun b=>D b∧b<w.heap.size) g d l {s with clock:=now+1}):=by rw[bi];exact((dz.o.below bx.o).Kn _).1
   have bB:Hq (Upd (Mut g l) w S):=by rw[bi];exact(Upd.below bx.o).trans (aY.o.Kn _).2
   have cQ:S.cell? ⟨g,17,O⟩=Z (I U s.mode):=aZ.o.cell 17;have cA:S.frozen? ⟨g,17,O⟩=false:=aZ.o.frozen 17;clear Q0 Q1 bi en eo dU ej dn dl c9;by_cases h4:s.mode=4
   ·have cB:(s.mode==4)=true:=by simp[h4]
    have M:Hq (A3 d now s=({s with clock:=now+1},⟨-1,zeroA,[],0⟩)):=by
     show _=_;simp only[A3];rw[if_neg a7,if_pos h4]
    clear h4;have R:Hq (S.heap[w.heap.size]? =Z (T #[I J 0,I U 0,I J 0,I J 0,Y O 0 0,Y O 0 0] 43 (0,0))):=a0.o;have QB:Hq (S.heap[w.heap.size+1]? =Z (T #[I J (-1),I U 0,I J 0,I J 0,Y O 0 0,Y O 0 0] 43 (0,0))):=aN.o;have ar:Hq (PA S (Wo D [w.heap.size,w.heap.size+1]) g d l (A3 d now s).1):=by
     rw[M.o];exact aZ.o
    have au:Hq (Upd (Mut g l) w S):=bB.o;obtain⟨ay,az,aA,aB,aC,aD⟩:=r6 R.o;obtain⟨bc,bd,be,bf,bg,bh⟩:=f6 R.o;obtain⟨ac,ae,ag,ah,ai,aj⟩:=r6 QB.o;go_wp2_with fail;refine eP (v:=.tuple #[.agg #[I J (-1),I U 0,I J 0,I J 0,Y O 0 0,Y O 0 0],I J 0]) (by simp[fb,results17,go_sem,ay,ac,az,ae,aA,ag,aB,ah,aC,ai,aD,aj]) rfl ?_;obtain⟨m,E⟩:=ex ((((((S.setCell ⟨w.heap.size,0,O⟩ (I J (-1))).setCell ⟨w.heap.size,1,O⟩ (I U 0)).setCell ⟨w.heap.size,2,O⟩ (I J 0)).setCell ⟨w.heap.size,3,O⟩ (I J 0)).setCell ⟨w.heap.size,4,O⟩ (Y O 0 0)).setCell ⟨w.heap.size,5,O⟩ (Y O 0 0));rw[←E];have K:m=setsAt S w.heap.size 0 [(0,I J (-1)),(1,I U 0),(2,I J 0),(3,I J 0),(4,Y O 0 0),(5,Y O 0 0)]:=E;have N:m.heap.size=S.heap.size:=by rw[K,BO]
    have hoth:∀ j,j≠w.heap.size→m.heap[j]? =S.heap[j]?:=fun j u=>by rw[K,AU u]
    have L:m.os=S.os∧m.tape=S.tape∧m.output=S.output:=by rw[K];exact Be _ _
    clear E;refine⟨(Y O 0 0),(Y O 0 0),?_,?_,?_,?_,?_⟩
    ·rw[M.o];try rfl
    ·rw[M.o];exact Af.nil _ _ _
    ·rw[M.o];exact(Sl.nil _ _ _)
    ·have aa:∀ b,(Wo D [w.heap.size,w.heap.size+1]) b→D b∧b≠w.heap.size:=(fun b f=>⟨f.1,fun e=>f.2 (by simp[e])⟩);exact(ar.o.Ei ⟨eK N.symm,fun b f hl=>hoth b (aa b f).2⟩ fun b f=>hoth b (by have:=aE.o b f;omega)).grow (fun b f=>(aa b f).1) HN.o
    ·exact au.o.two (eK N.symm) L.1 L.2.1 L.2.2 fun b _ u _=>hoth b u
   ·by_cases aT:s.mode=1∨s.mode=2
    ·by_cases u:s.mode=1
     ·have cB:(s.mode==4)=false:=by simp[h4]
      obtain⟨s2,aH⟩:∃ z:Ae,z={s with clock:=now+1,mode:=3}:=⟨_,rfl⟩;have M:Hq (A3 d now s=(FE d now s.procs.length s2,⟨-1,zeroA,[],0⟩)):=by
       show _=_;simp only[A3];rw[if_neg a7,if_neg h4,if_pos aT,aH]
      obtain⟨W2,aU⟩:=ex (S.setCell ⟨g,17,O⟩ (I U 3));have bA:Hq (PA W2 (Wo D [w.heap.size,w.heap.size+1]) g d l s2):=by rw[aU,aH];exact(aZ.o.Lr _).1
      have aR:Hq (Upd (Mut g l) S W2):=by rw[aU];exact(aZ.o.Lr _).2
      have bO:s2.procs.length=s.procs.length:=by rw[aH]
      have cL:Ah d s2:=by rw[aH];exact(OK.o.clk (c:=now+1) (by omega) (by omega)).mode 3
      have ct:=HH cL;have cg:W2.cell? ⟨g,10,O⟩=Z (Y l.pr.a s.procs.length l.pr.c):=by
       have:=bA.o.cell 10;rw[←bO];exact this
      have dG:=HH aH;have cI:w.heap.size+1<W2.heap.size:=fa (Aa aN.o) aR.o.size;have aV:w.heap.size∉Mut g l:=fun hm=>by have:=a9.o _ hm;omega
      have aW:w.heap.size+1∉Mut g l:=fun hm=>by have:=a9.o _ hm;omega
      have bC:=HH aU;have cp:Hq (W2.heap[w.heap.size]? =Z (T #[I J 0,I U 0,I J 0,I J 0,Y O 0 0,Y O 0 0] 43 (0,0))):=(aR.o.block _ (Aa a0.o) aV).trans a0.o;have cq:Hq (W2.heap[w.heap.size+1]? =Z (T #[I J (-1),I U 0,I J 0,I J 0,Y O 0 0,Y O 0 0] 43 (0,0))):=(aR.o.block _ (Aa aN.o) aW).trans aN.o;clear aH h4 aU;have dh:(s.mode==1)=true:=by simp[u]
      clear u aT;go_upto_region 13 with (fail);rw[←bC.o];clear cQ cA bC;go_wp2_with fail;clear cg
      go_loopw [7,54] (fun _ v wr=>∃ k:Nat,k≤s.procs.length∧v=I J k∧Hq (PA wr (Wo D [w.heap.size,w.heap.size+1]) g d l (FE d now k s2)∧Upd (Mut g l) W2 wr)) (fun _ v _=>s.procs.length-(fM v).toNat)
      case atStart=>exact⟨0,fu _,rfl,bA.o,Upd.refl _ _⟩
      case round=>
       obtain⟨k,ed,rfl,A⟩:=hrel;by_cases hk:k<s.procs.length
       ·have ee:(k:Int)<(s.procs.length:Int):=by omega
        obtain⟨hp,hu⟩:=A.o;have ek:=hu.size;obtain⟨HC,HU⟩:=H2 (Nr wr (Wo D [w.heap.size,w.heap.size+1]) g d l (FE d now k s2) k now hp (ct.o.Jx a6 (by omega) k (by omega)) (fun q hq=>⟨bT.o q (by omega),by simp only[eQ,eN,or_false,not_or];omega⟩) a6 (by omega) (by rw[Lz,bO];exact hk)) hu;clear A hp hu;go_wp2_with (refine HC.o.mono ?_;rintro e w3 ⟨rfl,p3,u3⟩;replace p3:=HH p3;replace u3:=HH (HU.o.trans u3))
        go_roundw
        case rel=>exact⟨k+1,by omega,by go_num,p3.o,u3.o⟩
        case measure=>simp[fM];omega
       ·obtain rfl:k=s.procs.length:=by omega
        obtain⟨hp,hu⟩:=A.o;obtain⟨cn,bb⟩:=H2 hp hu;clear A hp hu;have R:Hq (wr.heap[w.heap.size]? =Z (T #[I J 0,I U 0,I J 0,I J 0,Y O 0 0,Y O 0 0] 43 (0,0))):=(bb.o.block _ (by omega) aV).trans cp.o;have QB:Hq (wr.heap[w.heap.size+1]? =Z (T #[I J (-1),I U 0,I J 0,I J 0,Y O 0 0,Y O 0 0] 43 (0,0))):=(bb.o.block _ cI aW).trans cq.o;have ar:Hq (PA wr (Wo D [w.heap.size,w.heap.size+1]) g d l (A3 d now s).1):=by
         rw[M.o];exact cn.o
        have au:Hq (Upd (Mut g l) w wr):=(bB.o.trans (aR.o.trans bb.o));obtain⟨ay,az,aA,aB,aC,aD⟩:=r6 R.o;obtain⟨bc,bd,be,bf,bg,bh⟩:=f6 R.o;obtain⟨ac,ae,ag,ah,ai,aj⟩:=r6 QB.o;go_wp2_with fail;refine eP (v:=.tuple #[.agg #[I J (-1),I U 0,I J 0,I J 0,Y O 0 0,Y O 0 0],I J 0]) (by simp[fb,results17,go_sem,ay,ac,az,ae,aA,ag,aB,ah,aC,ai,aD,aj]) rfl ?_;obtain⟨m,E⟩:=ex ((((((wr.setCell ⟨w.heap.size,0,O⟩ (I J (-1))).setCell ⟨w.heap.size,1,O⟩ (I U 0)).setCell ⟨w.heap.size,2,O⟩ (I J 0)).setCell ⟨w.heap.size,3,O⟩ (I J 0)).setCell ⟨w.heap.size,4,O⟩ (Y O 0 0)).setCell ⟨w.heap.size,5,O⟩ (Y O 0 0));rw[←E];have K:m=setsAt wr w.heap.size 0 [(0,I J (-1)),(1,I U 0),(2,I J 0),(3,I J 0),(4,Y O 0 0),(5,Y O 0 0)]:=E;have N:m.heap.size=wr.heap.size:=by rw[K,BO]
        have hoth:∀ j,j≠w.heap.size→m.heap[j]? =wr.heap[j]?:=fun j u=>by rw[K,AU u]
        have L:m.os=wr.os∧m.tape=wr.tape∧m.output=wr.output:=by rw[K];exact Be _ _
        clear E;refine⟨(Y O 0 0),(Y O 0 0),?_,?_,?_,?_,?_⟩
        ·rw[M.o];try rfl
        ·rw[M.o];exact Af.nil _ _ _
        ·rw[M.o];exact(Sl.nil _ _ _)
        ·have aa:∀ b,(Wo D [w.heap.size,w.heap.size+1]) b→D b∧b≠w.heap.size:=(fun b f=>⟨f.1,fun e=>f.2 (by simp[e])⟩);exact(ar.o.Ei ⟨eK N.symm,fun b f hl=>hoth b (aa b f).2⟩ fun b f=>hoth b (by have:=aE.o b f;omega)).grow (fun b f=>(aa b f).1) HN.o
        ·exact au.o.two (eK N.symm) L.1 L.2.1 L.2.2 fun b _ u _=>hoth b u
     ·have cB:(s.mode==4)=false:=by simp[h4]
      obtain⟨s2,aH⟩:∃ z:Ae,z={s with clock:=now+1,mode:=3}:=⟨_,rfl⟩;have M:Hq (A3 d now s=(FE d now s.procs.length s2,⟨-1,zeroA,[],0⟩)):=by
       show _=_;simp only[A3];rw[if_neg a7,if_neg h4,if_pos aT,aH]
      obtain⟨W2,aU⟩:=ex (S.setCell ⟨g,17,O⟩ (I U 3));have bA:Hq (PA W2 (Wo D [w.heap.size,w.heap.size+1]) g d l s2):=by rw[aU,aH];exact(aZ.o.Lr _).1
      have aR:Hq (Upd (Mut g l) S W2):=by rw[aU];exact(aZ.o.Lr _).2
      have bO:s2.procs.length=s.procs.length:=by rw[aH]
      have cL:Ah d s2:=by rw[aH];exact(OK.o.clk (c:=now+1) (by omega) (by omega)).mode 3
      have ct:=HH cL;have cg:W2.cell? ⟨g,10,O⟩=Z (Y l.pr.a s.procs.length l.pr.c):=by
       have:=bA.o.cell 10;rw[←bO];exact this
      have dG:=HH aH;have cI:w.heap.size+1<W2.heap.size:=fa (Aa aN.o) aR.o.size;have aV:w.heap.size∉Mut g l:=fun hm=>by have:=a9.o _ hm;omega
      have aW:w.heap.size+1∉Mut g l:=fun hm=>by have:=a9.o _ hm;omega
      have bC:=HH aU;have cp:Hq (W2.heap[w.heap.size]? =Z (T #[I J 0,I U 0,I J 0,I J 0,Y O 0 0,Y O 0 0] 43 (0,0))):=(aR.o.block _ (Aa a0.o) aV).trans a0.o;have cq:Hq (W2.heap[w.heap.size+1]? =Z (T #[I J (-1),I U 0,I J 0,I J 0,Y O 0 0,Y O 0 0] 43 (0,0))):=(aR.o.block _ (Aa aN.o) aW).trans aN.o;clear aH h4 aU;have dh:(s.mode==1)=false:=by simp[u]
      have eb:(s.mode==2)=true:=by
       have:s.mode=2:=by omega
       simp[this]
      clear u aT;go_upto_region 13 with (fail);rw[←bC.o];clear cQ cA bC;go_wp2_with fail;clear cg
      go_loopw [7,54] (fun _ v wr=>∃ k:Nat,k≤s.procs.length∧v=I J k∧Hq (PA wr (Wo D [w.heap.size,w.heap.size+1]) g d l (FE d now k s2)∧Upd (Mut g l) W2 wr)) (fun _ v _=>s.procs.length-(fM v).toNat)
      case atStart=>exact⟨0,fu _,rfl,bA.o,Upd.refl _ _⟩
      case round=>
       obtain⟨k,ed,rfl,A⟩:=hrel;by_cases hk:k<s.procs.length
       ·have ee:(k:Int)<(s.procs.length:Int):=by omega
        obtain⟨hp,hu⟩:=A.o;have ek:=hu.size;obtain⟨HC,HU⟩:=H2 (Nr wr (Wo D [w.heap.size,w.heap.size+1]) g d l (FE d now k s2) k now hp (ct.o.Jx a6 (by omega) k (by omega)) (fun q hq=>⟨bT.o q (by omega),by simp only[eQ,eN,or_false,not_or];omega⟩) a6 (by omega) (by rw[Lz,bO];exact hk)) hu;clear A hp hu;go_wp2_with (refine HC.o.mono ?_;rintro e w3 ⟨rfl,p3,u3⟩;replace p3:=HH p3;replace u3:=HH (HU.o.trans u3))
        go_roundw
        case rel=>exact⟨k+1,by omega,by go_num,p3.o,u3.o⟩
        case measure=>simp[fM];omega
       ·obtain rfl:k=s.procs.length:=by omega
        obtain⟨hp,hu⟩:=A.o;obtain⟨cn,bb⟩:=H2 hp hu;clear A hp hu;have R:Hq (wr.heap[w.heap.size]? =Z (T #[I J 0,I U 0,I J 0,I J 0,Y O 0 0,Y O 0 0] 43 (0,0))):=(bb.o.block _ (by omega) aV).trans cp.o;have QB:Hq (wr.heap[w.heap.size+1]? =Z (T #[I J (-1),I U 0,I J 0,I J 0,Y O 0 0,Y O 0 0] 43 (0,0))):=(bb.o.block _ cI aW).trans cq.o;have ar:Hq (PA wr (Wo D [w.heap.size,w.heap.size+1]) g d l (A3 d now s).1):=by
         rw[M.o];exact cn.o
        have au:Hq (Upd (Mut g l) w wr):=(bB.o.trans (aR.o.trans bb.o));obtain⟨ay,az,aA,aB,aC,aD⟩:=r6 R.o;obtain⟨bc,bd,be,bf,bg,bh⟩:=f6 R.o;obtain⟨ac,ae,ag,ah,ai,aj⟩:=r6 QB.o;go_wp2_with fail;refine eP (v:=.tuple #[.agg #[I J (-1),I U 0,I J 0,I J 0,Y O 0 0,Y O 0 0],I J 0]) (by simp[fb,results17,go_sem,ay,ac,az,ae,aA,ag,aB,ah,aC,ai,aD,aj]) rfl ?_;obtain⟨m,E⟩:=ex ((((((wr.setCell ⟨w.heap.size,0,O⟩ (I J (-1))).setCell ⟨w.heap.size,1,O⟩ (I U 0)).setCell ⟨w.heap.size,2,O⟩ (I J 0)).setCell ⟨w.heap.size,3,O⟩ (I J 0)).setCell ⟨w.heap.size,4,O⟩ (Y O 0 0)).setCell ⟨w.heap.size,5,O⟩ (Y O 0 0));rw[←E];have K:m=setsAt wr w.heap.size 0 [(0,I J (-1)),(1,I U 0),(2,I J 0),(3,I J 0),(4,Y O 0 0),(5,Y O 0 0)]:=E;have N:m.heap.size=wr.heap.size:=by rw[K,BO]
        have hoth:∀ j,j≠w.heap.size→m.heap[j]? =wr.heap[j]?:=fun j u=>by rw[K,AU u]
        have L:m.os=wr.os∧m.tape=wr.tape∧m.output=wr.output:=by rw[K];exact Be _ _
        clear E;refine⟨(Y O 0 0),(Y O 0 0),?_,?_,?_,?_,?_⟩
        ·rw[M.o];try rfl
        ·rw[M.o];exact Af.nil _ _ _
        ·rw[M.o];exact(Sl.nil _ _ _)
        ·have aa:∀ b,(Wo D [w.heap.size,w.heap.size+1]) b→D b∧b≠w.heap.size:=(fun b f=>⟨f.1,fun e=>f.2 (by simp[e])⟩);exact(ar.o.Ei ⟨eK N.symm,fun b f hl=>hoth b (aa b f).2⟩ fun b f=>hoth b (by have:=aE.o b f;omega)).grow (fun b f=>(aa b f).1) HN.o
        ·exact au.o.two (eK N.symm) L.1 L.2.1 L.2.2 fun b _ u _=>hoth b u
    ·have cB:(s.mode==4)=false:=by simp[h4]
     have dh:(s.mode==1)=false:=by
      have:s.mode≠1:=fun e=>aT (.inl e);simp[this]
     have eb:(s.mode==2)=false:=by
      have:s.mode≠2:=fun e=>aT (.inr e);simp[this]
     obtain⟨s1,bu⟩:∃ y:Ae,y={s with clock:=now+1}:=⟨_,rfl⟩;have cK:Ah d s1:=by rw[bu];exact OK.o.clk (c:=now+1) (by omega) (by omega)
     obtain⟨s3,bw⟩:=ex (Dl d now s1);have bQ:Ah d s3:=by rw[bw];exact cK.release a6 ef
     obtain⟨⟨s4,n⟩,bl⟩:∃ y,y=CP now s3:=⟨_,rfl⟩;have cM:Ah d s4:=by
      have:=bQ.late (now:=now);rw[←bl] at this;exact this
     have eA:n.length≤6:=by
      have e:n=C7 now 0 s3.procs:=congrArg Prod.snd bl;have:=KH now s3.procs 0;have:=bQ.procs;have:=bQ.ok.procs;rw[e];omega
     obtain⟨z,hz⟩:=ex (Hw d s4);have cJ:=PK d s4;rw[←hz] at cJ;have M:Hq (A3 d now s=if z<0 then(s4,⟨z,zeroA,n,0⟩) else((EI d z.toNat now s4).1,⟨z,(EI d z.toNat now s4).2,if(EI d z.toNat now s4).2.kind=15 then n++ [⟨z,(EI d z.toNat now s4).2.a%256,(EI d z.toNat now s4).2.b⟩] else n,0⟩)):=by
      show _=_;simp only[A3];rw[if_neg a7,if_neg h4,if_neg aT,←bu,←bw,←bl,←hz]
     have di:s4.boards=s.boards:=by
      have e:s4=(CP now s3).1:=congrArg Prod.fst bl;rw[e,bw,bu];rfl
     have dr:∀ k,(s4.procs.getD k default).s=(s.procs.getD k default).s:=fun k=>by
      have e:s4=(CP now s3).1:=congrArg Prod.fst bl;rw[e,Pf,bw,Qn,bu]
     have eC:s4.procs.length=s.procs.length:=by rw[cM.procs,eh]
     have cc:=HH (Yz S (fun b=>D b∧b<w.heap.size) g d l s1 now (by rw[bu];exact cX.o) cK a6 (by omega));rw[←bw] at cc;obtain⟨dH,HZ,dO,da,dw,dJ,dN,ev⟩:=H8 bl hz bQ cM di dr cJ (And.intro h4 (And.intro aT a7));have aV:w.heap.size∉Mut g l:=fun hm=>by have:=a9.o _ hm;omega
     have aW:w.heap.size+1∉Mut g l:=fun hm=>by have:=a9.o _ hm;omega
     clear bu bw bl hz cK bQ cM di dr cJ h4 aT a7 cA;go_wp2_with fail;clear cQ;refine cc.o.mono ?_;rintro e w3 ⟨rfl,p3,u3⟩;have c5:Hq (Upd (Mut g l) w w3):=bB.o.trans u3;have cu:Hq (w3.heap[w.heap.size]? =Z (T #[I J 0,I U 0,I J 0,I J 0,Y O 0 0,Y O 0 0] 43 (0,0))):=(u3.block _ (Aa a0.o) aV).trans a0.o;have bZ:Hq (w3.heap[w.heap.size+1]? =Z (T #[I J (-1),I U 0,I J 0,I J 0,Y O 0 0,Y O 0 0] 43 (0,0))):=(u3.block _ (Aa aN.o) aW).trans aN.o;have eE:w.heap.size+1<w3.heap.size:=Aa bZ.o;have ce:=HH (WJ w3 (fun b=>D b∧b<w.heap.size) g d l s3 now p3 dO.o (fun b f=>Nat.lt_trans f.2 (by omega)) a6 (by omega));rw[←dH.o] at ce;clear p3 u3 cc a0 aN aZ cX bB;go_wp2_with fail;refine ce.o.mono ?_;rintro e w4 ⟨v,rfl,ho,p4,u4⟩;obtain⟨V,X,rfl⟩:=BF.shape ho;have c6:Hq (Upd (Mut g l) w w4):=c5.o.trans u4;have db:Hq (w4.heap[w.heap.size]? =Z (T #[I J 0,I U 0,I J 0,I J 0,Y O 0 0,Y O 0 0] 43 (0,0))):=(u4.block _ (Aa cu.o) aV).trans cu.o;have b0:Hq (w4.heap[w.heap.size+1]? =Z (T #[I J (-1),I U 0,I J 0,I J 0,Y O 0 0,Y O 0 0] 43 (0,0))):=(u4.block _ (Aa bZ.o) aW).trans bZ.o;obtain⟨cU,cY⟩:=H2 ho p4;have c3:Hq (w3.heap.size≤w4.heap.size):=u4.size;clear ho p4 u4 ce c5 cu bZ;obtain⟨ac,ae,ag,ah,ai,aj⟩:=r6 b0.o;obtain⟨bH,bI,bJ,bK,bL,bM⟩:=f6 b0.o;go_upto_region 21 with (fail);clear ac bH ae bI ag bJ ah bK ai bL aj bM;obtain⟨W5,a4⟩:=ex (w4.setCell ⟨w.heap.size+1,5,O⟩ (Y V n.length X));rw[←a4];have b5:W5.heap.size=w4.heap.size:=by rw[a4];simp[fs]
     have br:∀ b,b≠w.heap.size+1→W5.heap[b]? =w4.heap[b]?:=fun b f=>by rw[a4];exact eY _ _ _ _ f
     have cv:Hq (W5.heap[w.heap.size]? =Z (T #[I J 0,I U 0,I J 0,I J 0,Y O 0 0,Y O 0 0] 43 (0,0))):=(br _ (by omega)).trans db.o;have cx:Hq (W5.heap[w.heap.size+1]? =Z (T #[I J (-1),I U 0,I J 0,I J 0,Y O 0 0,Y V n.length X] 43 (0,0))):=by
      rw[a4];show _=_;rw[ff w4 (w.heap.size+1) 5 _ _ _ b0.o];rfl
     have ck:Hq (PA W5 (fun b=>D b∧b<w.heap.size) g d l s4):=cY.o.Ei ⟨eK b5.symm,fun b f _=>br b (by have:=f.2;omega)⟩ fun b f=>br b (by have:=aE.o b f;omega);have c7:Hq (Upd (Mut g l) w W5):=c6.o.two (eK b5.symm) (by rw[a4];rfl) (by rw[a4];rfl) (by rw[a4];rfl) fun b _ _ h2=>br b h2
     have cV:Hq (BF W5 w3.heap.size (Y V n.length X) n):=cU.o.Ag fun b f _=>br b (by omega);have c4:Hq (w3.heap.size≤W5.heap.size):=by rw[b5];exact c3.o
     have ch:=HH (Yc W5 (fun b=>D b∧b<w.heap.size) g d l s4 ck.o da.o);rw[←HZ.o] at ch;clear a4 b5 br cY c6 cU db b0 c3;go_wp2_with fail;refine ch.o.mono ?_;rintro e w6 ⟨rfl,b6⟩;have bn:=HH b6;have b1:w6.heap[w.heap.size+1]? =Z (T #[I J (-1),I U 0,I J 0,I J 0,Y O 0 0,Y V n.length X] 43 (0,0)):=(b6.block _ (Aa cx.o)).trans cx.o;obtain⟨ac,ae,ag,ah,ai,aj⟩:=r6 b1;obtain⟨bH,bI,bJ,bK,bL,bM⟩:=f6 b1;clear b6 ch;go_upto_region 22 with (fail);clear ac bH ae bI ag bJ ah bK ai bL aj bM;obtain⟨t,a5⟩:=ex (w6.setCell ⟨w.heap.size+1,0,O⟩ (I J z));rw[←a5];have b7:t.heap.size=w6.heap.size:=by rw[a5];simp[fs]
     have bs:∀ b,b≠w.heap.size+1→t.heap[b]? =w6.heap[b]?:=fun b f=>by rw[a5];exact eY _ _ _ _ f
     have bX:Hq (t.heap[w.heap.size]? =Z (T #[I J 0,I U 0,I J 0,I J 0,Y O 0 0,Y O 0 0] 43 (0,0))):=(bs _ (by omega)).trans ((bn.o.block _ (Aa cv.o)).trans cv.o);have bE:Hq (t.heap[w.heap.size+1]? =Z (T #[I J z,I U 0,I J 0,I J 0,Y O 0 0,Y V n.length X] 43 (0,0))):=by
      rw[a5];show _=_;rw[ff w6 (w.heap.size+1) 0 _ _ _ b1];rfl
     have cl:Hq (PA t (fun b=>D b∧b<w.heap.size) g d l s4):=(ck.o.below bn.o).Ei ⟨eK b7.symm,fun b f _=>bs b (by have:=f.2;omega)⟩ fun b f=>bs b (by have:=aE.o b f;omega);have bV:Hq (Upd (Mut g l) w t):=(c7.o.trans (Upd.below bn.o)).two (eK b7.symm) (by rw[a5];rfl) (by rw[a5];rfl) (by rw[a5];rfl) fun b _ _ h2=>bs b h2
     have bz:Hq (BF t w3.heap.size (Y V n.length X) n):=cV.o.Ag fun b f hl=>(bs b (by omega)).trans (bn.o.block _ hl);have dI:Hq (w3.heap.size≤t.heap.size):=by
      rw[b7];exact e8 c4.o bn.o.size
     clear a5 b7 bs ck c7 cV cv cx b1 c4 bn;have x0:t.cell? ⟨w.heap.size+1,0,O⟩=Z (I J z):=Cr bE.o;by_cases dt:0≤z
     ·obtain⟨Q,rfl⟩:=fn dt;have eg:Q<s4.procs.length:=by have:=dN.o.2;omega
      have cZ:PA t (fun b=>(D b∧b<w.heap.size)∨t.heap.size≤b) g d l s4:=cl.o.swap fun b f=>by
       have:¬t.heap.size≤b:=by omega
       simp[this]
      have ci:=HH (YA B t (fun b=>(D b∧b<w.heap.size)∨t.heap.size≤b) g d l s4 Q now (HG.o.BG bV.o HM.o) HM.o cZ da.o dy.o (by rw[dw.o];exact dx.o) (by rw[dJ.o];exact dK.o Q (by omega)) (fun q hq=>.inr hq) a6 (by omega) eg);obtain⟨⟨s5,⟨kd,P,rb,rd⟩⟩,bt⟩:∃ r,r=EI d Q now s4:=⟨_,rfl⟩;rw[←bt] at ci;have HF:Hq (A3 d now s=(s5,⟨Q,⟨kd,P,rb,rd⟩,if kd=15 then n++ [⟨Q,P%256,rb⟩] else n,0⟩)):=by
       show _=_;rw[M.o,if_neg (by omega),e6,←bt]
      clear cZ bt dt M;go_wp2_with fail;clear x0;refine ci.o.mono ?_;rintro e w8 ⟨vd,rfl,cH,p8,u8⟩;obtain⟨ad,cd,rfl,_,_⟩:=cH.open_;obtain⟨c1,c0,U8⟩:=H3 cH p8 u8;have c8:Hq (Upd (Mut g l) w w8):=bV.o.trans u8;have dc:Hq (w8.heap[w.heap.size]? =Z (T #[I J 0,I U 0,I J 0,I J 0,Y O 0 0,Y O 0 0] 43 (0,0))):=(u8.block _ (Aa bX.o) aV).trans bX.o;have b2:Hq (w8.heap[w.heap.size+1]? =Z (T #[I J Q,I U 0,I J 0,I J 0,Y O 0 0,Y V n.length X] 43 (0,0))):=(u8.block _ (Aa bE.o) aW).trans bE.o;have cW:Hq (BF w8 w3.heap.size (Y V n.length X) n):=bz.o.Ag fun b f hl=>u8.block b hl (fun hm=>by have:=a9.o b hm;omega);have eF:w3.heap.size≤t.heap.size:=dI.o;have eG:t.heap.size≤w8.heap.size:=u8.size;clear cH p8 u8 ci cl bV bX bE;obtain⟨ac,ae,ag,ah,ai,aj⟩:=r6 b2.o;obtain⟨bH,bI,bJ,bK,bL,bM⟩:=f6 b2.o;go_upto_region 24 with (fail);clear ac bH ae bI ag bJ ah bK ai bL aj bM;obtain⟨C,E⟩:=ex ((((w8.setCell ⟨w.heap.size+1,1,O⟩ (I U kd)).setCell ⟨w.heap.size+1,2,O⟩ (I J P)).setCell ⟨w.heap.size+1,3,O⟩ (I J rb)).setCell ⟨w.heap.size+1,4,O⟩ (Y ad rd.length cd));rw[←E];have eW:C=setsAt w8 (w.heap.size+1) 0 [(1,I U kd),(2,I J P),(3,I J rb),(4,Y ad rd.length cd)]:=E;have b8:C.heap.size=w8.heap.size:=by rw[eW,BO]
      have bk:∀ b,b≠w.heap.size+1→C.heap[b]? =w8.heap[b]?:=fun b f=>by rw[eW,AU f]
      have b4:C.os=w8.os∧C.tape=w8.tape∧C.output=w8.output:=by rw[eW];exact Be _ _
      have cw:Hq (C.heap[w.heap.size]? =Z (T #[I J 0,I U 0,I J 0,I J 0,Y O 0 0,Y O 0 0] 43 (0,0))):=(bk _ (by omega)).trans dc.o;have bF:Hq (C.heap[w.heap.size+1]? =Z (T #[I J Q,I U kd,I J P,I J rb,Y ad rd.length cd,Y V n.length X] 43 (0,0))):=by
       rw[eW];have hh:=Di [(1,I U kd),(2,I J P),(3,I J rb),(4,Y ad rd.length cd)] b2.o;simp only[Er,eJ,eM,eL] at hh;exact hh
      have cm:Hq (PA C (fun b=>(D b∧b<w.heap.size)∨t.heap.size≤b) g d l s5):=c0.o.Ei ⟨eK b8.symm,fun b f _=>bk b (by rcases f with f|f;(have:=f.2;omega);omega)⟩ fun b f=>bk b (by have:=aE.o b f;omega);have ba:Hq (Upd (Mut g l) w C):=c8.o.two (eK b8.symm) b4.1 b4.2.1 b4.2.2 fun b _ _ h2=>bk b h2
      have cj:Hq (BF C w3.heap.size (Y V n.length X) n):=cW.o.Ag fun b f _=>bk b (by omega);have cr:Hq (Af U C t.heap.size (Y ad rd.length cd) rd):=GU c1.o (eK b8.symm) fun b f _=>bk b (by omega);have eI:t.heap.size≤C.heap.size:=by omega
      have x1:C.cell? ⟨w.heap.size+1,1,O⟩=Z (I U kd):=Cr bF.o;have dB:Hq (∀ b,(fT V n.length X).ownBlock=Z b→w3.heap.size≤b∧b<t.heap.size):=fun b f=>⟨bz.o.low f,bz.o.lt f⟩;clear E eW b8 bk b4 c0 c8 cW bz dc b2 c1;by_cases bq:kd=15
      ·have ec:(kd==15)=true:=by simp[bq]
       have aQ:Hq (A3 d now s=(s5,⟨Q,⟨kd,P,rb,rd⟩,n++ [⟨Q,P%256,rb⟩],0⟩)):=by
        show _=_;rw[HF.o,if_pos bq]
       have eH:IntKind.u8.wrap P=P%256:=IntKind.wrap_u8 P;obtain⟨a2,c2,aM,bt,dp,bp⟩:=BF.snoc (x:=⟨(Q:Int),P%256,rb⟩) (W:=C.alloc (T #[I J Q,I U (P%256),I J rb] 76)) (cj.o.Ag fun b _ f=>eX _ _ _ f) (by simp;omega) (by omega) (q:=C.heap.size) (eS _ _) 41;have eD:C.heap.size+1≤aM.heap.size:=by have:=bp.size;simpa using this
       have dq:∀ b,b<C.heap.size→(fT V n.length X).ownBlock≠Z b→aM.heap[b]? =C.heap[b]?:=fun b f a7=>(bp.block b (by simp;omega) (fun e=>a7 e.symm)).trans (eX _ _ _ (by omega));have cG:∀ b,b<C.heap.size→¬(w3.heap.size≤b∧b<t.heap.size)→aM.heap[b]? =C.heap[b]?:=fun b f hn=>dq b f fun e=>hn (dB.o b e);have ca:aM.heap[w.heap.size+1]? =Z (T #[I J Q,I U kd,I J P,I J rb,Y ad rd.length cd,Y V n.length X] 43 (0,0)):=(cG _ (by omega) (by omega)).trans bF.o;have bU:Hq (aM.os=C.os∧aM.tape=C.tape∧aM.output=C.output):=⟨bp.os,bp.tape,bp.output⟩;obtain⟨dF,cT,bo⟩:=H3 bt dp cG;clear bq HF bt dp bp dq cG;obtain⟨ep,eq,er,es,et,eu⟩:=r6 ca;obtain⟨dV,dW,dX,dY,dZ,ea⟩:=f6 ca;obtain⟨ac,ae,ag,ah,ai,aj⟩:=r6 bF.o;go_upto_region 26 with (at_builtin;refine fx _ rfl _ _ _ _ rfl _ _ rfl rfl _ _ dF.o ?_);clear ep dV eq dW er dX es dY et dZ eu ea;clear ac ae ag ah ai aj;obtain⟨an,a3⟩:=ex (aM.setCell ⟨w.heap.size+1,5,O⟩ (Y a2 (n.length+1) c2));rw[←a3];have ei:an.heap.size=aM.heap.size:=by rw[a3];simp[fs]
       have bj:∀ b,b≠w.heap.size+1→an.heap[b]? =aM.heap[b]?:=fun b f=>by rw[a3];exact eY _ _ _ _ f
       have dP:Hq (an.heap[w.heap.size]? =Z (T #[I J 0,I U 0,I J 0,I J 0,Y O 0 0,Y O 0 0] 43 (0,0))):=(bj _ (by omega)).trans ((bo.o _ (by omega) (by omega)).trans cw.o);have dQ:Hq (an.heap[w.heap.size+1]? =Z (T #[I J Q,I U kd,I J P,I J rb,Y ad rd.length cd,Y a2 (n.length+1) c2] 43 (0,0))):=by
        rw[a3];show _=_;rw[ff aM (w.heap.size+1) 5 _ _ _ ca];rfl
       have dD:Hq (PA an (fun b=>(D b∧b<w.heap.size)∨t.heap.size≤b) g d l s5):=cm.o.Ei ⟨by omega,fun b f hl=>(bj b (by rcases f with f|f;(have:=f.2;omega);omega)).trans (bo.o b hl (by rcases f with f|f;(have:=f.2;omega);omega))⟩ fun b f=>(bj b (by have:=aE.o b f;omega)).trans (bo.o b (by have:=aE.o b f;omega) (by have:=aE.o b f;omega));have dL:Hq (Upd (Mut g l) w an):=⟨by rw[a3];exact bU.o.1.trans ba.o.os,by rw[a3];exact bU.o.2.1.trans ba.o.tape,by rw[a3];exact bU.o.2.2.trans ba.o.output,by have:=ba.o.size;omega,fun b f hn=>(bj b (by omega)).trans ((bo.o b (by omega) (by omega)).trans (ba.o.block b f hn))⟩;have dC:Hq (BF an w3.heap.size (Y a2 (n.length+1) c2) (n++ [⟨(Q:Int),P%256,rb⟩])):=cT.o.Ag fun b f _=>bj b (by omega);have dE:Hq (Af U an t.heap.size (Y ad rd.length cd) rd):=GU cr.o (by omega) fun b f hl=>(bj b (by omega)).trans (bo.o b hl (by omega));clear a3 ei bj ca cT bo bU cm ba cj cr cw bF;have R:Hq (an.heap[w.heap.size]? =Z (T #[I J 0,I U 0,I J 0,I J 0,Y O 0 0,Y O 0 0] 43 (0,0))):=dP.o;have QB:Hq (an.heap[w.heap.size+1]? =Z (T #[I J Q,I U kd,I J P,I J rb,Y ad rd.length cd,Y a2 (n.length+1) c2] 43 (0,0))):=dQ.o;have ar:Hq (PA an (fun b=>(D b∧b<w.heap.size)∨t.heap.size≤b) g d l (A3 d now s).1):=by
        rw[aQ.o];exact dD.o
       have au:Hq (Upd (Mut g l) w an):=dL.o;obtain⟨ay,az,aA,aB,aC,aD⟩:=r6 R.o;obtain⟨bc,bd,be,bf,bg,bh⟩:=f6 R.o;obtain⟨ac,ae,ag,ah,ai,aj⟩:=r6 QB.o;go_wp2_with fail;refine eP (v:=.tuple #[.agg #[I J Q,I U kd,I J P,I J rb,Y ad rd.length cd,Y a2 (n.length+1) c2],I J 0]) (by simp[fb,results17,go_sem,ay,ac,az,ae,aA,ag,aB,ah,aC,ai,aD,aj]) rfl ?_;obtain⟨m,E⟩:=ex ((((((an.setCell ⟨w.heap.size,0,O⟩ (I J Q)).setCell ⟨w.heap.size,1,O⟩ (I U kd)).setCell ⟨w.heap.size,2,O⟩ (I J P)).setCell ⟨w.heap.size,3,O⟩ (I J rb)).setCell ⟨w.heap.size,4,O⟩ (Y ad rd.length cd)).setCell ⟨w.heap.size,5,O⟩ (Y a2 (n.length+1) c2));rw[←E];have K:m=setsAt an w.heap.size 0 [(0,I J Q),(1,I U kd),(2,I J P),(3,I J rb),(4,Y ad rd.length cd),(5,Y a2 (n.length+1) c2)]:=E;have N:m.heap.size=an.heap.size:=by rw[K,BO]
       have hoth:∀ j,j≠w.heap.size→m.heap[j]? =an.heap[j]?:=fun j u=>by rw[K,AU u]
       have L:m.os=an.os∧m.tape=an.tape∧m.output=an.output:=by rw[K];exact Be _ _
       clear E;refine⟨(Y ad rd.length cd),(Y a2 (n.length+1) c2),?_,?_,?_,?_,?_⟩
       ·rw[aQ.o];try rfl
       ·rw[aQ.o];exact((GU dE.o (eK N.symm) fun b f _=>hoth b (by omega)).mono (by omega))
       ·rw[aQ.o];exact((No dC.o.rd (eK N.symm) fun b f _=>hoth b (by omega)).mono (by omega))
       ·have aa:∀ b,(fun b=>(D b∧b<w.heap.size)∨t.heap.size≤b) b→D b∧b≠w.heap.size:=(fun b f=>by rcases f with f|f;exact⟨f.1,by have:=f.2;omega⟩;exact⟨bT.o b (by omega),by omega⟩);exact(ar.o.Ei ⟨eK N.symm,fun b f hl=>hoth b (aa b f).2⟩ fun b f=>hoth b (by have:=aE.o b f;omega)).grow (fun b f=>(aa b f).1) HN.o
       ·exact au.o.two (eK N.symm) L.1 L.2.1 L.2.2 fun b _ u _=>hoth b u
      ·have ec:(kd==15)=false:=by simp[bq]
       have aQ:Hq (A3 d now s=(s5,⟨Q,⟨kd,P,rb,rd⟩,n,0⟩)):=by
        show _=_;rw[HF.o,if_neg bq]
       clear bq HF;have R:Hq (C.heap[w.heap.size]? =Z (T #[I J 0,I U 0,I J 0,I J 0,Y O 0 0,Y O 0 0] 43 (0,0))):=cw.o;have QB:Hq (C.heap[w.heap.size+1]? =Z (T #[I J Q,I U kd,I J P,I J rb,Y ad rd.length cd,Y V n.length X] 43 (0,0))):=bF.o;have ar:Hq (PA C (fun b=>(D b∧b<w.heap.size)∨t.heap.size≤b) g d l (A3 d now s).1):=by
        rw[aQ.o];exact cm.o
       have au:Hq (Upd (Mut g l) w C):=ba.o;obtain⟨ay,az,aA,aB,aC,aD⟩:=r6 R.o;obtain⟨bc,bd,be,bf,bg,bh⟩:=f6 R.o;obtain⟨ac,ae,ag,ah,ai,aj⟩:=r6 QB.o;go_wp2_with fail;refine eP (v:=.tuple #[.agg #[I J Q,I U kd,I J P,I J rb,Y ad rd.length cd,Y V n.length X],I J 0]) (by simp[fb,results17,go_sem,ay,ac,az,ae,aA,ag,aB,ah,aC,ai,aD,aj]) rfl ?_;obtain⟨m,E⟩:=ex ((((((C.setCell ⟨w.heap.size,0,O⟩ (I J Q)).setCell ⟨w.heap.size,1,O⟩ (I U kd)).setCell ⟨w.heap.size,2,O⟩ (I J P)).setCell ⟨w.heap.size,3,O⟩ (I J rb)).setCell ⟨w.heap.size,4,O⟩ (Y ad rd.length cd)).setCell ⟨w.heap.size,5,O⟩ (Y V n.length X));rw[←E];have K:m=setsAt C w.heap.size 0 [(0,I J Q),(1,I U kd),(2,I J P),(3,I J rb),(4,Y ad rd.length cd),(5,Y V n.length X)]:=E;have N:m.heap.size=C.heap.size:=by rw[K,BO]
       have hoth:∀ j,j≠w.heap.size→m.heap[j]? =C.heap[j]?:=fun j u=>by rw[K,AU u]
       have L:m.os=C.os∧m.tape=C.tape∧m.output=C.output:=by rw[K];exact Be _ _
       clear E;refine⟨(Y ad rd.length cd),(Y V n.length X),?_,?_,?_,?_,?_⟩
       ·rw[aQ.o];try rfl
       ·rw[aQ.o];exact((GU cr.o (eK N.symm) fun b f _=>hoth b (by omega)).mono (by omega))
       ·rw[aQ.o];exact((No cj.o.rd (eK N.symm) fun b f _=>hoth b (by omega)).mono (by omega))
       ·have aa:∀ b,(fun b=>(D b∧b<w.heap.size)∨t.heap.size≤b) b→D b∧b≠w.heap.size:=(fun b f=>by rcases f with f|f;exact⟨f.1,by have:=f.2;omega⟩;exact⟨bT.o b (by omega),by omega⟩);exact(ar.o.Ei ⟨eK N.symm,fun b f hl=>hoth b (aa b f).2⟩ fun b f=>hoth b (by have:=aE.o b f;omega)).grow (fun b f=>(aa b f).1) HN.o
       ·exact au.o.two (eK N.symm) L.1 L.2.1 L.2.2 fun b _ u _=>hoth b u
     ·have HF:Hq (A3 d now s=(s4,⟨z,zeroA,n,0⟩)):=by
       show _=_;rw[M.o,if_pos (by omega)]
      have R:Hq (t.heap[w.heap.size]? =Z (T #[I J 0,I U 0,I J 0,I J 0,Y O 0 0,Y O 0 0] 43 (0,0))):=bX.o;have QB:Hq (t.heap[w.heap.size+1]? =Z (T #[I J z,I U 0,I J 0,I J 0,Y O 0 0,Y V n.length X] 43 (0,0))):=bE.o;have ar:Hq (PA t (fun b=>D b∧b<w.heap.size) g d l (A3 d now s).1):=by
       rw[HF.o];exact cl.o
      have au:Hq (Upd (Mut g l) w t):=bV.o;obtain⟨ay,az,aA,aB,aC,aD⟩:=r6 R.o;obtain⟨bc,bd,be,bf,bg,bh⟩:=f6 R.o;obtain⟨ac,ae,ag,ah,ai,aj⟩:=r6 QB.o;go_wp2_with fail;refine eP (v:=.tuple #[.agg #[I J z,I U 0,I J 0,I J 0,Y O 0 0,Y V n.length X],I J 0]) (by simp[fb,results17,go_sem,ay,ac,az,ae,aA,ag,aB,ah,aC,ai,aD,aj]) rfl ?_;obtain⟨m,E⟩:=ex ((((((t.setCell ⟨w.heap.size,0,O⟩ (I J z)).setCell ⟨w.heap.size,1,O⟩ (I U 0)).setCell ⟨w.heap.size,2,O⟩ (I J 0)).setCell ⟨w.heap.size,3,O⟩ (I J 0)).setCell ⟨w.heap.size,4,O⟩ (Y O 0 0)).setCell ⟨w.heap.size,5,O⟩ (Y V n.length X));rw[←E];have K:m=setsAt t w.heap.size 0 [(0,I J z),(1,I U 0),(2,I J 0),(3,I J 0),(4,Y O 0 0),(5,Y V n.length X)]:=E;have N:m.heap.size=t.heap.size:=by rw[K,BO]
      have hoth:∀ j,j≠w.heap.size→m.heap[j]? =t.heap[j]?:=fun j u=>by rw[K,AU u]
      have L:m.os=t.os∧m.tape=t.tape∧m.output=t.output:=by rw[K];exact Be _ _
      clear E;refine⟨(Y O 0 0),(Y V n.length X),?_,?_,?_,?_,?_⟩
      ·rw[HF.o];try rfl
      ·rw[HF.o];exact Af.nil _ _ _
      ·rw[HF.o];exact((No bz.o.rd (eK N.symm) fun b f _=>hoth b (by omega)).mono (by omega))
      ·have aa:∀ b,(fun b=>D b∧b<w.heap.size) b→D b∧b≠w.heap.size:=(fun b f=>⟨f.1,by have:=f.2;omega⟩);exact(ar.o.Ei ⟨eK N.symm,fun b f hl=>hoth b (aa b f).2⟩ fun b f=>hoth b (by have:=aE.o b f;omega)).grow (fun b f=>(aa b f).1) HN.o
      ·exact au.o.two (eK N.symm) L.1 L.2.1 L.2.2 fun b _ u _=>hoth b u
def FA(d:Ad)(h:Hd)(t0 t1 t2 t3 t4 t5 t6:eZ)(f b:Int)(e:List Int):Array eZ:=
 #[.string h.nm,I J h.per,I J h.len,I J d.mem,Y h.Bs.a d.semas.length h.Bs.c,I J d.events,I J d.boards,Y h.Bt.a d.bufs.length h.Bt.c,Y h.AB.a d.Ab.length h.AB.c,Y h.Ay.a d.procs.length h.Ay.c,
  t0,t1,t2,t3,t4,t5,t6,I U f,I J b,Y h.me.a e.length h.me.c,.bool true]
structure PB(w:eO)(D:Nat→Prop)(g:Nat)(d:Ad)(h:Hd)(t0 t1 t2 t3 t4 t5 t6:eZ)(mode clock:Int)(mem:List Int):Prop where
 blk:w.heap[g]? =Z (T (FA d h t0 t1 t2 t3 t4 t5 t6 mode clock mem) 88 (0,0))
 nd:¬D g
 Bs:Am w D h.Bs.b 3 1 h.Bs.a h.Bs.c (fun w _ b o x=>Ii w b o x) d.semas
 Bt:Am w D h.Bt.b 3 1 h.Bt.a h.Bt.c (fun w _ b o x=>Ii w b o x) d.bufs
 AB:Am w D h.AB.b 62 6 h.AB.a h.AB.c (fun w _ b o x=>K4 w b o x) d.Ab
 Ay:Am w D h.Ay.b 68 5 h.Ay.a h.Ay.c K3 d.procs
 me:Am w D h.me.b 5 1 h.me.a h.me.c (fun w _ b o x=>ElB w b o x) mem
def PA.pb{w:eO}{D:Nat→Prop}{g:Nat}{d:Ad}{a:Hd}{s:Ae}(h:PA w D g d a s):∃ t0 t1 t2 t3 t4 t5 t6,PB w D g d a t0 t1 t2 t3 t4 t5 t6 s.mode s.clock s.mem:=⟨_,_,_,_,_,_,_,h.blk,h.nd,h.Bs,h.Bt,h.AB,h.Ay,h.me⟩
def Hf(g:Nat)(h:Hd):List Nat:=[g,h.Bs.b,h.Bt.b,h.AB.b,h.Ay.b,h.me.b]
section
variable {w w':eO} {D:Nat→Prop} {g:Nat} {d:Ad} {hd:Hd} {t0 t1 t2 t3 t4 t5 t6 u0 u1 u2 u3 u4 u5 u6:eZ} {mode clock mode':Int} {mem:List Int}
def PB.Ga(h:PB w D g d hd t0 t1 t2 t3 t4 t5 t6 mode clock mem)(f:w.heap.size≤w'.heap.size)(i:∀ b,D b→b<w.heap.size)(c:w'.heap[g]? =Z (T (FA d hd u0 u1 u2 u3 u4 u5 u6 mode' clock mem) 88 (0,0)))(hoth:∀ b,b<w.heap.size→b≠g→w'.heap[b]? =w.heap[b]?):PB w' D g d hd u0 u1 u2 u3 u4 u5 u6 mode' clock mem:=by
 have a:Dv D g 88 w w':=⟨⟨f,fun b hd e=>hoth b e (by rintro rfl;exact h.nd hd)⟩,⟨_,_,h.blk⟩,hoth⟩;exact⟨c,h.nd,h.Bs.one C8 a (by decide),h.Bt.one C8 a (by decide),h.AB.one Fc a (by decide),h.Ay.one Fb a (by decide),h.me.one ED a (by decide)⟩
def PB.below(h:PB w D g d hd t0 t1 t2 t3 t4 t5 t6 mode clock mem)(a:Bl w w'):PB w' D g d hd t0 t1 t2 t3 t4 t5 t6 mode clock mem:=
 ⟨(a.block _ (Aa h.blk)).trans h.blk,h.nd,h.Bs.below C8 a,h.Bt.below C8 a,h.AB.below Fc a,h.Ay.below Fb a,h.me.below ED a⟩
def PB.lt(h:PB w D g d hd t0 t1 t2 t3 t4 t5 t6 mode clock mem):g<w.heap.size:=Aa h.blk
def PB.cell(h:PB w D g d hd t0 t1 t2 t3 t4 t5 t6 mode clock mem)(o:Nat):w.cell? ⟨g,o,O⟩=(FA d hd t0 t1 t2 t3 t4 t5 t6 mode clock mem)[o]?:=Cr h.blk
def PB.frozen(h:PB w D g d hd t0 t1 t2 t3 t4 t5 t6 mode clock mem)(o:Nat):w.frozen? ⟨g,o,O⟩=false:=by simp[fG,h.blk]
end
def Kd(z:Array eZ)(n j:Nat)(a:j<n)(b:0<z.size):(fc z n)[j]? =z[j%z.size]?:=by
 unfold fc;rw[Array.getElem?_map,Array.getElem?_range,if_pos a];have:=Nat.mod_lt j b;simp[this]
def Am.rep{w:eO}{D:Nat→Prop}{q sz n:Nat}{t:fC}{α:Type}{El:eO→(Nat→Prop)→Nat→Nat→α→Prop}{x:α}{a:Array eZ}{zc:List eZ}(b:w.heap[q]? =Z (T a t (0,0)))(h:¬D q)(p:zc.length=sz)(m:0<sz)(i:n*sz≤a.size)
  (f:∀ j,j<n*sz→a[j]? =zc[j%sz]?) (e:∀ o,AN w q o zc→El w D q o x):Am w D q t sz (Z ⟨q,0,O⟩) n El (e9 n x):=
 ⟨by simp,by simp,fun _=>rfl,h,Aa b,fun _=>⟨a,b,by simpa using i⟩,fun k c=>by
  rw[fw] at c;rw[fJ];refine e _ fun j u d=>?_
  have l:=(fH.1 d).1;have g:k*sz+j<n*sz:=by
   have:(k+1)*sz≤n*sz:=fy sz c;rw[fE] at this;omega
  rw[Cr b,f _ g,Nat.mul_comm,Nat.mul_add_mod,Nat.mod_eq_of_lt (by omega)];exact d⟩
def It{α:Type}{sz:Nat}{cells:α→List eZ}(b:∀ x,(cells x).length=sz):∀ (l:List α) (k j:Nat) (a:k<l.length),j<sz→(l.flatMap cells)[k*sz+j]? =(cells l[k])[j]?
 | [],k,j,a,_=>by simp at a
 |x::l,0,j,_,c=>by
  rw[fN,List.getElem?_append_left (by rw[b];omega)];simp
 |x::l,k+1,j,a,c=>by
  rw[fN,List.getElem?_append_right (by rw[b,fE];omega),b];have:=It b l k j (by simpa using a) c;rw[show (k+1)*sz+j-sz=k*sz+j by rw[fE];omega];exact this
def Am.Bw{w:eO}{D:Nat→Prop}{B sz g0:Nat}{t:fC}{α:Type}{El:eO→(Nat→Prop)→Nat→Nat→α→Prop}{a:Option Addr}{n c:Nat}{cells:α→List eZ}{l:List α}(h:w.ownsRow B t sz (Y a n c) n (l.flatMap cells))(F:l.length=n)(r:∀ x,(cells x).length=sz)(A:∀ b,B≤b→¬D b)(E:¬D g0)(m:g0<w.heap.size)
  (C:∀ b o x,x∈l→AN w b o (cells x)→El w D b o x):∃ b,(b=g0∨B≤b)∧b<w.heap.size∧Am w D b t sz a c El l:=by
 obtain⟨M,h⟩:=h;rcases h with ⟨d,L⟩|⟨q,cap,cur,d,i,e,v,_,y,z⟩
 ·simp only[eT] at d;obtain⟨rfl,_,rfl⟩:=d;refine⟨g0,.inl rfl,m,by omega,fun _=>rfl,fun h=>by omega,E,m,fun h=>by omega,fun k f=>by omega⟩
 ·simp only[eT] at d;obtain⟨rfl,_,rfl⟩:=d;have K:n*sz≤c*sz:=fy sz v;refine⟨q,.inr i,Aa e,by omega,fun h=>by(cases h),fun _=>rfl,A q i,Aa e,fun _=>⟨cur,e,by rw[F,y];exact K⟩,fun k f=>C _ _ _ (fg f) fun j u s=>?_⟩;have p:=(fH.1 s).1;rw[r] at p;have H:k*sz+j<n*sz:=by
   have:(k+1)*sz≤n*sz:=fy sz (by omega);rw[fE] at this;omega
  rw[Cr e];have g:=It r l k j f p;rw[←z,List.getElem?_take,if_pos H] at g;rw[←Array.getElem?_toList,g];exact s
def Gv{W:eO}{B q b bytes n:Nat}{t e:fC}{z:eZ}{v:eZ}{f new:List eZ}(h:W.ownsRow B e b v n f)(w:prog.underlying t=Z (.slice e))(d:(prog.info? e).map (fun i=>(i.zero,i.size,i.bytes))=Z (Z z,b,bytes))(D:z.cells.size=b)(s:0<b)(l:B≤W.heap.size)(H:n≤1000)(m:bytes≤1000)
  (o:W.heap[q]? =Z (T new.toArray e (0,0))) (p:new.length=b) (k:∀ u∈new,u.oneCell'=true) (g:fC):
  ∃ a c w',(Builtin.append_ #[t,t] g #[v,Y (Z ⟨q,0,O⟩) 1 1]).run prog W=.ok (Y a (n+1) c) w'∧w'.ownsRow B e b (Y a (n+1) c) (n+1) (f++new)∧W.grownBy w' v.ownBlock:=by
 obtain⟨E,d,y,A,C⟩:=fB d;have r:∀ j u,new[j]? =Z u→W.cell? ((⟨q,0,O⟩:Addr).add j)=Z u:=by
  intro j u x;rw[Cu,cell_of_row W _ _ _ _ _ o];simpa using x
 obtain⟨K,w',F,r2,r3,_,_⟩:=run_append_own_at (P:=prog) W B t g e E z b bytes w d y A C D s v n f h ⟨q,0,O⟩ 1 1 new (by rw[p,Nat.one_mul]) r k (by unfold maxLen;omega) (by
  have:(n+1)*bytes≤1001*1000:=Nat.mul_le_mul (by omega) m;omega) l
 obtain⟨a,c,rfl⟩:=Bq r2;exact⟨a,c,w',F,r2,r3⟩
def Bp{w w':eO}{B d n:Nat}{e:fC}{v:eZ}{f:List eZ}(h:w.ownsRow B e d v n f)(i:∀ b,B≤b→b<w.heap.size→w'.heap[b]? =w.heap[b]?):w'.ownsRow B e d v n f:=by
 refine⟨h.1,?_⟩;rcases h.2 with g|⟨q,cap,cur,k,a,c,j⟩
 ·exact .inl g
 ·exact .inr ⟨q,cap,cur,k,a,(i q a (Aa c)).trans c,j⟩
def F8{w:eO}{B b f n:Nat}{e:fC}{v:eZ}{g:List eZ}(h:w.ownsRow B e f v n g)(a:v.ownBlock=Z b):B≤b∧b<w.heap.size:=by
 rcases h.2 with ⟨rfl,_⟩|⟨q,cap,cur,rfl,c,d,_⟩
 ·cases a
 ·injection a with a;have:=Aa d;show B≤b∧b<_;rw[←a];exact⟨c,this⟩
def SR:DR.toArray=#[I U 1,I J 0,I J 0,I U 0,I U 0,I U 0,I U 0,I J 0,I J (-1),I J (-1),I U 0,I J 0]:=rfl
def Vk:(prog.info? 114).map (fun i=>(i.zero,i.size,i.bytes))=Z (Z (.agg #[Y O 0 0,I J 0,.bool false]),3,40):=by kernel_rfl
def Xv(n:Nat)(f:n≤1000)(W:eO):(fv 79 (I J (n:Int)) (I J (n:Int))).run prog W=.ok (Y (Z ⟨W.heap.size,0,O⟩) n n) (W.alloc (T (fc #[Y O 0 0,I J 0,.bool false] (n*3)) 114)):=by
 obtain⟨e,a,b,c,d⟩:=fB Vk;have:=fR (P:=prog) W 79 114 e _ underlying79 a b J J n n (by omega) (fF _) (by rw[d];omega) (by omega);rw[c,e6] at this;exact this
def JC(B n:Nat)(v:eZ)(w:eO):Prop:=∃ q,B≤q∧v=Y (Z ⟨q,0,O⟩) n n∧w.heap[q]? =Z (T (fc #[Y O 0 0,I J 0,.bool false] (n*3)) 114 (0,0))
def JC.AX{B n:Nat}:DO (JC B n):=fun _ _ _ ⟨q,b,c,a⟩ d=>⟨q,b,c,(d.block _ (Aa a)).trans a⟩
def Vj:(prog.info? 107).map (fun i=>(i.zero,i.size,i.bytes))=Z (Z (.agg #[Y O 0 0,Y O 0 0,I J 0]),3,56):=by kernel_rfl
def Xu(n:Nat)(f:n≤1000)(W:eO):(fv 80 (I J (n:Int)) (I J (n:Int))).run prog W=.ok (Y (Z ⟨W.heap.size,0,O⟩) n n) (W.alloc (T (fc #[Y O 0 0,Y O 0 0,I J 0] (n*3)) 107)):=by
 obtain⟨e,a,b,c,d⟩:=fB Vj;have:=fR (P:=prog) W 80 107 e _ underlying80 a b J J n n (by omega) (fF _) (by rw[d];omega) (by omega);rw[c,e6] at this;exact this
def JA(B n:Nat)(v:eZ)(w:eO):Prop:=∃ q,B≤q∧v=Y (Z ⟨q,0,O⟩) n n∧w.heap[q]? =Z (T (fc #[Y O 0 0,Y O 0 0,I J 0] (n*3)) 107 (0,0))
def JA.AX{B n:Nat}:DO (JA B n):=fun _ _ _ ⟨q,b,c,a⟩ d=>⟨q,b,c,(d.block _ (Aa a)).trans a⟩
def Vf:(prog.info? 103).map (fun i=>(i.zero,i.size,i.bytes))=Z (Z (.agg #[.bool false,I U 0,Y O 0 0]),3,32):=by kernel_rfl
def Xr(n:Nat)(f:n≤1000)(W:eO):(fv 82 (I J (n:Int)) (I J (n:Int))).run prog W=.ok (Y (Z ⟨W.heap.size,0,O⟩) n n) (W.alloc (T (fc #[.bool false,I U 0,Y O 0 0] (n*3)) 103)):=by
 obtain⟨e,a,b,c,d⟩:=fB Vf;have:=fR (P:=prog) W 82 103 e _ underlying82 a b J J n n (by omega) (fF _) (by rw[d];omega) (by omega);rw[c,e6] at this;exact this
def J7(B n:Nat)(v:eZ)(w:eO):Prop:=∃ q,B≤q∧v=Y (Z ⟨q,0,O⟩) n n∧w.heap[q]? =Z (T (fc #[.bool false,I U 0,Y O 0 0] (n*3)) 103 (0,0))
def J7.AX{B n:Nat}:DO (J7 B n):=fun _ _ _ ⟨q,b,c,a⟩ d=>⟨q,b,c,(d.block _ (Aa a)).trans a⟩
def Vi:(prog.info? 99).map (fun i=>(i.zero,i.size,i.bytes))=Z (Z (.agg #[.bool false,Y O 0 0]),2,32):=by kernel_rfl
def Xt(n:Nat)(f:n≤1000)(W:eO):(fv 84 (I J (n:Int)) (I J (n:Int))).run prog W=.ok (Y (Z ⟨W.heap.size,0,O⟩) n n) (W.alloc (T (fc #[.bool false,Y O 0 0] (n*2)) 99)):=by
 obtain⟨e,a,b,c,d⟩:=fB Vi;have:=fR (P:=prog) W 84 99 e _ underlying84 a b J J n n (by omega) (fF _) (by rw[d];omega) (by omega);rw[c,e6] at this;exact this
def J9(B n:Nat)(v:eZ)(w:eO):Prop:=∃ q,B≤q∧v=Y (Z ⟨q,0,O⟩) n n∧w.heap[q]? =Z (T (fc #[.bool false,Y O 0 0] (n*2)) 99 (0,0))
def J9.AX{B n:Nat}:DO (J9 B n):=fun _ _ _ ⟨q,b,c,a⟩ d=>⟨q,b,c,(d.block _ (Aa a)).trans a⟩
def Vg:(prog.info? 111).map (fun i=>(i.zero,i.size,i.bytes))=Z (Z (.agg #[I J 0,Y O 0 0,Y O 0 0,Y O 0 0]),4,80):=by kernel_rfl
def Vl:(prog.info? 95).map (fun i=>(i.zero,i.size,i.bytes))=Z (Z (.agg #[I J 0,Y O 0 0]),2,32):=by kernel_rfl
def JH(B n:Nat)(v:eZ)(w:eO):Prop:=∃ q cur,B≤q∧v=Y (Z ⟨q,0,O⟩) n n∧w.heap[q]? =Z (T cur.toArray 51 (0,0))∧cur.length=n*12∧G9 cur n
def JH.AX{B n:Nat}:DO (JH B n):=fun _ _ _ ⟨q,cur,b,c,a,d⟩ e=>⟨q,cur,b,c,(e.block _ (Aa a)).trans a,d⟩
def J6(B:Nat)(v:eZ)(w:eO):Prop:=∃ q,B≤q∧v=Y (Z ⟨q,0,O⟩) 1 1∧w.heap[q]? =Z (T DR.toArray 51 (0,0))
def J6.AX{B:Nat}:DO (J6 B):=fun _ _ _ ⟨q,b,c,a⟩ d=>⟨q,b,c,(d.block _ (Aa a)).trans a⟩
def Ez(d:Ad)(c a:Int)(b:List Int):Ae:=Hm d c ⟨0,a,b,[],[],[],[],[],[],[]⟩
def RF(d:Ad)(a:Int)(s:Ae):Hm d a s=Ez d a s.clock s.mem:=rfl
def QT(w:eO)(D:Nat→Prop)(g:Nat)(d:Ad)(f:Hd)(i c:Int)(h:List Int)(e:fK)(w':eO):Prop:=
 e=.returned (.tuple #[])∧(∃ a,PA w' D g d a (Ez d i c h)∧∀ b∈AL g a,b∈Hf g f∨(w.heap.size≤b∧b<w'.heap.size))∧Upd [g] w w'
def buC(n:Int):List eZ:=[I J n,Y O 0 0,Y O 0 0,Y O 0 0]
def seC(n:Int):List eZ:=[I J n,Y O 0 0]
def TB:EG 67:=fun _ _=>by kernel_rfl
def K9(B:Nat)(w:eO)(D:Nat→Prop)(g:Nat)(d:Ad)(s:Hd)(t0 t1 t2 t3 t4 t5 t6:eZ)(bX aa:Int)(ad:List Int)(V:Int)(bm:Gl B w)(de:B≤g)(h:PB w D g d s t0 t1 t2 t3 t4 t5 t6 bX aa ad)(ok:Ik d)(hD:∀ b,D b→b<w.heap.size):
  e7 prog 25 #[G (Z ⟨g,0,O⟩),I U V] w (QT w D g d s V aa ad):=by
 obtain⟨m,bR⟩:∃ m:Nat,d.boards=(m:Int):=⟨d.boards.toNat,by have:=ok.boards;omega⟩;obtain⟨p,ah⟩:∃ p:Nat,d.events=(p:Int):=⟨d.events.toNat,by have:=ok.events;omega⟩;have dl:m≤8:=by have:=ok.boards;omega
 have dm:p≤8:=by have:=ok.events;omega
 have cs:=ok.procs;have dn:=ok.Ab;have dt:=ok.semas;have dv:=ok.bufs;have di:=h.lt;have c8:w.cell? ⟨g,8,O⟩=Z (Y s.AB.a d.Ab.length s.AB.c):=h.cell 8;have cg:w.cell? ⟨g,17,O⟩=Z (I U bX):=h.cell 17;have f17:w.frozen? ⟨g,17,O⟩=false:=h.frozen 17;obtain⟨H,HG,ax,bq,br,cY⟩:=H6 h bm hD bR ah ok;clear h bm hD bR ah ok;go_enter func25,ntmps25;go_upto_region 2 with (fail);clear c8 cg f17;obtain⟨r,aF⟩:=ex (w.setCell ⟨g,17,O⟩ (I U V));rw[←aF];have bk:r.heap.size=w.heap.size:=by rw[aF];simp[fs]
 have bf:∀ b,b≠g→r.heap[b]? =w.heap[b]?:=fun b i=>by rw[aF];exact eY _ _ _ _ i
 have h1:PB r D g d s t0 t1 t2 t3 t4 t5 t6 V aa ad:=H.o.Ga (eK bk.symm) ax.o (by rw[aF,ff w g 17 _ _ _ H.o.blk];rfl) fun b _ i=>bf b i
 have bx:Hq (Upd [g] w r):=by rw[aF];exact Upd.Cc (M:=[g]) (by simp) 0 [(17,I U V)]
 have ac:Gl B r:=HG.o.BG bx.o (by intro q hq;simp only[fd] at hq;omega);have dd:=ac.hb;have df:=ac.hw;have aj:0<r.heap.size:=by omega
 have a8:g<r.heap.size:=by omega
 have c9:r.cell? ⟨g,9,O⟩=Z (Y s.Ay.a d.procs.length s.Ay.c):=h1.cell 9;have c6:r.cell? ⟨g,6,O⟩=Z (I J (m:Int)):=by rw[←bq.o];exact h1.cell 6
 have c5:r.cell? ⟨g,5,O⟩=Z (I J (p:Int)):=by rw[←br.o];exact h1.cell 5
 have cG:=qC (show r.cell? ⟨0,0,O⟩=_ from by have:=ac.BC 0 _ rfl;simpa using this) aj;have cH:=qC (show r.cell? ⟨0,1,O⟩=_ from by have:=ac.BC 1 _ rfl;simpa using this) aj;have cK:=qC (show r.cell? ⟨0,2,O⟩=_ from by have:=ac.BC 2 _ rfl;simpa using this) aj;have cL:=qC (show r.cell? ⟨0,3,O⟩=_ from by have:=ac.BC 3 _ rfl;simpa using this) aj;have cM:=qC (show r.cell? ⟨0,4,O⟩=_ from by have:=ac.BC 4 _ rfl;simpa using this) aj;have cN:=qC (show r.cell? ⟨0,5,O⟩=_ from by have:=ac.BC 5 _ rfl;simpa using this) aj;have cO:=qC (show r.cell? ⟨0,6,O⟩=_ from by have:=ac.BC 6 _ rfl;simpa using this) aj;have cP:=qC (show r.cell? ⟨0,7,O⟩=_ from by have:=ac.BC 7 _ rfl;simpa using this) aj;have cQ:=qC (show r.cell? ⟨0,8,O⟩=_ from by have:=ac.BC 8 _ rfl;simpa using this) aj;have cR:=qC (show r.cell? ⟨0,9,O⟩=_ from by have:=ac.BC 9 _ rfl;simpa using this) aj;have cI:=qC (show r.cell? ⟨0,10,O⟩=_ from by have:=ac.BC 10 _ rfl;simpa using this) aj;have cJ:=qC (show r.cell? ⟨0,11,O⟩=_ from by have:=ac.BC 11 _ rfl;simpa using this) aj;have cU:=qC c9 a8;have cT:=qC c6 a8;have cS:=qC c5 a8;obtain⟨H1,cX,bt⟩:=H3 h1 bf bk;clear h1 ac c9 c6 c5 bf bk aF HG;refine AS 30 [29] [] [(2,J6 r.heap.size),(9,JH r.heap.size d.procs.length),(11,JC r.heap.size d.Ab.length),(13,JA r.heap.size d.Ab.length),(19,J7 r.heap.size m),(25,J9 r.heap.size p)] ⟨J6.AX,JH.AX,JC.AX,JA.AX,J7.AX,J9.AX,trivial⟩ ?_
 iterate 2 (refine An rfl rfl rfl ?_;intro K hK;go_big_quiet_op;go_big_quiet_on)
 refine A9 rfl rfl (fun w' i hA=>?_) ?_
 ·exact Bn (v:=Y (Z ⟨w'.heap.size,0,O⟩) 1 1) (w':=w'.alloc (T DR.toArray 51)) (by rw[SR];simp[fl,go_sem]) ⟨(eR _ _).alloc (eU _) _,⟨w'.heap.size,i.size,rfl,eS _ _⟩⟩
 intro v w' i hv;obtain⟨qd,hq,rfl,an⟩:=hv;clear i hq an w';simp only[Au,eJ,eM,eL]
 iterate 6 (refine An rfl rfl rfl ?_;intro K hK;go_big_quiet_op;go_big_quiet_on)
 refine A9 rfl rfl (fun w' i hA=>?_) ?_
 ·have s:=hA 2 _ rfl (.base (by kernel_rfl));obtain⟨q',_,bF,cl⟩:=(show J6 r.heap.size (Y (Z ⟨qd,0,O⟩) 1 1) w' from s);simp only[eT,fh,fp,and_true,true_and] at bF;subst bF;refine AD (f:=67) (al:=[Y (Z ⟨qd,0,O⟩) 1 1,I J d.procs.length]) rfl rfl rfl TB ?_;exact(Y0 qd d.procs.length w' cl cs).mono fun e w2 h=>by
   obtain⟨he,⟨cur,k1,k2,k3⟩,a6⟩:=h;exact⟨_,he,a6,_,cur,i.size,rfl,k1,k2,k3⟩
 intro v w' i hv;obtain⟨L,aK,hq,rfl,an⟩:=hv;clear i hq an aK w';simp only[Au,eJ,eM,eL]
 iterate 1 (refine An rfl rfl rfl ?_;intro K hK;go_big_quiet_op;go_big_quiet_on)
 refine A9 rfl rfl (fun w' i hA=>?_) ?_
 ·exact Bn (v:=Y (Z ⟨w'.heap.size,0,O⟩) d.Ab.length d.Ab.length) (w':=w'.alloc (T (fc #[Y O 0 0,I J 0,.bool false] (d.Ab.length*3)) 114)) (by simp[fl,go_sem,Xv d.Ab.length (by omega) w']) ⟨(eR _ _).alloc (eU _) _,⟨w'.heap.size,i.size,rfl,eS _ _⟩⟩
 intro v w' i hv;obtain⟨P,hq,rfl,an⟩:=hv;clear i hq an w';simp only[Au,eJ,eM,eL]
 iterate 1 (refine An rfl rfl rfl ?_;intro K hK;go_big_quiet_op;go_big_quiet_on)
 refine A9 rfl rfl (fun w' i hA=>?_) ?_
 ·exact Bn (v:=Y (Z ⟨w'.heap.size,0,O⟩) d.Ab.length d.Ab.length) (w':=w'.alloc (T (fc #[Y O 0 0,Y O 0 0,I J 0] (d.Ab.length*3)) 107)) (by simp[fl,go_sem,Xu d.Ab.length (by omega) w']) ⟨(eR _ _).alloc (eU _) _,⟨w'.heap.size,i.size,rfl,eS _ _⟩⟩
 intro v w' i hv;obtain⟨N,hq,rfl,an⟩:=hv;clear i hq an w';simp only[Au,eJ,eM,eL]
 iterate 5 (refine An rfl rfl rfl ?_;intro K hK;go_big_quiet_op;go_big_quiet_on)
 refine A9 rfl rfl (fun w' i hA=>?_) ?_
 ·exact Bn (v:=Y (Z ⟨w'.heap.size,0,O⟩) m m) (w':=w'.alloc (T (fc #[.bool false,I U 0,Y O 0 0] (m*3)) 103)) (by simp[fl,go_sem,Xr m (by omega) w']) ⟨(eR _ _).alloc (eU _) _,⟨w'.heap.size,i.size,rfl,eS _ _⟩⟩
 intro v w' i hv;obtain⟨E,hq,rfl,an⟩:=hv;clear i hq an w';simp only[Au,eJ,eM,eL]
 iterate 5 (refine An rfl rfl rfl ?_;intro K hK;go_big_quiet_op;go_big_quiet_on)
 refine A9 rfl rfl (fun w' i hA=>?_) ?_
 ·exact Bn (v:=Y (Z ⟨w'.heap.size,0,O⟩) p p) (w':=w'.alloc (T (fc #[.bool false,Y O 0 0] (p*2)) 99)) (by simp[fl,go_sem,Xt p (by omega) w']) ⟨(eR _ _).alloc (eU _) _,⟨w'.heap.size,i.size,rfl,eS _ _⟩⟩
 intro v w' i hv;obtain⟨F,hq,rfl,an⟩:=hv;clear i hq an w';simp only[Au,eJ,eM,eL]
 iterate 3 (refine An rfl rfl rfl ?_;intro K hK;go_big_quiet_op;go_big_quiet_on)
 refine AH rfl ?_;refine AR ?_;intro Q aX aH;obtain⟨dB,be,e,bQ⟩:JC r.heap.size d.Ab.length (Y (Z ⟨P,0,O⟩) d.Ab.length d.Ab.length) Q:=aH 11 _ (by decide) rfl;simp only[eT,fh,fp,and_true,true_and] at e;subst e;obtain⟨dA,bd,e,bP⟩:JA r.heap.size d.Ab.length (Y (Z ⟨N,0,O⟩) d.Ab.length d.Ab.length) Q:=aH 13 _ (by decide) rfl;simp only[eT,fh,fp,and_true,true_and] at e;subst e;obtain⟨dx,a9,e,bM⟩:J7 r.heap.size m (Y (Z ⟨E,0,O⟩) m m) Q:=aH 19 _ (by decide) rfl;simp only[eT,fh,fp,and_true,true_and] at e;subst e;obtain⟨dy,ba,e,bN⟩:J9 r.heap.size p (Y (Z ⟨F,0,O⟩) p p) Q:=aH 25 _ (by decide) rfl;simp only[eT,fh,fp,and_true,true_and] at e;subst e;obtain⟨dz,aK,bc,e,bO,bH,bI⟩:JH r.heap.size d.procs.length (Y (Z ⟨L,0,O⟩) d.procs.length d.procs.length) Q:=aH 9 _ (by decide) rfl;simp only[eT,fh,fp,and_true,true_and] at e;subst e;have S:=H1.o.below aX;have z0:Q.cell? ⟨g,10,O⟩=Z t0:=S.cell 10;have f0:Q.frozen? ⟨g,10,O⟩=false:=S.frozen 10;have z1:Q.cell? ⟨g,11,O⟩=Z t1:=S.cell 11;have f1:Q.frozen? ⟨g,11,O⟩=false:=S.frozen 11;have z2:Q.cell? ⟨g,12,O⟩=Z t2:=S.cell 12;have f2:Q.frozen? ⟨g,12,O⟩=false:=S.frozen 12;have z3:Q.cell? ⟨g,13,O⟩=Z t3:=S.cell 13;have f3:Q.frozen? ⟨g,13,O⟩=false:=S.frozen 13;have z4:Q.cell? ⟨g,14,O⟩=Z t4:=S.cell 14;have f4:Q.frozen? ⟨g,14,O⟩=false:=S.frozen 14;have z5:Q.cell? ⟨g,15,O⟩=Z t5:=S.cell 15;have f5:Q.frozen? ⟨g,15,O⟩=false:=S.frozen 15;have z6:Q.cell? ⟨g,16,O⟩=Z t6:=S.cell 16;have f6:Q.frozen? ⟨g,16,O⟩=false:=S.frozen 16;obtain⟨z,a5⟩:=ex (((((((Q.setCell ⟨g,10,O⟩ (Y (Z ⟨L,0,O⟩) d.procs.length d.procs.length)).setCell ⟨g,11,O⟩ (Y (Z ⟨P,0,O⟩) d.Ab.length d.Ab.length)).setCell ⟨g,12,O⟩ (Y (Z ⟨N,0,O⟩) d.Ab.length d.Ab.length)).setCell ⟨g,13,O⟩ (Y O 0 0)).setCell ⟨g,14,O⟩ (Y (Z ⟨E,0,O⟩) m m)).setCell ⟨g,15,O⟩ (Y O 0 0)).setCell ⟨g,16,O⟩ (Y (Z ⟨F,0,O⟩) p p));refine AI (w':=z) (by rw[a5];simp[fl,go_sem,z0,f0,z1,f1,z2,f2,z3,f3,z4,f4,z5,f5,z6,f6]) ?_;unfold A7;have ay:z=setsAt Q g 0 [(10,Y (Z ⟨L,0,O⟩) d.procs.length d.procs.length),(11,Y (Z ⟨P,0,O⟩) d.Ab.length d.Ab.length),(12,Y (Z ⟨N,0,O⟩) d.Ab.length d.Ab.length),(13,Y O 0 0),(14,Y (Z ⟨E,0,O⟩) m m),(15,Y O 0 0),(16,Y (Z ⟨F,0,O⟩) p p)]:=a5;have aY:z.heap.size=Q.heap.size:=by rw[ay,BO]
 have aw:∀ b,b≠g→z.heap[b]? =Q.heap[b]?:=fun b i=>by rw[ay,AU i]
 have bJ:z.heap[g]? =Z (T (FA d s (Y (Z ⟨L,0,O⟩) d.procs.length d.procs.length) (Y (Z ⟨P,0,O⟩) d.Ab.length d.Ab.length) (Y (Z ⟨N,0,O⟩) d.Ab.length d.Ab.length) (Y O 0 0) (Y (Z ⟨E,0,O⟩) m m) (Y O 0 0) (Y (Z ⟨F,0,O⟩) p p) V aa ad) 88 (0,0)):=by
  rw[ay];have hh:=Di [(10,Y (Z ⟨L,0,O⟩) d.procs.length d.procs.length),(11,Y (Z ⟨P,0,O⟩) d.Ab.length d.Ab.length),(12,Y (Z ⟨N,0,O⟩) d.Ab.length d.Ab.length),(13,Y O 0 0),(14,Y (Z ⟨E,0,O⟩) m m),(15,Y O 0 0),(16,Y (Z ⟨F,0,O⟩) p p)] S.blk;simp only[Er,FA,eJ,eM,eL] at hh;exact hh
 have cu:=aX.size;have aW:Hq (PB z D g d s (Y (Z ⟨L,0,O⟩) d.procs.length d.procs.length) (Y (Z ⟨P,0,O⟩) d.Ab.length d.Ab.length) (Y (Z ⟨N,0,O⟩) d.Ab.length d.Ab.length) (Y O 0 0) (Y (Z ⟨E,0,O⟩) m m) (Y O 0 0) (Y (Z ⟨F,0,O⟩) p p) V aa ad):=S.Ga (eK aY.symm) (fun b i=>by have:=ax.o b i;have:=bt.o;omega) bJ fun b _ i=>aw b i
 have bz:Hq (Upd [g] w z):=by
  have y:=bx.o.trans (Upd.below aX);refine⟨?_,?_,?_,?_,fun j hj hn=>?_⟩
  ·rw[ay,(Be _ _).1];exact y.os
  ·rw[ay,(Be _ _).2.1];exact y.tape
  ·rw[ay,(Be _ _).2.2];exact y.output
  ·rw[aY];exact y.size
  ·rw[aw j (by simpa using hn)];exact y.block j hj hn
 have aP:∀ q,r.heap.size≤q→q≠g:=fun q hq=>by omega
 have HK:Hq (z.heap[L]? =Z (T aK.toArray 51 (0,0))∧aK.length=d.procs.length*12∧G9 aK d.procs.length∧r.heap.size≤L):=⟨(aw _ (aP _ bc)).trans bO,bH,bI,bc⟩;have ca:Hq (z.heap[P]? =Z (T (fc #[Y O 0 0,I J 0,.bool false] (d.Ab.length*3)) 114 (0,0))∧r.heap.size≤P):=⟨(aw _ (aP _ be)).trans bQ,be⟩;have b9:Hq (z.heap[N]? =Z (T (fc #[Y O 0 0,Y O 0 0,I J 0] (d.Ab.length*3)) 107 (0,0))∧r.heap.size≤N):=⟨(aw _ (aP _ bd)).trans bP,bd⟩;have b7:Hq (z.heap[E]? =Z (T (fc #[.bool false,I U 0,Y O 0 0] (m*3)) 103 (0,0))∧r.heap.size≤E):=⟨(aw _ (aP _ a9)).trans bM,a9⟩;have b8:Hq (z.heap[F]? =Z (T (fc #[.bool false,Y O 0 0] (p*2)) 99 (0,0))∧r.heap.size≤F):=⟨(aw _ (aP _ ba)).trans bN,ba⟩;have dj:g<z.heap.size:=by rw[aY];omega
 have aI:Hq (w.heap.size≤z.heap.size):=bz.o.size;clear a5 ay aY aw bJ S aX aH cu z0 f0 z1 f1 z2 f2 z3 f3 z4 f4 z5 f5 z6 f6 cG cH cK cL cM cN cO cP cQ cR cI cJ cU cT cS bc bO bH bI be bQ bd bP a9 bM ba bN;have cd:z.cell? ⟨g,7,O⟩=Z (Y s.Bt.a d.bufs.length s.Bt.c):=aW.o.cell 7;go_upto_region 4 with (fail);clear cd
 go_loopw [6,54] (fun _ v wr=>∃ k:Nat,k≤d.bufs.length∧v=I J k∧(∃ a c,Hq (wr.heap[g]? =Z (T (FA d s (Y (Z ⟨L,0,O⟩) d.procs.length d.procs.length) (Y (Z ⟨P,0,O⟩) d.Ab.length d.Ab.length) (Y (Z ⟨N,0,O⟩) d.Ab.length d.Ab.length) ((Y a k c)) (Y (Z ⟨E,0,O⟩) m m) (Y O 0 0) (Y (Z ⟨F,0,O⟩) p p) V aa ad) 88 (0,0))∧wr.ownsRow z.heap.size 111 4 (Y a k c) k ((d.bufs.take k).flatMap buC)∧Upd [g] z wr))) (fun _ v _=>d.bufs.length-(fM v).toNat)
 case atStart=>exact⟨0,fu _,rfl,O,0,aW.o.blk,⟨by simp,.inl ⟨rfl,rfl⟩⟩,Upd.refl _ _⟩
 case round=>
  obtain⟨k,cq,rfl,a,c,A⟩:=hrel;by_cases hk:k<d.bufs.length
  ·have cr:(k:Int)<(d.bufs.length:Int):=by omega
   obtain⟨az,ho,y⟩:=A.o;have cw:=y.size;have C:PB wr D g d s (Y (Z ⟨L,0,O⟩) d.procs.length d.procs.length) (Y (Z ⟨P,0,O⟩) d.Ab.length d.Ab.length) (Y (Z ⟨N,0,O⟩) d.Ab.length d.Ab.length) ((Y a k c)) (Y (Z ⟨E,0,O⟩) m m) (Y O 0 0) (Y (Z ⟨F,0,O⟩) p p) V aa ad:=aW.o.Ga y.size (fun b i=>by have:=ax.o b i;have:=aI.o;omega) az fun b hl ah=>y.block b hl (by simp[ah]);have ci:=C.Bt.cap;have aR:=C.Bt.ptr (by omega);have ce:wr.cell? ⟨s.Bt.b,k,O⟩=Z (I J d.bufs[k]):=by
    have:=C.Bt.el k hk 0 _ rfl;simpa using this
   obtain⟨x,hx⟩:=ex (d.bufs[k]);rw[←hx] at ce;rw[aR];obtain⟨X,c2,R,aT,aQ,ag⟩:=Gv (W:=wr.alloc (T (buC x).toArray 111)) (q:=wr.heap.size) (new:=buC x) (Bp ho fun b _ i=>eX _ _ _ i) underlying81 Vg rfl (by decide) (by simp;omega) (by omega) (by decide) (eS _ _) rfl (by intro u y;simp only[buC,eQ,eN,or_false] at y;rcases y with rfl|rfl|rfl|rfl<;>rfl) 81;have cZ:wr.cell? ⟨g,13,O⟩=Z (Y a k c):=C.cell 13;have cx:∀ ob,(wr.alloc ob).cell? ⟨g,13,O⟩=Z (Y a k c):=fun ob=>by
    rw[e5 _ _ _ (fi C.lt)];exact C.cell 13
   have aO:=fun b=>F8 (b:=b) ho;have cp:g<wr.heap.size:=C.lt;have aC:∀ b,b<z.heap.size→R.heap[b]? =wr.heap[b]?:=fun b i=>(ag.block b (by simp;omega) (fun e=>by have:=(aO b e.symm).1;omega)).trans (eX _ _ _ (by omega));have cv:wr.heap.size+1≤R.heap.size:=by have:=ag.size;simpa using this
   have ar:=(aC g (by omega)).trans az;have f13:R.frozen? ⟨g,13,O⟩=false:=by simp[fG,ar]
   have c1:R.cell? ⟨g,13,O⟩=Z (Y a k c):=(Cr ar).trans rfl;have aL:(d.bufs.take (k+1)).flatMap buC=(d.bufs.take k).flatMap buC++buC x:=by
    rw[fA hk,fL,hx];simp
   have aU:(R.setCell ⟨g,13,O⟩ (Y X (k+1) c2)).heap.size=R.heap.size:=by simp[fs]
   have HN:Hq ((R.setCell ⟨g,13,O⟩ (Y X (k+1) c2)).heap[g]? =Z (T (FA d s (Y (Z ⟨L,0,O⟩) d.procs.length d.procs.length) (Y (Z ⟨P,0,O⟩) d.Ab.length d.Ab.length) (Y (Z ⟨N,0,O⟩) d.Ab.length d.Ab.length) ((Y X (k+1) c2)) (Y (Z ⟨E,0,O⟩) m m) (Y O 0 0) (Y (Z ⟨F,0,O⟩) p p) V aa ad) 88 (0,0))∧(R.setCell ⟨g,13,O⟩ (Y X (k+1) c2)).ownsRow z.heap.size 111 4 (Y X (k+1) c2) (k+1) ((d.bufs.take (k+1)).flatMap buC)∧Upd [g] z (R.setCell ⟨g,13,O⟩ (Y X (k+1) c2))):=by
    refine⟨by rw[ff R g 13 _ _ _ ar];rfl,?_,?_⟩
    ·rw[aL];exact Bp aQ fun b i _=>eY _ _ _ _ (fun e=>by have e2:b=g:=e;omega)
    ·exact⟨ag.os.trans y.os,ag.tape.trans y.tape,ag.output.trans y.output,by rw[aU];omega,fun b i hn=>(eY _ _ _ _ (by simpa using hn)).trans ((aC b i).trans (y.block b i hn))⟩
   have a0:=HH aT;clear C ho y az ar aQ ag aT A aO aC hx aL aR aU;go_wp2_with (at_builtin;refine fx _ rfl _ _ _ _ rfl _ _ rfl rfl _ _ a0.o ?_)
   go_roundw
   case rel=>exact⟨k+1,by omega,by go_num,X,c2,HN.o⟩
   case measure=>simp[fM];omega
  ·obtain rfl:k=d.bufs.length:=by omega
   obtain⟨bK,bU,aG⟩:=A.o;obtain⟨W3,rfl⟩:=ex wr;obtain⟨ab,rfl⟩:=ex a;obtain⟨cb,rfl⟩:=ex c;have aD:Hq (PB W3 D g d s (Y (Z ⟨L,0,O⟩) d.procs.length d.procs.length) (Y (Z ⟨P,0,O⟩) d.Ab.length d.Ab.length) (Y (Z ⟨N,0,O⟩) d.Ab.length d.Ab.length) (Y ab d.bufs.length cb) (Y (Z ⟨E,0,O⟩) m m) (Y O 0 0) (Y (Z ⟨F,0,O⟩) p p) V aa ad):=aW.o.Ga aG.size (fun b i=>by have:=ax.o b i;have:=aI.o;omega) bK fun b hl ah=>aG.block b hl (by simp[ah]);obtain⟨cc,a1⟩:=H2 bU aG;have bw:=aI;replace aI:Hq (w.heap.size≤W3.heap.size):=e8 bw.o aG.size;have dk:g<W3.heap.size:=aD.o.lt;have ds:z.heap.size≤W3.heap.size:=aG.size;have c4:W3.cell? ⟨g,4,O⟩=Z (Y s.Bs.a d.semas.length s.Bs.c):=aD.o.cell 4;clear bK bU aG A;go_upto_region 9 with (fail);clear c4;have cd:W3.cell? ⟨g,4,O⟩=Z (Y s.Bs.a d.semas.length s.Bs.c):=aD.o.cell 4;clear cd
   go_loopw [8,78] (fun _ v wr=>∃ k:Nat,k≤d.semas.length∧v=I J k∧(∃ a c,Hq (wr.heap[g]? =Z (T (FA d s (Y (Z ⟨L,0,O⟩) d.procs.length d.procs.length) (Y (Z ⟨P,0,O⟩) d.Ab.length d.Ab.length) (Y (Z ⟨N,0,O⟩) d.Ab.length d.Ab.length) (Y ab d.bufs.length cb) (Y (Z ⟨E,0,O⟩) m m) ((Y a k c)) (Y (Z ⟨F,0,O⟩) p p) V aa ad) 88 (0,0))∧wr.ownsRow W3.heap.size 95 2 (Y a k c) k ((d.semas.take k).flatMap seC)∧Upd [g] W3 wr))) (fun _ v _=>d.semas.length-(fM v).toNat)
   case atStart=>exact⟨0,fu _,rfl,O,0,aD.o.blk,⟨by simp,.inl ⟨rfl,rfl⟩⟩,Upd.refl _ _⟩
   case round=>
    obtain⟨k,cq,rfl,a,c,A⟩:=hrel;by_cases hk:k<d.semas.length
    ·have cr:(k:Int)<(d.semas.length:Int):=by omega
     obtain⟨az,ho,y⟩:=A.o;have cw:=y.size;have C:PB wr D g d s (Y (Z ⟨L,0,O⟩) d.procs.length d.procs.length) (Y (Z ⟨P,0,O⟩) d.Ab.length d.Ab.length) (Y (Z ⟨N,0,O⟩) d.Ab.length d.Ab.length) (Y ab d.bufs.length cb) (Y (Z ⟨E,0,O⟩) m m) ((Y a k c)) (Y (Z ⟨F,0,O⟩) p p) V aa ad:=aD.o.Ga y.size (fun b i=>by have:=ax.o b i;have:=aI.o;omega) az fun b hl ah=>y.block b hl (by simp[ah]);have ci:=C.Bs.cap;have aR:=C.Bs.ptr (by omega);have ce:wr.cell? ⟨s.Bs.b,k,O⟩=Z (I J d.semas[k]):=by
      have:=C.Bs.el k hk 0 _ rfl;simpa using this
     obtain⟨x,hx⟩:=ex (d.semas[k]);rw[←hx] at ce;rw[aR];obtain⟨X,c2,R,aT,aQ,ag⟩:=Gv (W:=wr.alloc (T (seC x).toArray 95)) (q:=wr.heap.size) (new:=seC x) (Bp ho fun b _ i=>eX _ _ _ i) underlying83 Vl rfl (by decide) (by simp;omega) (by omega) (by decide) (eS _ _) rfl (by intro u y;simp only[seC,eQ,eN,or_false] at y;rcases y with rfl|rfl<;>rfl) 83;have c0:wr.cell? ⟨g,15,O⟩=Z (Y a k c):=C.cell 15;have cx:∀ ob,(wr.alloc ob).cell? ⟨g,15,O⟩=Z (Y a k c):=fun ob=>by
      rw[e5 _ _ _ (fi C.lt)];exact C.cell 15
     have aO:=fun b=>F8 (b:=b) ho;have cp:g<wr.heap.size:=C.lt;have aC:∀ b,b<W3.heap.size→R.heap[b]? =wr.heap[b]?:=fun b i=>(ag.block b (by simp;omega) (fun e=>by have:=(aO b e.symm).1;omega)).trans (eX _ _ _ (by omega));have cv:wr.heap.size+1≤R.heap.size:=by have:=ag.size;simpa using this
     have ar:=(aC g (by omega)).trans az;have f15:R.frozen? ⟨g,15,O⟩=false:=by simp[fG,ar]
     have c3:R.cell? ⟨g,15,O⟩=Z (Y a k c):=(Cr ar).trans rfl;have aL:(d.semas.take (k+1)).flatMap seC=(d.semas.take k).flatMap seC++seC x:=by
      rw[fA hk,fL,hx];simp
     have aU:(R.setCell ⟨g,15,O⟩ (Y X (k+1) c2)).heap.size=R.heap.size:=by simp[fs]
     have HN:Hq ((R.setCell ⟨g,15,O⟩ (Y X (k+1) c2)).heap[g]? =Z (T (FA d s (Y (Z ⟨L,0,O⟩) d.procs.length d.procs.length) (Y (Z ⟨P,0,O⟩) d.Ab.length d.Ab.length) (Y (Z ⟨N,0,O⟩) d.Ab.length d.Ab.length) (Y ab d.bufs.length cb) (Y (Z ⟨E,0,O⟩) m m) ((Y X (k+1) c2)) (Y (Z ⟨F,0,O⟩) p p) V aa ad) 88 (0,0))∧(R.setCell ⟨g,15,O⟩ (Y X (k+1) c2)).ownsRow W3.heap.size 95 2 (Y X (k+1) c2) (k+1) ((d.semas.take (k+1)).flatMap seC)∧Upd [g] W3 (R.setCell ⟨g,15,O⟩ (Y X (k+1) c2))):=by
      refine⟨by rw[ff R g 15 _ _ _ ar];rfl,?_,?_⟩
      ·rw[aL];exact Bp aQ fun b i _=>eY _ _ _ _ (fun e=>by have e2:b=g:=e;omega)
      ·exact⟨ag.os.trans y.os,ag.tape.trans y.tape,ag.output.trans y.output,by rw[aU];omega,fun b i hn=>(eY _ _ _ _ (by simpa using hn)).trans ((aC b i).trans (y.block b i hn))⟩
     have a0:=HH aT;clear C ho y az ar aQ ag aT A aO aC hx aL aR aU;go_wp2_with (at_builtin;refine fx _ rfl _ _ _ _ rfl _ _ rfl rfl _ _ a0.o ?_)
     go_roundw
     case rel=>exact⟨k+1,by omega,by go_num,X,c2,HN.o⟩
     case measure=>simp[fM];omega
    ·obtain rfl:k=d.semas.length:=by omega
     obtain⟨aN,bV,bW⟩:=A.o;obtain⟨bp,cf,aJ⟩:=H3 aN bV bW;clear aN bV bW A;go_wp2_with fail
     go_end0
     have ct:=aJ.o.size;have dr:=a1.o.size;have dq:=bw.o;have dp:=bt.o;have bS:d.boards.toNat=m:=by rw[bq.o];rfl
     have bT:d.events.toNat=p:=by rw[br.o];rfl
     have aA:∀ b,w.heap.size≤b→¬D b:=fun b i s=>by have:=ax.o b s;omega
     have a7:¬D g:=H.o.nd;have aN:g<wr.heap.size:=by omega
     obtain⟨bb,a6,dh,cV⟩:=Am.Bw (w:=wr) (D:=D) (g0:=g) (El:=ElBu) (cells:=fun x:AT=>buC x.depth) (l:=d.bufs.map fun n=>⟨n,[],[],[]⟩) (B:=z.heap.size) (a:=ab) (n:=d.bufs.length) (c:=cb) (t:=111) (sz:=4) (by
      have h:=Bp (w':=wr) cc.o fun b i hl=>aJ.o.block b hl (by simp only[fd];omega);rw[fP] at h;rw[fQ];exact h) (by simp) (fun _=>rfl) (fun b i=>aA b (by omega)) a7 aN (fun b o x hx hc=>by
      simp only[fU] at hx;obtain⟨n,_,rfl⟩:=hx;exact⟨_,_,_,hc,A4.nil,Bm.nil,Bm.nil⟩)
     obtain⟨bs,cm,du,cW⟩:=Am.Bw (w:=wr) (D:=D) (g0:=g) (El:=ElSe) (cells:=fun x:BU=>seC x.count) (l:=d.semas.map fun n=>⟨n,[]⟩) (B:=W3.heap.size) (a:=a) (n:=d.semas.length) (c:=c) (t:=95) (sz:=2) (by
      have h:=cf.o;rw[fP] at h;rw[fQ];exact h) (by simp) (fun _=>rfl) (fun b i=>aA b (by omega)) a7 aN (fun b o x hx hc=>by
      simp only[fU] at hx;obtain⟨n,_,rfl⟩:=hx;exact⟨_,hc,Bm.nil⟩)
     have hk:∀ b,b<z.heap.size→b≠g→wr.heap[b]? =z.heap[b]?:=fun b i ah=>(aJ.o.block b (by omega) (by simpa using ah)).trans (a1.o.block b i (by simpa using ah));have C:PB wr D g d s (Y (Z ⟨L,0,O⟩) d.procs.length d.procs.length) (Y (Z ⟨P,0,O⟩) d.Ab.length d.Ab.length) (Y (Z ⟨N,0,O⟩) d.Ab.length d.Ab.length) (Y ab d.bufs.length cb) (Y (Z ⟨E,0,O⟩) m m) (Y a d.semas.length c) (Y (Z ⟨F,0,O⟩) p p) V aa ad:=aD.o.Ga ct (fun b i=>by have:=ax.o b i;omega) bp.o fun b hl ah=>aJ.o.block b hl (by simpa using ah);have ec:FA d s (Y (Z ⟨L,0,O⟩) d.procs.length d.procs.length) (Y (Z ⟨P,0,O⟩) d.Ab.length d.Ab.length) (Y (Z ⟨N,0,O⟩) d.Ab.length d.Ab.length) (Y ab d.bufs.length cb) (Y (Z ⟨E,0,O⟩) m m) (Y a d.semas.length c) (Y (Z ⟨F,0,O⟩) p p) V aa ad=CR d {s with pr:=⟨Z ⟨L,0,O⟩,d.procs.length,L⟩,sa:=⟨Z ⟨P,0,O⟩,d.Ab.length,P⟩,qu:=⟨Z ⟨N,0,O⟩,d.Ab.length,N⟩,bu:=⟨ab,cb,bb⟩,bo:=⟨Z ⟨E,0,O⟩,m,E⟩,se:=⟨a,c,bs⟩,ev:=⟨Z ⟨F,0,O⟩,p,F⟩} (Ez d V aa ad):=by
      simp only[FA,CR,Ez,Hm,fw,List.length_map,bS,bT]
     have aS:=HK.o;have bg:=ca.o;have bh:=b9.o;have bi:=b7.o;have bj:=b8.o;have e0:=aS.2.2.2;have e1:=bg.2;have e2:=bh.2;have e3:=bi.2;have e4:=bj.2;have l0:=Aa aS.1;have l1:=Aa bg.1;have l2:=Aa bh.1;have l3:=Aa bi.1;have l4:=Aa bj.1;refine⟨rfl,⟨{s with pr:=⟨Z ⟨L,0,O⟩,d.procs.length,L⟩,sa:=⟨Z ⟨P,0,O⟩,d.Ab.length,P⟩,qu:=⟨Z ⟨N,0,O⟩,d.Ab.length,N⟩,bu:=⟨ab,cb,bb⟩,bo:=⟨Z ⟨E,0,O⟩,m,E⟩,se:=⟨a,c,bs⟩,ev:=⟨Z ⟨F,0,O⟩,p,F⟩},⟨?_,a7,C.Bs,C.Bt,C.AB,C.Ay,?_,?_,?_,cV,?_,cW,?_,C.me⟩,?_⟩,bz.o.trans (a1.o.trans aJ.o)⟩
     ·rw[←ec];exact bp.o
     ·show Am wr D L 51 12 (Z ⟨L,0,O⟩) d.procs.length (fun w _ b o x=>ElPr w b o x) (e9 d.procs.length EU);refine Am.rep (zc:=DR) ((hk _ l0 (by omega)).trans aS.1) (aA _ (by omega)) rfl (by decide) (by simp[aS.2.1]) (fun j hj=>?_) fun o hc=>⟨0,0,0,0,rfl,hc⟩;simpa using aS.2.2.1 j hj
     ·show Am wr D P 114 3 (Z ⟨P,0,O⟩) d.Ab.length ElSa (e9 d.Ab.length ⟨[],0,false⟩);refine Am.rep (zc:=[Y O 0 0,I J 0,.bool false]) ((hk _ l1 (by omega)).trans bg.1) (aA _ (by omega)) rfl (by decide) (by simp[fz]) (fun j hj=>?_) fun o hc=>⟨_,hc,A4.nil⟩;rw[Kd _ _ _ hj (by decide)];simp
     ·show Am wr D N 107 3 (Z ⟨N,0,O⟩) d.Ab.length ElQu (e9 d.Ab.length ⟨[],[],0⟩);refine Am.rep (zc:=[Y O 0 0,Y O 0 0,I J 0]) ((hk _ l2 (by omega)).trans bh.1) (aA _ (by omega)) rfl (by decide) (by simp[fz]) (fun j hj=>?_) fun o hc=>⟨_,_,hc,BS.nil,Bm.nil⟩;rw[Kd _ _ _ hj (by decide)];simp
     ·show Am wr D E 103 3 (Z ⟨E,0,O⟩) m ElBo (e9 d.boards.toNat ⟨false,0,[]⟩);rw[bS];refine Am.rep (zc:=[.bool false,I U 0,Y O 0 0]) ((hk _ l3 (by omega)).trans bi.1) (aA _ (by omega)) rfl (by decide) (by simp[fz]) (fun j hj=>?_) fun o hc=>⟨_,hc,Bm.nil⟩;rw[Kd _ _ _ hj (by decide)];simp
     ·show Am wr D F 99 2 (Z ⟨F,0,O⟩) p ElEv (e9 d.events.toNat ⟨false,[]⟩);rw[bT];refine Am.rep (zc:=[.bool false,Y O 0 0]) ((hk _ l4 (by omega)).trans bj.1) (aA _ (by omega)) rfl (by decide) (by simp[fz]) (fun j hj=>?_) fun o hc=>⟨_,hc,Bm.nil⟩;rw[Kd _ _ _ hj (by decide)];simp
     ·intro b i;simp only[AL,eQ,eN,or_false] at i;simp only[Hf,eQ,eN,or_false];rcases i with rfl|rfl|rfl|rfl|rfl|rfl|rfl|rfl|rfl|rfl|rfl|rfl|rfl
      ·simp
      ·simp
      ·simp
      ·simp
      ·simp
      ·right;omega
      ·right;omega
      ·right;omega
      ·rcases a6 with h|h
       ·simp[h]
       ·right;omega
      ·right;omega
      ·rcases cm with h|h
       ·simp[h]
       ·right;omega
      ·right;omega
      ·simp
def PX(w:eO)(F:Nat→Prop)(g:Nat)(d:Ad)(s:Ae):Prop:=(∀ b,F b→b<w.heap.size)∧∃ a D,PA w D g d a s∧(∀ b,D b→F b)∧∀ b∈AL g a,F b
def Gr(w w':eO)(F:Nat→Prop)(b:Nat):Prop:=F b∨(w.heap.size≤b∧b<w'.heap.size)
structure Fr(F:Nat→Prop)(w w':eO):Prop where
 os:w'.os=w.os
 tape:w'.tape=w.tape
 output:w'.output=w.output
 size:w.heap.size≤w'.heap.size
 block:∀ b,b<w.heap.size→¬F b→w'.heap[b]? =w.heap[b]?
section
variable {w w':eO} {F:Nat→Prop} {D:Nat→Prop} {g:Nat} {d:Ad} {hd:Hd} {s s':Ae}
def Fr.F6{M:List Nat}(h:Upd M w w')(a:∀ b∈M,F b):Fr F w w':=⟨h.os,h.tape,h.output,h.size,fun b c f=>h.block b c fun e=>f (a b e)⟩
def Fr.below(h:Bl w w'):Fr F w w':=⟨h.os,h.tape,h.output,h.size,fun b a _=>h.block b a⟩
def PX.lt(h:PX w F g d s):g<w.heap.size∧F g:=by
 obtain⟨c,hd,D,b,_,a⟩:=h;exact⟨b.lt,a g (by simp[AL])⟩
def PX.Ag(h:PX w F g d s)(f:w.heap.size≤w'.heap.size)(a:∀ b,F b→w'.heap[b]? =w.heap[b]?):PX w' F g d s:=by
 obtain⟨i,hd,D,k,e,c⟩:=h;exact⟨fun b a=>fa (i b a) f,hd,D,k.Ei ⟨f,fun b hd _=>a b (e b hd)⟩ fun b j=>a b (c b j),e,c⟩
def PX.below(h:PX w F g d s)(a:Bl w w'):PX w' F g d s:=h.Ag a.size fun b c=>a.block b (h.1 b c)
def PX.bad(h:PX w F g d s):PX w (Gr w w F) g d s:=by
 obtain⟨f,hd,D,i,e,c⟩:=h;exact⟨fun b a=>by rcases a with a|⟨_,a⟩;exact f b a;exact a,hd,D,i,fun b a=>.inl (e b a),fun b a=>.inl (c b a)⟩
def PX.Iw(h:PX w F g d s)(a:Bl w w'):PX w' (Gr w w' F) g d s:=by
 obtain⟨f,hd,D,i,e,c⟩:=h.below a;exact⟨fun b a=>by rcases a with a|⟨_,a⟩;exact f b a;exact a,hd,D,i,fun b a=>.inl (e b a),fun b a=>.inl (c b a)⟩
def Mo(w:eO)(D:Nat→Prop)(b:Nat):Prop:=D b∨w.heap.size≤b
def PA.mo(h:PA w D g d hd s):PA w (Mo w D) g d hd s:=h.more
def PX.F6(j:∀ b,F b→b<w.heap.size)(i:∀ b,D b→F b)(c:∀ b∈AL g hd,F b)(h:PA w' (Mo w D) g d hd s')(e:Upd (Mut g hd) w w'):PX w' (Gr w w' F) g d s'∧Fr F w w':=by
 refine⟨⟨fun b a=>?_,hd,_,h.cut,fun b a=>?_,fun b a=>.inl (c b a)⟩,Fr.F6 e fun b a=>c b (GQ b a)⟩
 ·rcases a with a|⟨_,a⟩
  ·exact fa (j b a) e.size
  ·exact a
 ·rcases a with ⟨a|a,f⟩
  ·exact .inl (i b a)
  ·exact .inr ⟨a,f⟩
def PX.MK{i e:Int}{f:List Int}(m:∀ b,F b→b<w.heap.size)(k:∀ b,D b→F b)(j:∀ b∈AL g hd,F b)(h:∃ c,PA w' D g d c (Ez d i e f)∧∀ b∈AL g c,b∈Hf g hd∨(w.heap.size≤b∧b<w'.heap.size))(o:w.heap.size≤w'.heap.size):PX w' (Gr w w' F) g d (Ez d i e f):=by
 obtain⟨c,n,l⟩:=h;refine⟨fun b a=>?_,c,D,n,fun b a=>.inl (k b a),fun b a=>?_⟩
 ·rcases a with a|⟨_,a⟩
  ·exact fa (m b a) o
  ·exact a
 ·rcases l b a with h|h
  ·refine .inl (j b ?_);simp only[Hf,eQ,eN,or_false] at h;simp only[AL,eQ,eN,or_false];rcases h with h|h|h|h|h|h<;>simp[h]
  ·exact .inr h
end
def Ni(b:Nat):∀ (vs:List eZ) (o:Nat) (w:eO),w.setCells b o vs=EK w b o vs
 | [],_,_=>rfl
 |v::vs,o,w=>Ni b vs (o+1) (w.setCell ⟨b,o,O⟩ v)
def GA(w:eO)(F:Nat→Prop)(g:Nat)(d:Ad)(r:Ae×Int)(e:fK)(w':eO):Prop:=e=.returned (I J r.2)∧PX w' (Gr w w' F) g d r.1∧Fr F w w'
def SF(B:Nat)(w:eO)(F:Nat→Prop)(g:Nat)(d:Ad)(s:Ae)(p:Int)(f:Gl B w)(n:∀ b,F b→B≤b)(h:PX w F g d s)(ok:Ah d s)(k:Int)(r:k<1∨6<k):
  e7 prog 16 #[G (Z ⟨g,0,O⟩),I U k,I J p] w (GA w F g d (Br d k p s)):=by
 have j:=HH h;obtain⟨t,q,D,e,m,l⟩:=h;have S:s.procs.length≤6:=by have:=ok.procs;have:=ok.ok.procs;omega
 have L:w.cell? ⟨g,20,O⟩=Z (.bool true):=e.cell 20;have H:w.cell? ⟨g,17,O⟩=Z (I U s.mode):=e.cell 17;have K:w.cell? ⟨g,18,O⟩=Z (I J s.clock):=e.cell 18;have E:w.cell? ⟨g,10,O⟩=Z (Y q.pr.a s.procs.length q.pr.c):=e.cell 10;obtain⟨z,A,v,u,y,x,C⟩:=H7 t e m l f n ok;have R:=e.lt;have V:IntKind.i64.wrap ((s.procs.length:Int)-1)=(s.procs.length:Int)-1:=by rw[fe];omega
 clear t e m l f n ok;have i:Hq (Br d k p s=(s,2)):=by
  show _=_;unfold Br;rw[if_pos (by omega)]
 have P:(k==2)=false:=by
  have:k≠2:=by omega
  simp[this]
 have Q:(k==3)=false:=by
  have:k≠3:=by omega
  simp[this]
 by_cases M:k<1
 ·clear r;go_enter func16,ntmps16;go_wp2;go_ret;rw[i.o];exact⟨rfl,j.o.bad,Fr.below (eR _ _)⟩
 ·have N:6<k:=by omega
  clear r;go_enter func16,ntmps16;go_wp2;go_ret;rw[i.o];exact⟨rfl,j.o.bad,Fr.below (eR _ _)⟩
def S9(B:Nat)(w:eO)(F:Nat→Prop)(g:Nat)(d:Ad)(s:Ae)(p:Int)(f:Gl B w)(k:∀ b,F b→B≤b)(h:PX w F g d s)(ok:Ah d s):
  e7 prog 16 #[G (Z ⟨g,0,O⟩),I U 1,I J p] w (GA w F g d (Br d 1 p s)):=by
 have q:=HH h;obtain⟨m,l,D,e,j,i⟩:=h;have L:s.procs.length≤6:=by have:=ok.procs;have:=ok.ok.procs;omega
 have H:w.cell? ⟨g,20,O⟩=Z (.bool true):=e.cell 20;have C:w.cell? ⟨g,17,O⟩=Z (I U s.mode):=e.cell 17;have E:w.cell? ⟨g,18,O⟩=Z (I J s.clock):=e.cell 18;have A:w.cell? ⟨g,10,O⟩=Z (Y l.pr.a s.procs.length l.pr.c):=e.cell 10;obtain⟨x,y,t,r,v,u,z⟩:=H7 m e j i f k ok;have K:=e.lt;have M:IntKind.i64.wrap ((s.procs.length:Int)-1)=(s.procs.length:Int)-1:=by rw[fe];omega
 clear m e j i f k ok;have n:Hq (Br d 1 p s=(s,0)):=by
  show _=_;unfold Br;simp
 go_enter func16,ntmps16;go_wp2;go_ret;rw[n.o];exact⟨rfl,q.o.bad,Fr.below (eR _ _)⟩
def SC(B:Nat)(w:eO)(F:Nat→Prop)(g:Nat)(d:Ad)(s:Ae)(p:Int)(n:Gl B w)(v:∀ b,F b→B≤b)(h:PX w F g d s)(ok:Ah d s):
  e7 prog 16 #[G (Z ⟨g,0,O⟩),I U 4,I J p] w (GA w F g d (Br d 4 p s)):=by
 have L:=HH h;obtain⟨x,l,D,f,u,t⟩:=h;have S:s.procs.length≤6:=by have:=ok.procs;have:=ok.ok.procs;omega
 have Q:w.cell? ⟨g,20,O⟩=Z (.bool true):=f.cell 20;have N:w.cell? ⟨g,17,O⟩=Z (I U s.mode):=f.cell 17;have P:w.cell? ⟨g,18,O⟩=Z (I J s.clock):=f.cell 18;have M:w.cell? ⟨g,10,O⟩=Z (Y l.pr.a s.procs.length l.pr.c):=f.cell 10;obtain⟨r,H,q,k,E,C,K⟩:=H7 x f u t n v ok;have R:=f.lt;have V:IntKind.i64.wrap ((s.procs.length:Int)-1)=(s.procs.length:Int)-1:=by rw[fe];omega
 clear x f u t n v ok;obtain⟨t0,t1,t2,t3,t4,t5,t6,y⟩:=H.o.pb;have z:=HH (K9 B w D g d l t0 t1 t2 t3 t4 t5 t6 s.mode s.clock s.mem 2 E.o (C.o g (k.o g (by simp[AL]))) y K.o.ok (fun b i=>r.o b (q.o b i)));clear y;have A:Hq (Br d 4 p s=(Ez d 2 s.clock s.mem,0)):=by
  show _=_;unfold Br;simp;rfl
 go_enter func16,ntmps16;go_wp2_with (first|(go_at_call 25;refine z.o.mono ?_;rintro e W ⟨rfl,m,j⟩;replace m:=HH m;replace j:=HH j)|go_in);go_ret;rw[A.o];exact⟨rfl,PX.MK r.o q.o k.o m.o j.o.size,Fr.F6 j.o (by intro b i;simp only[fd] at i;subst i;exact k.o b (by simp[AL]))⟩
def SE(B:Nat)(w:eO)(F:Nat→Prop)(g:Nat)(d:Ad)(s:Ae)(p:Int)(n:Gl B w)(v:∀ b,F b→B≤b)(h:PX w F g d s)(ok:Ah d s):
  e7 prog 16 #[G (Z ⟨g,0,O⟩),I U 6,I J p] w (GA w F g d (Br d 6 p s)):=by
 have L:=HH h;obtain⟨x,l,D,f,u,t⟩:=h;have S:s.procs.length≤6:=by have:=ok.procs;have:=ok.ok.procs;omega
 have Q:w.cell? ⟨g,20,O⟩=Z (.bool true):=f.cell 20;have N:w.cell? ⟨g,17,O⟩=Z (I U s.mode):=f.cell 17;have P:w.cell? ⟨g,18,O⟩=Z (I J s.clock):=f.cell 18;have M:w.cell? ⟨g,10,O⟩=Z (Y l.pr.a s.procs.length l.pr.c):=f.cell 10;obtain⟨r,H,q,k,E,C,K⟩:=H7 x f u t n v ok;have R:=f.lt;have V:IntKind.i64.wrap ((s.procs.length:Int)-1)=(s.procs.length:Int)-1:=by rw[fe];omega
 clear x f u t n v ok;obtain⟨t0,t1,t2,t3,t4,t5,t6,y⟩:=H.o.pb;have z:=HH (K9 B w D g d l t0 t1 t2 t3 t4 t5 t6 s.mode s.clock s.mem 4 E.o (C.o g (k.o g (by simp[AL]))) y K.o.ok (fun b i=>r.o b (q.o b i)));clear y;have A:Hq (Br d 6 p s=(Ez d 4 s.clock s.mem,0)):=by
  show _=_;unfold Br;simp;rfl
 go_enter func16,ntmps16;go_wp2_with (first|(go_at_call 25;refine z.o.mono ?_;rintro e W ⟨rfl,m,j⟩;replace m:=HH m;replace j:=HH j)|go_in);go_ret;rw[A.o];exact⟨rfl,PX.MK r.o q.o k.o m.o j.o.size,Fr.F6 j.o (by intro b i;simp only[fd] at i;subst i;exact k.o b (by simp[AL]))⟩
def ZR(w:eO):(zeroValue 5).run prog w=.ok (I U 0) w:=by kernel_rfl
def Sb(w:eO)(D:Nat→Prop)(g:Nat)(d:Ad)(f:Hd)(s:Ae)(h:PA w D g d f s):∃ o,(∀ n,(fO #[34] n #[Y f.me.a s.mem.length f.me.c]).run prog w=.ok (.tuple #[]) o)∧PA o D g d f {s with mem:=e9 s.mem.length 0}∧Upd (Mut g f) w o:=by
 rcases Nat.eq_zero_or_pos s.mem.length with i|i
 ·have e:s.mem=[]:=fD i;refine⟨w,fun n=>?_,by
   have v:e9 s.mem.length (0:Int)=s.mem:=by rw[i,e];rfl
   rw[v];exact h,Upd.refl _ _⟩
  rw[i];cases f.me.a<;>simp[fO,run_underlying underlying34]
 ·have z:=h.me.ptr i;obtain⟨r,A,E⟩:=h.me.blk i;have B:∀ j,j<s.mem.length→w.cell? ⟨f.me.b,0+j,O⟩=Z (I U s.mem[j]!):=fun j l=>by
   have:=h.me.el j l 0 _ rfl;simp only[Nat.mul_one,Nat.add_zero] at this;rw[Nat.zero_add,this];simp[l]
  refine⟨w.setCells f.me.b 0 (e9 s.mem.length (I U 0)),fun n=>?_,?_,?_⟩
  ·rw[z];exact Lib.run_clear_slice w 34 5 n (I U 0) underlying34 ZR rfl rfl f.me.b 0 s.mem.length f.me.c i (fun j l=>by rw[B j l];rfl) fun j l=>h.me.frozen i _
  ·rw[Ni];obtain⟨t,p,x,F,y⟩:=Nt (e9 s.mem.length (I U 0)) w 0 r A;refine h.Qo (h.P9 i (KeepD.Jy h.me.nd _ _) fun b _ C=>L2 C _ _ _) (by simp) ⟨by simpa using h.me.cap,h.me.nil,by simpa using h.me.ptr,h.me.nd,by rw[L3];exact h.me.lt,fun _=>⟨t,p,by rw[x];simpa using E⟩,fun k q=>?_⟩;rw[fw] at q;intro j u m
   match j,m with
   |0,m=>
    simp only[fJ,List.getElem?_cons_zero,fh] at m;subst m;rw[Cr p];have:=y k (I U 0) (by simp[q]) (by omega);simpa using this
  ·rw[Ni];exact Upd.Jy (by simp[Mut]) _ _
def SD(B:Nat)(w:eO)(F:Nat→Prop)(g:Nat)(d:Ad)(s:Ae)(p:Int)(v:Gl B w)(H:∀ b,F b→B≤b)(h:PX w F g d s)(ok:Ah d s):
  e7 prog 16 #[G (Z ⟨g,0,O⟩),I U 5,I J p] w (GA w F g d (Br d 5 p s)):=by
 have HX:=HH h;obtain⟨L,j,D,k,E,C⟩:=h;have aq:s.procs.length≤6:=by have:=ok.procs;have:=ok.ok.procs;omega
 have am:w.cell? ⟨g,20,O⟩=Z (.bool true):=k.cell 20;have aj:w.cell? ⟨g,17,O⟩=Z (I U s.mode):=k.cell 17;have ak:w.cell? ⟨g,18,O⟩=Z (I J s.clock):=k.cell 18;have ai:w.cell? ⟨g,10,O⟩=Z (Y j.pr.a s.procs.length j.pr.c):=k.cell 10;obtain⟨r,z,x,m,S,y,V⟩:=H7 L k E C v H ok;have ap:=k.lt;have ar:IntKind.i64.wrap ((s.procs.length:Int)-1)=(s.procs.length:Int)-1:=by rw[fe];omega
 clear L k E C v H ok;obtain⟨n,ao,N,q⟩:=Sb w D g d j s z.o;obtain⟨t0,t1,t2,t3,t4,t5,t6,P⟩:=N.pb;obtain⟨Q,A⟩:=H2 (K9 B n D g d j t0 t1 t2 t3 t4 t5 t6 s.mode s.clock (e9 s.mem.length 0) 1 (S.o.BG q fun b f=>y.o b (m.o b (GQ b f))) (y.o g (m.o g (by simp[AL]))) P V.o.ok (fun b f=>fa (r.o b (x.o b f)) q.size)) q;have al:w.cell? ⟨g,19,O⟩=Z (Y j.me.a s.mem.length j.me.c):=z.o.cell 19;clear P N q;have R:Hq (Br d 5 p s=(Ez d 1 s.clock (e9 s.mem.length 0),0)):=by
  show _=_;unfold Br;simp;rfl
 go_enter func16,ntmps16;go_wp2_with (first|(go_at_call 25;refine Q.o.mono ?_;rintro e l ⟨rfl,u,i⟩;replace u:=HH u;replace i:=HH i)|go_in);go_ret;rw[R.o];have t:=A.o.size;have f:PX l (Gr n l (fun b=>F b)) g d (Ez d 1 s.clock (e9 s.mem.length 0)):=PX.MK (fun b f=>fa (r.o b f) t) x.o m.o u.o i.o.size;refine⟨rfl,?_,?_⟩
 ·obtain⟨h1,ad,D',W,X,h4⟩:=f;have K:∀ b,Gr n l (fun b=>F b) b→Gr w l F b:=fun b f=>by
   rcases f with f|⟨ab,ac⟩
   ·exact .inl f
   ·exact .inr ⟨e8 t ab,ac⟩
  have af:=i.o.size;exact⟨fun b f=>by rcases f with f|⟨_,f⟩;exact fa (r.o b f) (e8 t af);exact f,ad,D',W,fun b f=>K b (X b f),fun b f=>K b (h4 b f)⟩
 ·have ag:Upd (Mut g j) n l:=⟨i.o.os,i.o.tape,i.o.output,i.o.size,fun b f hn=>i.o.block b f fun M=>hn (by simp only[fd] at M;subst M;simp[Mut])⟩;exact Fr.F6 (A.o.trans ag) fun b f=>m.o b (GQ b f)
def SB(B:Nat)(w:eO)(F:Nat→Prop)(g:Nat)(d:Ad)(s:Ae)(p:Int)(t:Gl B w)(y:∀ b,F b→B≤b)(h:PX w F g d s)(ok:Ah d s):
  e7 prog 16 #[G (Z ⟨g,0,O⟩),I U 3,I J p] w (GA w F g d (Br d 3 p s)):=by
 have l:=HH h;obtain⟨A,m,D,j,x,v⟩:=h;have ae:s.procs.length≤6:=by have:=ok.procs;have:=ok.ok.procs;omega
 have aa:w.cell? ⟨g,20,O⟩=Z (.bool true):=j.cell 20;have W:w.cell? ⟨g,17,O⟩=Z (I U s.mode):=j.cell 17;have X:w.cell? ⟨g,18,O⟩=Z (I J s.clock):=j.cell 18;have V:w.cell? ⟨g,10,O⟩=Z (Y m.pr.a s.procs.length m.pr.c):=j.cell 10;obtain⟨K,L,H,C,S,R,u⟩:=H7 A j x v t y ok;have ac:=j.lt;have af:IntKind.i64.wrap ((s.procs.length:Int)-1)=(s.procs.length:Int)-1:=by rw[fe];omega
 clear A j x v t y ok;by_cases M:0≤p
 ·by_cases h1:p≤(s.procs.length:Int)-1
  ·by_cases k:s.mode=3
   ·have N:(s.mode==3)=true:=by simp[k]
    obtain⟨i,rfl⟩:=fn M;have P:i<s.procs.length:=by omega
    have ad:(i:Int)<(s.procs.length:Int):=by omega
    have f:Hq (Br d 3 i s=(FD d i s.clock s,0)):=by
     show _=_;unfold Br;rw[if_neg (by simp;omega),if_neg (by simp[k])];simp
    have z:=u.o.clock;have E:=HH (Nr w (Mo w D) g d m s i s.clock L.o.mo u.o (fun q Q=>.inr Q) z.1 (by omega) P);clear k z;go_enter func16,ntmps16;go_wp2_with (first|(go_at_call 42;refine E.o.mono ?_;rintro e w1 ⟨rfl,r,n⟩;replace r:=HH r;replace n:=HH n)|go_in);go_ret;rw[f.o];exact⟨rfl,PX.F6 K.o H.o C.o r.o n.o⟩
   ·have N:(s.mode==3)=false:=by simp[k]
    have f:Hq (Br d 3 p s=(s,0)):=by
     show _=_;unfold Br;rw[if_neg (by simp;omega),if_pos (by simp[k])]
    clear k;go_enter func16,ntmps16;go_wp2;go_ret;rw[f.o];exact⟨rfl,l.o.bad,Fr.below (eR _ _)⟩
  ·have f:Hq (Br d 3 p s=(s,2)):=by
    show _=_;unfold Br;rw[if_pos (by simp;omega)]
   go_enter func16,ntmps16;go_wp2;go_ret;rw[f.o];exact⟨rfl,l.o.bad,Fr.below (eR _ _)⟩
 ·have f:Hq (Br d 3 p s=(s,2)):=by
   show _=_;unfold Br;rw[if_pos (by simp;omega)]
  go_enter func16,ntmps16;go_wp2;go_ret;rw[f.o];exact⟨rfl,l.o.bad,Fr.below (eR _ _)⟩
def SA(B:Nat)(w:eO)(F:Nat→Prop)(g:Nat)(d:Ad)(s:Ae)(p:Int)(M:Gl B w)(V:∀ b,F b→B≤b)(h:PX w F g d s)(ok:Ah d s):
  e7 prog 16 #[G (Z ⟨g,0,O⟩),I U 2,I J p] w (GA w F g d (Br d 2 p s)):=by
 have E:=HH h;obtain⟨X,f,D,u,S,R⟩:=h;have a2:s.procs.length≤6:=by have:=ok.procs;have:=ok.ok.procs;omega
 have aA:w.cell? ⟨g,20,O⟩=Z (.bool true):=u.cell 20;have ay:w.cell? ⟨g,17,O⟩=Z (I U s.mode):=u.cell 17;have az:w.cell? ⟨g,18,O⟩=Z (I J s.clock):=u.cell 18;have ax:w.cell? ⟨g,10,O⟩=Z (Y f.pr.a s.procs.length f.pr.c):=u.cell 10;obtain⟨HL,HP,an,N,HG,ao,OK⟩:=H7 X u S R M V ok;have aZ:=u.lt;have a3:IntKind.i64.wrap ((s.procs.length:Int)-1)=(s.procs.length:Int)-1:=by rw[fe];omega
 clear X u S R M V ok;by_cases h0:0≤p
 ·by_cases h1:p≤(s.procs.length:Int)-1
  ·by_cases v:s.mode=3
   ·have aD:(s.mode==3)=true:=by simp[v]
    obtain⟨i,rfl⟩:=fn h0;have W:i<s.procs.length:=by omega
    have a0:(i:Int)<(s.procs.length:Int):=by omega
    have t:Hq (Br d 2 i s=(stopA i (CX i s),0)):=by
     show _=_;unfold Br;rw[if_neg (by simp;omega),if_neg (by simp[v])];simp
    have P:=HH (Ph w (Mo w D) g d f s i HP.o.mo OK.o (fun q hq=>.inr hq));clear v;go_enter func16,ntmps16;go_upto_region 11 with (first|(go_at_call 41;refine P.o.mono ?_;rintro e j ⟨rfl,y,C⟩;replace y:=HH y;replace C:=HH C)|go_in);have k:Gl B j:=HG.o.BG C.o fun b hb=>ao.o b (N.o b (GQ b hb));have aX:=k.hb;have aY:=k.hw;have r:0<j.heap.size:=by omega
    have aF:g<j.heap.size:=y.o.lt;have aa:j.cell? ⟨g,10,O⟩=Z (Y (Z ⟨f.pr.b,0,O⟩) s.procs.length f.pr.c):=y.o.FC (by show 0<s.procs.length;omega);have cap:s.procs.length≤f.pr.c:=y.o.pr.cap;have aJ:=qC (show j.cell? ⟨0,0,O⟩=_ from by have:=k.BC 0 _ rfl;simpa using this) r;have aK:=qC (show j.cell? ⟨0,1,O⟩=_ from by have:=k.BC 1 _ rfl;simpa using this) r;have aN:=qC (show j.cell? ⟨0,2,O⟩=_ from by have:=k.BC 2 _ rfl;simpa using this) r;have aO:=qC (show j.cell? ⟨0,3,O⟩=_ from by have:=k.BC 3 _ rfl;simpa using this) r;have aP:=qC (show j.cell? ⟨0,4,O⟩=_ from by have:=k.BC 4 _ rfl;simpa using this) r;have aQ:=qC (show j.cell? ⟨0,5,O⟩=_ from by have:=k.BC 5 _ rfl;simpa using this) r;have aR:=qC (show j.cell? ⟨0,6,O⟩=_ from by have:=k.BC 6 _ rfl;simpa using this) r;have aS:=qC (show j.cell? ⟨0,7,O⟩=_ from by have:=k.BC 7 _ rfl;simpa using this) r;have aT:=qC (show j.cell? ⟨0,8,O⟩=_ from by have:=k.BC 8 _ rfl;simpa using this) r;have aU:=qC (show j.cell? ⟨0,9,O⟩=_ from by have:=k.BC 9 _ rfl;simpa using this) r;have aL:=qC (show j.cell? ⟨0,10,O⟩=_ from by have:=k.BC 10 _ rfl;simpa using this) r;have aM:=qC (show j.cell? ⟨0,11,O⟩=_ from by have:=k.BC 11 _ rfl;simpa using this) r;have qg:=qC aa aF;clear k aa aA ay az ax P;refine AS 9 [8] [] [] trivial ?_
    iterate 8 (refine An rfl rfl rfl ?_;intro K hK;go_big_quiet_op;go_big_quiet_on)
    refine AH rfl ?_;refine AR ?_;intro l L aI;clear aI qg aJ aK aN aO aP aQ aR aS aT aU aL aM;have z:=y.o.below L;have n:∀ o,l.frozen? ⟨f.pr.b,o,O⟩=false:=z.pr.frozen (by show 0<s.procs.length;omega);obtain⟨r0,r1,r2,r3,aH,m⟩:=z.pr.el i W;have z0:l.cell? ⟨f.pr.b,i*12,O⟩=Z _:=m 0 _ rfl;have f0:=n (i*12);have z1:l.cell? ⟨f.pr.b,i*12+1,O⟩=Z _:=m 1 _ rfl;have f1:=n (i*12+1);have z2:l.cell? ⟨f.pr.b,i*12+2,O⟩=Z _:=m 2 _ rfl;have f2:=n (i*12+2);have z3:l.cell? ⟨f.pr.b,i*12+3,O⟩=Z _:=m 3 _ rfl;have f3:=n (i*12+3);have z4:l.cell? ⟨f.pr.b,i*12+4,O⟩=Z _:=m 4 _ rfl;have f4:=n (i*12+4);have z5:l.cell? ⟨f.pr.b,i*12+5,O⟩=Z _:=m 5 _ rfl;have f5:=n (i*12+5);have z6:l.cell? ⟨f.pr.b,i*12+6,O⟩=Z _:=m 6 _ rfl;have f6:=n (i*12+6);have z7:l.cell? ⟨f.pr.b,i*12+7,O⟩=Z _:=m 7 _ rfl;have f7:=n (i*12+7);have z8:l.cell? ⟨f.pr.b,i*12+8,O⟩=Z _:=m 8 _ rfl;have f8:=n (i*12+8);have z9:l.cell? ⟨f.pr.b,i*12+9,O⟩=Z _:=m 9 _ rfl;have f9:=n (i*12+9);have ad:l.cell? ⟨f.pr.b,i*12+10,O⟩=Z _:=m 10 _ rfl;have f10:=n (i*12+10);have ae:l.cell? ⟨f.pr.b,i*12+11,O⟩=Z _:=m 11 _ rfl;have f11:=n (i*12+11);have A:=z.FY W [(0,I U 1),(1,I J 0),(2,I J 0),(3,I U 0),(4,I U 0),(5,I U 0),(6,I U 0),(7,I J 0),(8,I J (-1)),(9,I J (-1)),(10,I U 0),(11,I J 0)] rfl m (x:=EU) fun w' aE a1=>⟨0,0,0,0,rfl,aE⟩;obtain⟨W3,H⟩:=ex ((((((((((((l.setCell ⟨f.pr.b,i*12,O⟩ (I U 1)).setCell ⟨f.pr.b,i*12+1,O⟩ (I J 0)).setCell ⟨f.pr.b,i*12+2,O⟩ (I J 0)).setCell ⟨f.pr.b,i*12+3,O⟩ (I U 0)).setCell ⟨f.pr.b,i*12+4,O⟩ (I U 0)).setCell ⟨f.pr.b,i*12+5,O⟩ (I U 0)).setCell ⟨f.pr.b,i*12+6,O⟩ (I U 0)).setCell ⟨f.pr.b,i*12+7,O⟩ (I J 0)).setCell ⟨f.pr.b,i*12+8,O⟩ (I J (-1))).setCell ⟨f.pr.b,i*12+9,O⟩ (I J (-1))).setCell ⟨f.pr.b,i*12+10,O⟩ (I U 0)).setCell ⟨f.pr.b,i*12+11,O⟩ (I J 0));refine AI (w':=W3) (by rw[H];simp[fl,go_sem,z0,f0,z1,f1,z2,f2,z3,f3,z4,f4,z5,f5,z6,f6,z7,f7,z8,f8,z9,f9,ad,f10,ae,f11]) ?_;unfold A7;have Q:W3=setsAt l f.pr.b (i*12) [(0,I U 1),(1,I J 0),(2,I J 0),(3,I U 0),(4,I U 0),(5,I U 0),(6,I U 0),(7,I J 0),(8,I J (-1)),(9,I J (-1)),(10,I U 0),(11,I J 0)]:=H;rw[←Q] at A;have au:Hq (PA W3 (Mo w D) g d f (stopA i (CX i s))):=A.1;have av:Hq (Upd (Mut g f) w W3):=(C.o.trans (Upd.below L)).trans A.2;clear H Q A m aH n z L z0 f0 z1 f1 z2 f2 z3 f3 z4 f4 z5 f5 z6 f6 z7 f7 z8 f8 z9 f9 ad f10 ae f11;go_wp2_with fail;go_ret;rw[t.o];exact⟨rfl,PX.F6 HL.o an.o N.o au.o av.o⟩
   ·have aD:(s.mode==3)=false:=by simp[v]
    have t:Hq (Br d 2 p s=(s,0)):=by
     show _=_;unfold Br;rw[if_neg (by simp;omega),if_pos (by simp[v])]
    clear v;go_enter func16,ntmps16;go_wp2;go_ret;rw[t.o];exact⟨rfl,E.o.bad,Fr.below (eR _ _)⟩
  ·have t:Hq (Br d 2 p s=(s,2)):=by
    show _=_;unfold Br;rw[if_pos (by simp;omega)]
   go_enter func16,ntmps16;go_wp2;go_ret;rw[t.o];exact⟨rfl,E.o.bad,Fr.below (eR _ _)⟩
 ·have t:Hq (Br d 2 p s=(s,2)):=by
   show _=_;unfold Br;rw[if_pos (by simp;omega)]
  go_enter func16,ntmps16;go_wp2;go_ret;rw[t.o];exact⟨rfl,E.o.bad,Fr.below (eR _ _)⟩
def SG(B:Nat)(w:eO)(F:Nat→Prop)(g:Nat)(d:Ad)(s:Ae)(k p:Int)(a:Gl B w)(c:∀ b,F b→B≤b)(h:PX w F g d s)(ok:Ah d s):
  e7 prog 16 #[G (Z ⟨g,0,O⟩),I U k,I J p] w (GA w F g d (Br d k p s)):=by
 rcases(show(k<1∨6<k)∨k=1∨k=2∨k=3∨k=4∨k=5∨k=6 by omega) with e|rfl|rfl|rfl|rfl|rfl|rfl
 ·exact SF B w F g d s p a c h ok k e
 ·exact S9 B w F g d s p a c h ok
 ·exact SA B w F g d s p a c h ok
 ·exact SB B w F g d s p a c h ok
 ·exact SC B w F g d s p a c h ok
 ·exact SD B w F g d s p a c h ok
 ·exact SE B w F g d s p a c h ok
def Rq(w:eO)(F:Nat→Prop)(g:Nat)(d:Ad)(r:Ae×Im)(e:fK)(w':eO):Prop:=
 ∃ c f,e=.returned (.tuple #[.agg #[I J r.2.ran,I U r.2.act.kind,I J r.2.act.a,I J r.2.act.b,c,f],I J r.2.e])∧Af U w' w.heap.size c r.2.act.data∧BJ w' w.heap.size f r.2.faults∧PX w' (Gr w w' F) g d r.1∧Fr F w w'
def Ze(B:Nat)(w:eO)(F:Nat→Prop)(g:Nat)(d:Ad)(s:Ae)(now:Int)(c:Gl B w)(n:∀ b,F b→B≤b)(h:PX w F g d s)(ok:Ah d s)(r:K0 d)(p:∀ x∈s.boards,0≤x.val∧x.val≤255)(A:∀ i,i<s.procs.length→Ed (d.procs.getD i default).code.length (s.procs.getD i default).s):
  e7 prog 17 #[G (Z ⟨g,0,O⟩),I J now] w (Rq w F g d (A3 d now s)):=by
 obtain⟨v,t,D,y,m,a⟩:=h;refine(Zb B w (Mo w D) g d t s now c (fun b o=>n b (a b (GQ b o))) y.mo ok r p A (fun q z=>.inr z)).mono ?_;rintro e w' ⟨C,E,u,f,j,k,l⟩;have:=PX.F6 v m a k l;exact⟨C,E,u,f,j,this.1,this.2⟩
def Rh(w:eO)(r:Option CV)(e:fK)(w':eO):Prop:=
 (match r with
 |none=>e=.returned (.tuple #[.agg #[.string ⟨#[]⟩,I U 0,.bool false,I J 0,I J 0,I J 0],.bool false])
 |some p=>∃ nm,e=.returned (.tuple #[.agg #[.string nm,I U p.kind,.bool p.o,I J p.size,I J p.depth,I J p.At],.bool true]))∧Bl w w'
def PR(w:eO)(D:Nat→Prop)(g:Nat)(d:Ad)(f:Hd)(s:Ae)(i:Int)(j:Bool)(h:PA w D g d f s):
  e7 prog 47 #[G (Z ⟨g,0,O⟩),I J i,.bool j] w (Rh w (Ek d i j)):=by
 have t:∀ e,(w.alloc e).cell? ⟨g,8,O⟩=Z (Y f.AB.a d.Ab.length f.AB.c):=fun e=>by
  rw[e5 _ _ _ (fi h.lt)];exact h.cell 8
 have y:=h.lt;have H:=HH h;by_cases p:i<0
 ·have m:Hq (Ek d i j=O):=by
   show _=_;unfold Ek;rw[if_pos p]
  clear h;go_enter func47,ntmps47;go_wp2_with fail;refine eP (v:=.tuple #[.agg #[.string ⟨#[]⟩,I U 0,.bool false,I J 0,I J 0,I J 0],.bool false]) (by simp[fb,results47,go_sem]) rfl ?_;rw[m.o];exact⟨rfl,(eR _ w).alloc (eU _) _⟩
 ·obtain⟨k,rfl⟩:=fn (show 0≤i by omega);by_cases q:k<d.Ab.length
  ·have x:(k:Int)<(d.Ab.length:Int):=by omega
   obtain⟨nm,l⟩:=h.AB.el k q;have r:=h.AB.ptr (by omega);have cap:=h.AB.cap;rw[r] at t;have z:∀ e,(w.alloc e).cell? ⟨f.AB.b,k*6,O⟩=Z (.string nm):=fun e=>by
    rw[e5 _ _ _ (fi h.AB.lt)];exact l 0 _ rfl
   have A:∀ e,(w.alloc e).cell? ⟨f.AB.b,k*6+1,O⟩=Z (I U d.Ab[k].kind):=fun e=>by
    rw[e5 _ _ _ (fi h.AB.lt)];exact l 1 _ rfl
   have B:∀ e,(w.alloc e).cell? ⟨f.AB.b,k*6+2,O⟩=Z (.bool d.Ab[k].o):=fun e=>by
    rw[e5 _ _ _ (fi h.AB.lt)];exact l 2 _ rfl
   have C:∀ e,(w.alloc e).cell? ⟨f.AB.b,k*6+3,O⟩=Z (I J d.Ab[k].size):=fun e=>by
    rw[e5 _ _ _ (fi h.AB.lt)];exact l 3 _ rfl
   have E:∀ e,(w.alloc e).cell? ⟨f.AB.b,k*6+4,O⟩=Z (I J d.Ab[k].depth):=fun e=>by
    rw[e5 _ _ _ (fi h.AB.lt)];exact l 4 _ rfl
   have F:∀ e,(w.alloc e).cell? ⟨f.AB.b,k*6+5,O⟩=Z (I J d.Ab[k].At):=fun e=>by
    rw[e5 _ _ _ (fi h.AB.lt)];exact l 5 _ rfl
   by_cases n:d.Ab[k].o=j
   ·have m:Hq (Ek d k j=Z d.Ab[k]):=by
     show _=_;unfold Ek;rw[if_neg (by omega),e6,fI q];simp[n]
    have u:(d.Ab[k].o==j)=true:=by simp[n]
    clear h l r n p;go_enter func47,ntmps47;go_wp2_with fail;refine eP (v:=.tuple #[.agg #[.string nm,I U d.Ab[k].kind,.bool d.Ab[k].o,I J d.Ab[k].size,I J d.Ab[k].depth,I J d.Ab[k].At],.bool true]) (by simp[fb,results47,go_sem]) rfl ?_;rw[m.o];exact⟨⟨nm,rfl⟩,(eR _ w).alloc (eU _) _⟩
   ·have m:Hq (Ek d k j=O):=by
     show _=_;unfold Ek;rw[if_neg (by omega),e6,fI q];simp[n]
    have u:(d.Ab[k].o==j)=false:=by simp[n]
    clear h l r n p;go_enter func47,ntmps47;go_wp2_with fail;refine eP (v:=.tuple #[.agg #[.string ⟨#[]⟩,I U 0,.bool false,I J 0,I J 0,I J 0],.bool false]) (by simp[fb,results47,go_sem]) rfl ?_;rw[m.o];exact⟨rfl,(eR _ w).alloc (eU _) _⟩
  ·have m:Hq (Ek d k j=O):=by
    show _=_;unfold Ek;rw[if_neg (by omega),e6,List.getElem?_eq_none (by omega)]
   have x:¬((k:Int)<(d.Ab.length:Int)):=by omega
   clear h p;go_enter func47,ntmps47;go_wp2_with fail;refine eP (v:=.tuple #[.agg #[.string ⟨#[]⟩,I U 0,.bool false,I J 0,I J 0,I J 0],.bool false]) (by simp[fb,results47,go_sem]) rfl ?_;rw[m.o];exact⟨rfl,(eR _ w).alloc (eU _) _⟩
end Go.Proofs.YtiepijihpgijbaaGreatDoor
