import Derived.Laws.MakeOwn
import Derived.LoopTactic
import Derived.IntWalk
import Derived.Outline
import Derived.Test.YtiepijihpgijbaaGreatDoorQ4
set_option maxHeartbeats 2000000
set_option maxRecDepth 100000
set_option linter.all false
open Go.IntKind renaming u8→U,i64→J
open Go.Obj renaming cells→T
open Go.Value renaming int→I,slice→Y,pointer→G
open Option renaming some→Z,none→O
open Array renaming getElem?_eq_some_iff→a4,replicate→bz,getElem?_setIfInBounds→bQ,toList_push→ck,getD→cy
open Go renaming World→bm,Value→bA,getD_replicate_false→bT,mem_ready→bY,Oper→b0,Calls→b2,madeCells→b3,undef→b7,Program→b8,MapEntry→b9,execOp→cb,IntKind→cd,HeadInv→ce,getD_both→ci,getD_in→cl,cell_of_row→cr,TypeId→cu
open Nat renaming le_refl→br,le_of_lt→bI,lt_of_lt_of_le→b1,zero_add→cw,lt_or_ge→cx
open Go.Instr renaming findNow→bt,sameNow→bV,mapUpdate→cq
open Option.some renaming inj→bu
open Go.RowKit.Below renaming refl→bw
open List renaming setIfInBounds_toArray→bx,mem_of_getElem?→bC,getElem?_eq_getElem→bF,set_cons_zero→bG,set_cons_succ→bH,drop_zero→bK,getElem?_eq_some_iff→bL,drop_succ_cons→bM,contains_iff_mem→bP,take_succ_cons→bR,getElem_of_mem→bS,drop_eq_getElem_cons→bU,drop_nil→bW,range→bX,mem_map→b4,cons_append→b5,getD_eq_getElem?_getD→ca,filterMap_append→cf,getElem?_of_mem→cg,filter_append→cj,getElem_inj→cn
open And renaming intro→bJ
open Bool renaming false_eq_true→bN
open Go.Region renaming wanted→bO,ready→cc
open Go.Value renaming int→bZ
open Classical renaming byContradiction→b6
open Go.Code renaming region→ch
open Go.Result renaming andThen→cm
open Int renaming toNat_natCast→cp
open Go.World renaming alloc_eq→ct,cell?→cv
namespace Go.Proofs.YtiepijihpgijbaaGreatDoor
open Go.RowKit Tryz
def Gm:EG 280:=fun _ _=>by kernel_rfl
def Tq:EG 283:=fun _ _=>by kernel_rfl
def E8{R:List Int}(h:∀ z∈R,0≤z∧z≤255)(i:Nat):0≤R.getD i 0∧R.getD i 0≤255:=by
 by_cases a:i<R.length
 ·rw[ca,bF a];exact h _ (List.getElem_mem a)
 ·rw[ca,List.getElem?_eq_none (by omega)];decide
def Nc{w w':bm}{g B:Nat}{v:bA}{l:List Int}(h:Af U w B v l)(a:Upd [g] w w')(x:g<B):Af U w' B v l:=by
 obtain⟨c,cap,s,o,p,n,q⟩:=h;refine⟨c,cap,s,o,p,n,fun d=>?_⟩;obtain⟨b,t,f,e,i,m⟩:=q d;have y:=a.size;refine⟨b,t,f,e,by omega,fun j u r=>?_⟩;have k:=a.block b i (by simp;omega);rw[←m j u r];unfold cv;simp only[k]
def Qh(w:bm)(t:cu)(n:Int):Af U (w.alloc (T #[I U n] t)) w.heap.size (Y (Z ⟨w.heap.size,0,O⟩) 1 1) [n]:=
 ⟨_,1,rfl,br _,by simp,by simp,fun _=>⟨w.heap.size,0,rfl,br _,by simp,fun j u a=>by
  rw[cr (w.alloc (T #[I U n] t)) w.heap.size _ _ _ _ (heap_alloc_new w (T #[I U n] t))]
  match j,a with
  |0,a=>simpa using a⟩⟩
def Ao.bel{w w':bm}{g:Nat}{d c:Int}{R:List Int}{x:Ai}{i f:bA}{k a b:Int}(h:Ao w g d c R x i k a b f)(j:Bl w w'):Ao w' g d c R x i k a b f:=by
 obtain⟨_,_,_,_,e,h⟩:=h;exact⟨_,_,_,_,e,(j.block _ (Aa h)).trans h⟩
def PM(w:bm)(g:Nat)(L D:Int)(R:List Int)(x:Ai)(E:Option Addr)(n F:Nat)(vd:bA)(k a b:Int)(h:Ao w g L D R x (Y E n F) k a b vd)(y:0≤x.c)(A:x.c≤3)(Q:∀ z∈R,0≤z∧z≤255)(ae:0≤x.b)(af:x.b≤4095)(S:(n:Int)≤x.b+R.getD x.c.toNat 0):
  b2 prog 281 #[G (Z ⟨g,0,O⟩)] w fun e w'=>e=.returned (.tuple #[I J 0,.bool false])∧Ao w' g L D R x (Y E n F) 15 2 0 (Y O 0 0)∧Upd [g] w w':=by
 have j:=h.CB x.c y A;have C:=E8 Q x.c.toNat
 obtain⟨r,c1,t,d,i,s⟩:=h.cell;have m:=h.lt;have H:=HH h;clear h;generalize R.getD x.c.toNat 0=z at j C S ⊢;obtain⟨ag,ah⟩:=C;have q1:∀ p:Ak w,p.W.cell? ⟨g,2+x.c.toNat,O⟩=Z (I U z):=fun p=>(p.h.cell (p:=⟨g,_,O⟩) m).trans j;have q8:∀ p:Ak w,p.W.cell? ⟨g,8,O⟩=Z (I J x.b):=fun p=>(p.h.cell (p:=⟨g,_,O⟩) m).trans d;have q9:∀ p:Ak w,p.W.cell? ⟨g,9,O⟩=Z (I J x.c):=fun p=>(p.h.cell (p:=⟨g,_,O⟩) m).trans i;go_enter func281,ntmps281;go_upto_region 1 with (fail);refine BQ 17 [(11,fun v _=>v=G (Z ⟨g,2+x.c.toNat,O⟩))] ⟨Ch,trivial⟩ ?_
 iterate 11 (refine AK rfl ?_;intro K hK;go_big_quiet_op;go_big_quiet_on)
 refine Ca rfl (fun w' B hA=>?_) ?_
 ·refine AD (f:=280) (al:=[G (Z ⟨g,0,O⟩),I J x.c]) rfl rfl rfl Gm ?_;exact(D3 w' g x.c y A).mono fun e w2 h=>⟨_,h.1,h.2 ▸ ⟨bw _ _,rfl⟩⟩
 intro v w' B V;obtain rfl:=V;clear B w';simp only[FV,bx,bH,bG]
 iterate 5 (refine AK rfl ?_;intro K hK;go_big_quiet_op;go_big_quiet_on)
 refine BN ?_;intro w9 l X;simp only[bM,bK,bW];clear X r c1 t d i s j q1 q8 q9;have h:=H.o.bel l;obtain⟨r,c1,t,d,i,s⟩:=h.cell;obtain⟨N,P⟩:=H2 (Upd.below (M:=[g]) l) (h.fail 2 0 (by decide) (by decide));clear h l;go_wp2_with fail;refine P.o.mono ?_;rintro e w2 ⟨rfl,u,q⟩;have H2:=HH (bJ u (N.o.trans q));clear u q;go_wp2_with fail
 go_ret2
 exact⟨rfl,H2.o⟩
def PN(w:bm)(g:Nat)(E B:Int)(R:List Int)(x:Ai)(C:Option Addr)(n D:Nat)(F:bA)(k a b:Int)(h:Ao w g E B R x (Y C n D) k a b F)(t:0≤x.c)(u:x.c≤3)(Q:∀ z∈R,0≤z∧z≤255)(ac:0≤x.b)(ad:x.b≤4095)(S:x.b+R.getD x.c.toNat 0<(n:Int)):
  b2 prog 281 #[G (Z ⟨g,0,O⟩)] w fun e w'=>e=.returned (.tuple #[I J (x.b+R.getD x.c.toNat 0),.bool true])∧Ao w' g E B R x (Y C n D) k a b F∧Upd [g] w w'∧Bl w w':=by
 have l:=h.CB x.c t u;have A:=E8 Q x.c.toNat
 obtain⟨q,c1,s,i,j,r⟩:=h.cell;have m:=h.lt;have H:=HH h;clear h;generalize R.getD x.c.toNat 0=z at l A S ⊢;obtain⟨ae,af⟩:=A;have q1:∀ p:Ak w,p.W.cell? ⟨g,2+x.c.toNat,O⟩=Z (I U z):=fun p=>(p.h.cell (p:=⟨g,_,O⟩) m).trans l;have q8:∀ p:Ak w,p.W.cell? ⟨g,8,O⟩=Z (I J x.b):=fun p=>(p.h.cell (p:=⟨g,_,O⟩) m).trans i;have q9:∀ p:Ak w,p.W.cell? ⟨g,9,O⟩=Z (I J x.c):=fun p=>(p.h.cell (p:=⟨g,_,O⟩) m).trans j;go_enter func281,ntmps281;go_upto_region 1 with (fail);refine BQ 17 [(11,fun v _=>v=G (Z ⟨g,2+x.c.toNat,O⟩))] ⟨Ch,trivial⟩ ?_
 iterate 11 (refine AK rfl ?_;intro K hK;go_big_quiet_op;go_big_quiet_on)
 refine Ca rfl (fun w' y hA=>?_) ?_
 ·refine AD (f:=280) (al:=[G (Z ⟨g,0,O⟩),I J x.c]) rfl rfl rfl Gm ?_;exact(D3 w' g x.c t u).mono fun e w2 h=>⟨_,h.1,h.2 ▸ ⟨bw _ _,rfl⟩⟩
 intro v w' y V;obtain rfl:=V;clear y w';simp only[FV,bx,bH,bG]
 iterate 5 (refine AK rfl ?_;intro K hK;go_big_quiet_op;go_big_quiet_on)
 refine BN ?_;intro w9 d X;simp only[bM,bK,bW];clear X q c1 s i j r l q1 q8 q9;have h:=H.o.bel d;obtain⟨q,c1,s,i,j,r⟩:=h.cell;obtain⟨N,P,L⟩:=H3 (Upd.below (M:=[g]) d) d h;clear h d;go_wp2_with fail
 go_ret2
 exact⟨rfl,L.o,N.o,P.o⟩
def TV(w:bm)(g:Nat)(l f:Int)(R:List Int)(x:Ai)(i:Option Addr)(d j:Nat)(q:bA)(k a b:Int)(h:Ao w g l f R x (Y i d j) k a b q)(t:0≤x.c)(u:x.c≤3)(v:∀ z∈R,0≤z∧z≤255)(y:0≤x.b)(A:x.b≤4095)(p:(d:Int)≤x.b+R.getD x.c.toNat 0):
  b2 prog 259 #[G (Z ⟨g,0,O⟩)] w fun e w'=>e=.returned (.tuple #[])∧Ao w' g l f R x (Y i d j) 15 2 0 (Y O 0 0)∧Upd [g] w w':=by
 have s:=HH (PM w g l f R x i d j q k a b h t u v y A p);clear h p;go_enter func259,ntmps259;go_wp2_with fail;refine s.o.mono ?_;rintro e B ⟨rfl,n,m⟩;have r:=HH (bJ n m);clear n m;go_wp2_with fail
 go_end0
 exact⟨rfl,r.o⟩
def Ui(w:bm)(g:Nat)(l f:Int)(R:List Int)(x:Ai)(i:Option Addr)(d j:Nat)(q:bA)(k a b:Int)(h:Ao w g l f R x (Y i d j) k a b q)(t:0≤x.c)(u:x.c≤3)(v:∀ z∈R,0≤z∧z≤255)(y:0≤x.b)(A:x.b≤4095)(p:(d:Int)≤x.b+R.getD x.c.toNat 0):
  b2 prog 260 #[G (Z ⟨g,0,O⟩)] w fun e w'=>e=.returned (.tuple #[])∧Ao w' g l f R x (Y i d j) 15 2 0 (Y O 0 0)∧Upd [g] w w':=by
 have s:=HH (PM w g l f R x i d j q k a b h t u v y A p);clear h p;go_enter func260,ntmps260;go_wp2_with fail;refine s.o.mono ?_;rintro e B ⟨rfl,n,m⟩;have r:=HH (bJ n m);clear n m;go_wp2_with fail
 go_end0
 exact⟨rfl,r.o⟩
def TU(w:bm)(g:Nat)(L F:Int)(R:List Int)(x:Ai)(t:Option Addr)(l n:Nat)(N:bA)(k a b:Int)(h:Ao w g L F R x (Y t l n) k a b N)(r:0≤x.a)(s:x.a≤3)(h4:0≤x.c)(h5:x.c≤3)(X:∀ z∈R,0≤z∧z≤255)(am:0≤x.b)(an:x.b≤4095)(E:x.b+R.getD x.c.toNat 0<(l:Int))(az:l≤n)(d:Nat)(ap:t=Z ⟨d,0,O⟩)(H:Int)(ab:d<w.heap.size)(m:w.cell? ⟨d,(x.b+R.getD x.c.toNat 0).toNat,O⟩=Z (I U H)):
  b2 prog 259 #[G (Z ⟨g,0,O⟩)] w fun e w'=>e=.returned (.tuple #[])∧Ao w' g L F (R.set x.a.toNat H) x (Y t l n) k a b N∧Upd [g] w w':=by
 have u:=HH (PN w g L F R x t l n N k a b h h4 h5 X am an E);have hz:=E8 X x.c.toNat
 have hg:=h.lt;clear h;generalize R.getD x.c.toNat 0=z at hz E m u ⊢;obtain⟨aA,aB⟩:=hz;obtain⟨j,D⟩:∃ j:Nat,x.b+z=(j:Int):=⟨(x.b+z).toNat,by omega⟩;rw[D] at E m u;rw[cp] at m;subst ap;go_enter func259,ntmps259;go_wp2_with fail;refine u.o.mono ?_;rintro e q ⟨rfl,i,u1,y⟩;have A:=i.CB x.a r s;have V:=i.frozen (2+x.a.toNat);obtain⟨c0,c1,Q,c8,c9,P⟩:=i.cell;have C:=i.lt;have S:=(y.cell (p:=⟨d,j,O⟩) ab).trans m;have ao:d<q.heap.size:=b1 ab y.size;obtain⟨H1,U1,HJ⟩:=H3 i u1 D;clear i u1 y m D;have q1:∀ p:Ak q,p.W.cell? ⟨g,2+x.a.toNat,O⟩=Z (I U (R.getD x.a.toNat 0)):=fun p=>(p.h.cell (p:=⟨g,_,O⟩) C).trans A;have qm:∀ p:Ak q,p.W.cell? ⟨d,j,O⟩=Z (I U H):=fun p=>(p.h.cell (p:=⟨d,_,O⟩) ao).trans S;have q7:∀ p:Ak q,p.W.cell? ⟨g,7,O⟩=Z (I J x.a):=fun p=>(p.h.cell (p:=⟨g,_,O⟩) C).trans Q;have q10:∀ p:Ak q,p.W.cell? ⟨g,10,O⟩=Z (Y (Z ⟨d,0,O⟩) l n):=fun p=>(p.h.cell (p:=⟨g,_,O⟩) C).trans P;go_upto_region 2 with (fail);refine BQ 15 [(6,fun v _=>v=G (Z ⟨g,2+x.a.toNat,O⟩))] ⟨Ch,trivial⟩ ?_
 iterate 6 (refine AK rfl ?_;intro K hK;go_big_quiet_op;go_big_quiet_on)
 refine Ca rfl (fun w' hb hA=>?_) ?_
 ·refine AD (f:=280) (al:=[G (Z ⟨g,0,O⟩),I J x.a]) rfl rfl rfl Gm ?_;exact(D3 w' g x.a r s).mono fun e w2 h=>⟨_,h.1,h.2 ▸ ⟨bw _ _,rfl⟩⟩
 intro v w' hb hv;obtain rfl:=hv;clear hb w';simp only[FV,bx,bH,bG]
 iterate 8 (refine AK rfl ?_;intro K hK;go_big_quiet_op;go_big_quiet_on)
 refine BN ?_;intro w9 B ar;simp only[bM,bK,bW];clear ar c0 c1 Q c8 c9 P q1 qm q7 q10 A S V;have h:=H1.o.bel B;have A:=h.CB x.a r s;have V:=h.frozen (2+x.a.toNat);obtain⟨U2,H2⟩:=H2 (U1.o.trans (Upd.below (M:=[g]) B)) h;clear h B;go_wp2_with fail
 go_end0
 exact⟨rfl,H2.o.I5 _ _ r s,U2.o.trans (H2.o.below _)⟩
def Uh(w:bm)(g:Nat)(n j:Int)(R:List Int)(x:Ai)(l:Option Addr)(f m:Nat)(D:bA)(k a b:Int)(h:Ao w g n j R x (Y l f m) k a b D)(r:0≤x.a)(s:x.a≤3)(S:0≤x.c)(V:x.c≤3)(t:∀ z∈R,0≤z∧z≤255)(W:0≤x.b)(X:x.b≤4095)(u:x.b+R.getD x.c.toNat 0<(f:Int)):
  b2 prog 260 #[G (Z ⟨g,0,O⟩)] w fun e w'=>e=.returned (.tuple #[])∧Ao w' g n j R x (Y l f m) 1 (x.b+R.getD x.c.toNat 0) (R.getD x.a.toNat 0) (Y O 0 0)∧Upd [g] w w':=by
 have q:=HH (PN w g n j R x l f m D k a b h S V t W X u);have v:=E8 t x.a.toNat
 clear h;generalize R.getD x.c.toNat 0=z at u q ⊢;generalize A:R.getD x.a.toNat 0=y at v ⊢;obtain⟨ab,ac⟩:=v;have E:=HH A;clear A;go_enter func260,ntmps260;go_wp2_with fail;refine q.o.mono ?_;rintro e w1 ⟨rfl,d,u1,H⟩;obtain⟨B,C,r2,r3,i,d⟩:=d;have Q:=Ao.CB ⟨B,C,r2,r3,i,d⟩ x.a r s;have P:=d.cell 7;have K:=d.cell 11;have L:=d.cell 12;have M:=d.cell 13;have N:=d.cell 14;have f11:=d.frozen 11;have f12:=d.frozen 12;have f13:=d.frozen 13;have f14:=d.frozen 14;simp at P K L M N;rw[E.o] at Q;obtain⟨p,F⟩:=H2 (bJ i d) u1;clear d u1 H i;go_wp2_with fail;refine(D3 w1 g x.a r s).mono ?_;rintro e w2 ⟨rfl,rfl⟩;go_wp2_with fail
 go_end0
 exact⟨rfl,⟨B,C,r2,r3,p.o.1,(CH ((CH ((CH ((CH (p.o.2) 11 _)) 12 _)) 13 _)) 14 _)⟩,F.o.trans Upd.s4⟩
def TS(w:bm)(g:Nat)(L F:Int)(R:List Int)(x:Ai)(P N:bA)(k a b:Int)(h:Ao w g L F R x P k a b N)(B:0≤x.a)(C:x.a≤3)(D:0≤x.b)(E:x.b≤3)(X:∀ z∈R,0≤z∧z≤255):
  b2 prog 276 #[G (Z ⟨g,0,O⟩)] w fun e w'=>e=.returned (.tuple #[])∧Ao w' g (if R.getD x.a.toNat 0<R.getD x.b.toNat 0 then x.c else L) F R x P k a b N∧Upd [g] w w':=by
 have n:=h.CB x.a B C;have q:=h.CB x.b D E;obtain⟨u,c1,l,m,A,y⟩:=h.cell;have i:=h.lt;have H:=HH h;clear h X;generalize R.getD x.a.toNat 0=Q at n ⊢;generalize R.getD x.b.toNat 0=S at q ⊢;have q1:∀ p:Ak w,p.W.cell? ⟨g,2+x.a.toNat,O⟩=Z (I U Q):=fun p=>(p.h.cell (p:=⟨g,_,O⟩) i).trans n;have q2:∀ p:Ak w,p.W.cell? ⟨g,2+x.b.toNat,O⟩=Z (I U S):=fun p=>(p.h.cell (p:=⟨g,_,O⟩) i).trans q;have q7:∀ p:Ak w,p.W.cell? ⟨g,7,O⟩=Z (I J x.a):=fun p=>(p.h.cell (p:=⟨g,_,O⟩) i).trans l;have q8:∀ p:Ak w,p.W.cell? ⟨g,8,O⟩=Z (I J x.b):=fun p=>(p.h.cell (p:=⟨g,_,O⟩) i).trans m;by_cases ad:Q<S
 all_goals
  go_enter func276,ntmps276;go_upto_region 0 with (fail);refine BQ 19 [(6,fun v _=>v=G (Z ⟨g,2+x.a.toNat,O⟩)),(15,fun v _=>v=G (Z ⟨g,2+x.b.toNat,O⟩))] ⟨Ch,Ch,trivial⟩ ?_
  iterate 6 (refine AK rfl ?_;intro K hK;go_big_quiet_op;go_big_quiet_on)
  refine Ca rfl (fun w' d V=>?_) ?_
  ·refine AD (f:=280) (al:=[G (Z ⟨g,0,O⟩),I J x.a]) rfl rfl rfl Gm ?_;exact(D3 w' g x.a B C).mono fun e w2 h=>⟨_,h.1,h.2 ▸ ⟨bw _ _,rfl⟩⟩
  intro v w' d s;obtain rfl:=s;clear d w';simp only[FV,bx,bH,bG]
  iterate 8 (refine AK rfl ?_;intro K hK;go_big_quiet_op;go_big_quiet_on)
  refine Ca rfl (fun w' d V=>?_) ?_
  ·refine AD (f:=280) (al:=[G (Z ⟨g,0,O⟩),I J x.b]) rfl rfl rfl Gm ?_;exact(D3 w' g x.b D E).mono fun e w2 h=>⟨_,h.1,h.2 ▸ ⟨bw _ _,rfl⟩⟩
  intro v w' d s;obtain rfl:=s;clear d w';simp only[FV,bx,bH,bG]
  iterate 3 (refine AK rfl ?_;intro K hK;go_big_quiet_op;go_big_quiet_on)
  refine BN ?_;intro w9 r aa;simp only[bM,bK,bW];clear aa u c1 l m A y n q q1 q2 q7 q8;have h:=H.o.bel r;obtain⟨u,c1,l,m,A,y⟩:=h.cell;have t:=HH (Upd.below (M:=[g]) r);have f0:=h.frozen 0;have j:=HH h;clear h r;go_wp2_with fail
  go_end0
  first
   |exact⟨rfl,j.o.G3 _,t.o.trans (j.o.below _)⟩
   |exact⟨rfl,j.o,t.o⟩
def TN(w:bm)(g:Nat)(t s:Int)(R:List Int)(x:Ai)(v u:bA)(k a b:Int)(h:Ao w g t s R x v k a b u)(d:0≤x.a)(f:x.a≤3)(i:0≤x.b)(j:x.b≤3)(l:∀ z∈R,0≤z∧z≤255):
  b2 prog 277 #[G (Z ⟨g,0,O⟩)] w fun e w'=>e=.returned (.tuple #[])∧Ao w' g t s (if R.getD x.b.toNat 0=0 then R else R.set x.a.toNat (R.getD x.a.toNat 0/R.getD x.b.toNat 0)) x v (if R.getD x.b.toNat 0=0 then 15 else k) (if R.getD x.b.toNat 0=0 then 4 else a) (if R.getD x.b.toNat 0=0 then 0 else b) (if R.getD x.b.toNat 0=0 then Y O 0 0 else u)∧Upd [g] w w':=by
 have B:=h.CB x.a d f;have C:=h.CB x.b i j;have N:=h.frozen (2+x.a.toNat);obtain⟨E,c1,K,L,M,F⟩:=h.cell;have f0:=h.frozen 0;have P:=h.lt;obtain⟨D,H⟩:=H2 (h.fail 4 0 (by decide) (by decide)) h;clear h;have q:0≤R.getD x.a.toNat 0∧R.getD x.a.toNat 0≤255:=E8 l _;have r:0≤R.getD x.b.toNat 0∧R.getD x.b.toNat 0≤255:=E8 l _;clear l;generalize R.getD x.a.toNat 0=z1 at B q ⊢;generalize R.getD x.b.toNat 0=m at C r ⊢;obtain⟨W,X⟩:=q;obtain⟨y3,y4⟩:=r;by_cases c:m=0
 ·subst c;go_enter func277,ntmps277;go_wp2_with fail;refine(D3 w g x.b i j).mono ?_;rintro e y ⟨rfl,rfl⟩;go_wp2_with fail;refine D.o.mono ?_;rintro e V ⟨rfl,p,n⟩;have A:=HH (bJ p n);clear p n;go_wp2_with fail
  go_end0
  exact⟨rfl,A.o⟩
 ·have Q:(m==0)=false:=by simpa using c
  have S:(m !=0)=true:=by simpa using c
  rw[if_neg c,if_neg c,if_neg c,if_neg c,if_neg c];go_enter func277,ntmps277;go_wp2_with fail;refine(D3 w g x.b i j).mono ?_;rintro e y ⟨rfl,rfl⟩;go_wp2_with fail;refine(D3 w g x.a d f).mono ?_;rintro e y ⟨rfl,rfl⟩;go_wp2_with fail
  go_end0
  exact⟨rfl,H.o.I5 _ _ d f,H.o.below _⟩
def KF(z:Int)(n:Nat):(countP z n).length=n:=by simp[countP]
def Sx(z:Int)(n j:Nat)(h:j<n):(countP z n)[j]? =Z ((z+(j:Int))%256):=by simp[countP,h]
def Sz(z:Int)(n:Nat)(w:bm)(S:0≤z)(r:z≤255)(R:1≤n)(Q:n≤64):
  b2 prog 283 #[I U z,I J n] w fun e w'=>e=.returned (Y (Z ⟨w.heap.size,0,O⟩) n n)∧Af U w' w.heap.size (Y (Z ⟨w.heap.size,0,O⟩) n n) (countP z n)∧Bl w w':=by
 obtain⟨E,m,x,r,y⟩:=OU;have D:∀ W:bm,(Instr.makeSlice 34 (I J (n:Int)) (I J (n:Int))).run prog W=.ok (Y (Z ⟨W.heap.size,0,O⟩) n n) (W.alloc (T (b3 (bZ U 0).cells (n*1)) 5)):=fun W=>by
  have:=run_make (P:=prog) W 34 5 E (I U 0) underlying34 m x J J n n (by omega) (Int.le_refl _) (by rw[y];omega) (by omega);simpa[r] using this
 have s:Hq (∀ W:bm,W.heap.size=w.heap.size→Bl w W→(W.alloc (T (b3 (bZ U 0).cells (n*1)) 5)).heap[w.heap.size]? =Z (T (b3 (bZ U 0).cells (n*1)) 5 (0,0))):=fun W C _=>by
  have:=heap_alloc_new W (T (b3 (bZ U 0).cells (n*1)) 5);rwa [C] at this
 have q:(b3 (bZ U 0).cells (n*1)).size=n:=by simp[size_madeCells]
 generalize b3 (bZ U 0).cells (n*1)=F at D s q;have B:=HH q;have V:(0:Int)≤(n:Int):=by omega
 clear m x r y q;go_enter func283,ntmps283;go_wp2_with fail
 go_loopw [6,11] (fun _ k wr=>∃ i:Nat,i≤n∧k=I J i∧∃ b:Array bA,Hq (wr.heap[w.heap.size]? =Z (T b 5 (0,0))∧b.size=n∧(∀ j,j<i→b[j]? =Z (I U ((z+(j:Int))%256)))∧Bl w wr)) (fun _ k _=>n-(intOf k).toNat)
 case atStart=>exact⟨0,Nat.zero_le _,rfl,F,s.o w rfl (bw _ w),B.o,fun j d=>absurd d (by omega),(bw _ w).alloc (br _) _⟩
 case round=>
  obtain⟨i,m,rfl,b,A⟩:=hrel;by_cases v:i<n
  ·obtain⟨a,h,g,f⟩:=A.o;have N:(i:Int)<(n:Int):=by omega
   obtain⟨t,H⟩:∃ t,wr.cell? ⟨w.heap.size,i,O⟩=Z t:=⟨b[i]'(by omega),by rw[cr wr _ _ _ _ _ a];simp[h,v]⟩;have K:wr.frozen? ⟨w.heap.size,i,O⟩=false:=by simp[World.frozen?,a]
   have c:=HH (bJ a (bJ h (bJ g f)));have L:(0:Int)≤(i:Int):=by omega
   have M:(i:Int)≤63:=by omega
   clear a h g f A;go_wp2_with fail
   go_roundw
   case rel=>
    refine⟨i+1,by omega,by go_num,b.setIfInBounds i (I U ((z+(i:Int))%256)),?_,by simp[c.o.2.1],fun j d=>?_,c.o.2.2.2.setCell (p:=⟨w.heap.size,i,O⟩) (br _) _⟩
    ·have:=heap_setCell_same wr w.heap.size i _ _ (I U ((z+(i:Int))%256)) c.o.1;exact this
    ·rw[bQ];by_cases e:i=j
     ·subst e;simp[c.o.2.1,v]
     ·rw[if_neg e];exact c.o.2.2.1 j (by omega)
   case measure=>simp[intOf];omega
  ·obtain rfl:i=n:=by omega
   go_wp2_with fail;go_ret;obtain⟨a,h,g,f⟩:=A.o;refine⟨rfl,⟨_,i,by rw[KF],by rw[KF];exact br _,by simp,by simp[KF],fun _=>⟨w.heap.size,0,rfl,br _,Aa a,fun j u l=>?_⟩⟩,f⟩;rw[cr wr _ _ _ _ _ a];have d:j<i:=by have:=(bL.1 l).1;simpa[KF] using this
   rw[List.getElem?_map,Sx z i j d] at l;simp only[Option.map_some,Option.some.injEq] at l;subst l;rw[cw];exact g j d
def Uc(w:bm)(g:Nat)(S Q:Int)(R:List Int)(x:Ai)(X vd:bA)(k a b:Int)(h:Ao w g S Q R x X k a b vd)(D:0≤x.b)(E:x.b≤3)(ai:1≤x.c)(aj:x.c≤64)(hR:∀ z∈R,0≤z∧z≤255):
  b2 prog 261 #[G (Z ⟨g,0,O⟩)] w fun e w'=>e=.returned (.tuple #[])∧∃ V,Ao w' g S Q R x X 2 x.a 0 V∧Af U w' w.heap.size V (countP (R.getD x.b.toNat 0) x.c.toNat)∧Upd [g] w w':=by
 have r:=h.CB x.b D E;have P:=E8 hR x.b.toNat
 obtain⟨c0,c1,c7,A,m,ad⟩:=h.cell;have j:=h.lt;have H:=HH h;clear h;generalize R.getD x.b.toNat 0=z at r P ⊢;obtain⟨an,ao⟩:=P;obtain⟨n,s⟩:∃ n:Nat,x.c=(n:Int):=⟨x.c.toNat,by omega⟩;rw[s] at m ⊢;rw[s] at ai aj;have ak:1≤n:=by omega
 have am:n≤64:=by omega
 simp only[cp];clear s;have q1:∀ p:Ak w,p.W.cell? ⟨g,2+x.b.toNat,O⟩=Z (I U z):=fun p=>(p.h.cell (p:=⟨g,_,O⟩) j).trans r;have q8:∀ p:Ak w,p.W.cell? ⟨g,8,O⟩=Z (I J x.b):=fun p=>(p.h.cell (p:=⟨g,_,O⟩) j).trans A;have q9:∀ p:Ak w,p.W.cell? ⟨g,9,O⟩=Z (I J n):=fun p=>(p.h.cell (p:=⟨g,_,O⟩) j).trans m;go_enter func261,ntmps261;refine BQ 16 [(7,fun v _=>v=G (Z ⟨g,2+x.b.toNat,O⟩)),(15,fun v w'=>∃ q:Nat,w.heap.size≤q∧v=Y (Z ⟨q,0,O⟩) n n∧Af U w' w.heap.size (Y (Z ⟨q,0,O⟩) n n) (countP z n))] ⟨Ch,(fun v w1 u ⟨q,L,e,h⟩ d=>⟨q,L,e,h.below d⟩),trivial⟩ ?_
 iterate 7 (refine AK rfl ?_;intro K hK;go_big_quiet_op;go_big_quiet_on)
 refine Ca rfl (fun w' d hA=>?_) ?_
 ·refine AD (f:=280) (al:=[G (Z ⟨g,0,O⟩),I J x.b]) rfl rfl rfl Gm ?_;exact(D3 w' g x.b D E).mono fun e u h=>⟨_,h.1,h.2 ▸ ⟨bw _ _,rfl⟩⟩
 intro v w' d t;obtain rfl:=t;clear d w';simp only[FV,bx,bH,bG]
 iterate 7 (refine AK rfl ?_;intro K hK;go_big_quiet_op;go_big_quiet_on)
 refine Ca rfl (fun w' d hA=>?_) ?_
 ·refine AD (f:=283) (al:=[I U z,I J n]) rfl rfl rfl Tq ?_;exact(Sz z n w' an ao ak am).mono fun e u h=>⟨_,h.1,h.2.2,⟨_,d.size,rfl,Sl.mono h.2.1 d.size⟩⟩
 intro v w' d t;obtain⟨q,L,rfl,i⟩:=t;clear d i w';simp only[FV,bx,bH,bG];refine BN ?_;intro w9 l N;simp only[bM,bK,bW];obtain⟨q',av,B,i⟩:=N 15 _ (by decide) rfl;have i:Af U w9 w.heap.size (Y (Z ⟨q,0,O⟩) n n) (countP z n):=by
  have e2:(Value.slice (Z ⟨q,0,O⟩) n n)=Y (Z ⟨q',0,O⟩) n n:=B;rw[e2];exact i
 have F:=(H.o.bel l).Md 2 (Z ⟨q,0,O⟩) n n;obtain⟨HB,y⟩:=H2 (Upd.below (M:=[g]) l) (bJ F i);have au:g<w9.heap.size:=b1 j l.size;clear N B i F q1 q8 q9 r c0 c1 c7 A m ad l;go_wp2_with fail;refine y.o.1.mono ?_;rintro e u ⟨rfl,C,u2⟩;have H2:=HH (bJ C u2);clear C u2;go_wp2_with fail
 go_end0
 exact⟨rfl,_,H2.o.1,Nc y.o.2 H2.o.2 j,HB.o.trans H2.o.2⟩
def TZ(w:bm)(g:Nat)(q p:Int)(R:List Int)(x:Ai)(s z:bA)(k a b:Int)(h:Ao w g q p R x s k a b z)(m:0≤x.b)(n:x.b≤3):
  b2 prog 268 #[G (Z ⟨g,0,O⟩)] w fun e w'=>e=.returned (.tuple #[])∧∃ r,Ao w' g q p R x s 9 x.a 0 r∧Af U w' w.heap.size r [R.getD x.b.toNat 0]∧Upd [g] w w':=by
 have v:=h.CB x.b m n;obtain⟨A,c1,C,D,E,B⟩:=h.cell;have y:=h.lt;generalize R.getD x.b.toNat 0=f at v ⊢;have d:Bl w (w.alloc (T #[I U f] 5)):=(bw _ w).alloc (br _) _;have i:=HH ((h.bel d).Md 9 (Z ⟨w.heap.size,0,O⟩) 1 1);have u:Hq (Af U (w.alloc (T #[I U f] 5)) w.heap.size (Y (Z ⟨w.heap.size,0,O⟩) 1 1) [f]):=Qh w _ _;have t:=HH (Upd.below (M:=[g]) d);clear d h;go_enter func268,ntmps268;go_wp2_with fail;refine(D3 w g x.b m n).mono ?_;rintro e F ⟨rfl,rfl⟩;go_wp2_with fail;refine i.o.mono ?_;rintro e H ⟨rfl,l,j⟩;have c:=HH (bJ l j);clear l j i;go_wp2_with fail
 go_end0
 exact⟨rfl,_,c.o.1,Nc u.o c.o.2 y,t.o.trans c.o.2⟩
def Ue(w:bm)(g:Nat)(q p:Int)(R:List Int)(x:Ai)(s z:bA)(k a b:Int)(h:Ao w g q p R x s k a b z)(m:0≤x.b)(n:x.b≤3):
  b2 prog 270 #[G (Z ⟨g,0,O⟩)] w fun e w'=>e=.returned (.tuple #[])∧∃ r,Ao w' g q p R x s 11 x.a 0 r∧Af U w' w.heap.size r [R.getD x.b.toNat 0]∧Upd [g] w w':=by
 have v:=h.CB x.b m n;obtain⟨A,c1,C,D,E,B⟩:=h.cell;have y:=h.lt;generalize R.getD x.b.toNat 0=f at v ⊢;have d:Bl w (w.alloc (T #[I U f] 5)):=(bw _ w).alloc (br _) _;have i:=HH ((h.bel d).Md 11 (Z ⟨w.heap.size,0,O⟩) 1 1);have u:Hq (Af U (w.alloc (T #[I U f] 5)) w.heap.size (Y (Z ⟨w.heap.size,0,O⟩) 1 1) [f]):=Qh w _ _;have t:=HH (Upd.below (M:=[g]) d);clear d h;go_enter func270,ntmps270;go_wp2_with fail;refine(D3 w g x.b m n).mono ?_;rintro e F ⟨rfl,rfl⟩;go_wp2_with fail;refine i.o.mono ?_;rintro e H ⟨rfl,l,j⟩;have c:=HH (bJ l j);clear l j i;go_wp2_with fail
 go_end0
 exact⟨rfl,_,c.o.1,Nc u.o c.o.2 y,t.o.trans c.o.2⟩
def Um(w:bm)(g:Nat)(i d:Int)(R:List Int)(x:Ai)(p n:bA)(k a b:Int)(h:Ao w g i d R x p k a b n)(B:0≤d)(C:d≤2000)(y:1≤x.a)(z:x.a≤2000)(E:1≤i)(F:i≤1000000):
  b2 prog 256 #[G (Z ⟨g,0,O⟩)] w fun e w'=>e=.returned (.tuple #[])∧Ao w' g (if(if d=0 then x.a else d)-1=0 then i else i-1) ((if d=0 then x.a else d)-1) R x p k a b n∧Upd [g] w w':=by
 obtain⟨r,c1,t,u,v,s⟩:=h.cell;have f0:=h.frozen 0;have f1:=h.frozen 1;have A:=h.lt;have H:=HH h;clear h;by_cases f:d=0
 ·subst f;rw[if_pos rfl];by_cases c:x.a-1=0
  ·have l:(x.a-1==0)=true:=by simpa using c
   have m:(x.a-1 !=0)=false:=by simpa using c
   have j:=HH c;rw[if_pos c];clear c;go_enter func256,ntmps256;go_wp2_with fail
   go_end0
   exact⟨rfl,(H.o.Ju _).Ju _,Upd.s1.trans .s1⟩
  ·have l:(x.a-1==0)=false:=by simpa using c
   have m:(x.a-1 !=0)=true:=by simpa using c
   have j:=HH c;rw[if_neg c];clear c;go_enter func256,ntmps256;go_wp2_with fail
   go_end0
   exact⟨rfl,((H.o.Ju _).Ju _).G3 _,(Upd.s1.trans .s1).trans .s1⟩
 ·have D:(d==0)=false:=by simpa using f
  rw[if_neg f];have q:=HH f;by_cases c:d-1=0
  ·have l:(d-1==0)=true:=by simpa using c
   have m:(d-1 !=0)=false:=by simpa using c
   have j:=HH c;rw[if_pos c];clear c f;go_enter func256,ntmps256;go_wp2_with fail
   go_end0
   exact⟨rfl,H.o.Ju _,Upd.s1⟩
  ·have l:(d-1==0)=false:=by simpa using c
   have m:(d-1 !=0)=true:=by simpa using c
   have j:=HH c;rw[if_neg c];clear c f;go_enter func256,ntmps256;go_wp2_with fail
   go_end0
   exact⟨rfl,(H.o.Ju _).G3 _,Upd.s1.trans .s1⟩
namespace MC
structure FI(C:bm→Prop) where
 W:bm
 h:C W
section
variable {P:b8} {id:Nat} {l:List b0} {Q:Exit→Act→bm→Prop} {a:Act} {w:bm} {ops:Array b0} {n:Nat}
def AQ(C:bm→Prop)(P:b8)(ops:Array b0)(S F:List Nat)(mk:Nat→Bool)(V:Nat→bA→bm→Prop)(w:bm)(E:List b0→(Nat→bA)→Act→Prop):Nat→List b0→List b0→(Nat→bA)→Act→Prop
 | _,[],os,vs,A=>E os vs A
 |i,o::rest,os,vs,A=>
  if S.contains i then AQ C P ops S F mk V w E (i+1) rest (os++ [o]) vs A
  else if mk i then
   (∀ w',Bl w w'→(∀ j,mk j=true→By ops i j→V j (vs j) w')→Bd P o A w' (fun v b=>Bl w' b∧V i v b))∧
   ∀ v w',Bl w w'→V i v w'→AQ C P ops S F mk V w E (i+1) rest os (fun j=>if j=i then v else vs j) (A.put o.dst v)
  else if F.contains i then o.quiet P A (fun w'=>∃ p:FI C,w'=p.W) (AQ C P ops S F mk V w E (i+1) rest os vs)
  else o.quiet P A (fun w'=>∃ p:Ak w,w'=p.W) (AQ C P ops S F mk V w E (i+1) rest os vs)
def A7(C:bm→Prop)(P:b8)(A:Act):List b0→bm→(bm→Prop)→Prop
 | [],w,K=>K w
 |o::os,w,K=>∃ w',(cb A.eval o).run P w=.ok .skip w'∧C w'∧A7 C P A os w' K
section
variable {C:bm→Prop} {S F:List Nat} {mk:Nat→Bool} {V:Nat→bA→bm→Prop} {E:List b0→(Nat→bA)→Act→Prop}
def Dw(C:bm→Prop)(P:b8)(ops:Array b0)(n:Nat)(F:List Nat)(mk:Nat→Bool)(V:Nat→bA→bm→Prop)(a:Act)(w:bm)(i:Nat)(vs:Nat→bA)(w':bm):Prop:=
 if mk i then V i (vs i) w' else ∀ o,ops[i]? =Z o→Bg P o (Ar ops vs a n) w (vs i)∧(F.contains i=true→∀ x,C x→Bg P o (Ar ops vs a n) x (vs i))
def MV(hh:CO ops n a.tmps.size=true)(aW:n=ops.size){s:Nat}(A:Ge ops n S F mk s)(us:Nat→bA)
  (hF:∀ i∈F,∀ o,ops[i]? =Z o→∀ x,C x→Bg P o (Ar ops us a n) x (us i)):
  ∀ (k:Nat) (listed:Array Bool) (w':bm) (m:Nat),Cq listed n=k→ce .any ops n listed→(∀ i,i<n→listed.getD i false=false→i∈F∨∃ j,m≤j∧S[j]? =Z i)→(∀ j i,m≤j→S[j]? =Z i→listed.getD i false=false)→C w'→
   A7 C P (Ar ops us a n) ((S.drop m).filterMap (fun i=>ops[i]?)) w' (Q .normal (Ar ops us a n))→wpAny P .any ops Q k listed (Ba ops listed us a n) w':=by
 obtain⟨hn,aX,ae⟩:=DM hh;have hd:∀ j k,j<n→k<n→j≠k→∀ t,Av ops j=Z t→Av ops k≠Z t:=fun j k b hk R t ht=>by
  obtain⟨o,H⟩:=ae k hk;exact(H.apart j b R t ht).1
 intro k
 induction k with
 |zero=>
  intro listed w' m hu W u D aa f;have L:=Ie hu;rw[Jp n L];have hm:S.drop m=[]:=by
   apply List.drop_eq_nil_of_le;apply b6;intro p;obtain⟨x,c⟩:∃ x,S[m]? =Z x:=⟨_,bF (by omega)⟩;have K:=D m x (br _) c;rw[L x (A.DW x (bC c)).1] at K;cases K
  rw[hm] at f;refine⟨?_,f⟩;apply List.eq_nil_iff_forall_not_mem.2;intro i M;obtain⟨aM,o,ho,_⟩:=bY.1 M;have p:=(a4.1 ho).1;have u:=L i (by omega);rw[ci aM] at u;cases u
 |succ k ih=>
  intro listed w' m hu W u D aa f;obtain⟨i0,aB,aN,aG⟩:=I9 (listed:=listed) (n:=n) (by omega);have aY:=W.size;have aO:listed.getD i0 true=false:=cl (by omega) aN;have ar:i0∈cc .any ops listed:=by
   obtain⟨o,H⟩:=ae i0 aB;exact bY.2 ⟨aO,o,H.at_,fun e he X=>aG e.on (H.back e he X)⟩
  refine⟨fun h=>(by rw[h] at ar;cases ar),fun i M=>?_⟩;obtain⟨aC,o',r,L⟩:=bY.1 M;have y:i<n:=by have:=(a4.1 r).1;omega
  obtain⟨o,H⟩:=ae i y;obtain rfl:o=o':=bu (H.at_.symm.trans r);have p:i<listed.size:=by have:=(a4.1 r).1;omega
  have af:listed.getD i false=false:=ci aC;have am:∀ j,BH ops i j=true→listed.getD j false=true:=fun j b=>by
   obtain⟨e,he,X,rfl⟩:=(G6 H.at_).1 b;exact L e he X
  have aR:bO o (yielded ops (Ba ops listed us a n).tmps)=true:=by simp[bO,H.Jh]
  have an:=KG hh r y (us:=us) am;have al:Av ops i=o.dst:=by simp[Av,r]
  have ao:Cq (listed.setIfInBounds i true) n=k:=by
   have:=IA p af (n:=n) y;omega
  have aq:∀ v,(i∈F→v=us i)→(i∉F→o.dst=O)→(Ba ops listed us a n).put o.dst v=Ba ops (listed.setIfInBounds i true) us a n:=fun v hv aI=>by
   have h5:=Jq (ops:=ops) (listed:=listed) (vs:=us) (a:=a) (n:=n) (v:=us i) y p af hd;have h6:(fun j=>if j=i then us i else us j)=us:=by
    funext j;by_cases e:j=i
    ·rw[if_pos e,e]
    ·rw[if_neg e]
   rw[h6] at h5;rw[h5,al];by_cases g:i∈F
   ·rw[hv g]
   ·rw[aI g];rfl
  unfold wpOp;simp only[r,aR,if_true];rcases u i y af with g|⟨j,aU,b⟩
  ·have ap:=hF i g o r w' aa;have hg:Bd P o (Ar ops us a n) w' (fun v N=>v=us i∧N=w'):=by
    unfold Bd;unfold Bg at ap;rw[ap];exact⟨rfl,rfl⟩
   refine .inl (Hr an hg fun v N hp=>?_);obtain⟨rfl,rfl⟩:=hp;rw[aq _ (fun _=>rfl) (fun h=>absurd g h)];refine ih _ _ m ao (W.set M y) (fun q B d=>?_) (fun q x B c=>?_) aa f
   ·rw[Dk p] at d;split at d
    ·cases d
    ·exact u q B d
   ·rw[Dk p,if_neg]
    ·exact D q x B c
    ·rintro rfl;exact(A.Gs x g).2 (bC c)
  ·have aD:j=m:=by
    apply b6;intro R;have ag:=(bL.1 b).1;obtain⟨x,c⟩:∃ x,S[j-1]? =Z x:=⟨_,bF (by omega)⟩;have hw:=A.IS (j-1) x i c (by rw[←b];congr 1;omega);have K:=D (j-1) x (by omega) c;rw[am x hw] at K;cases K
   subst aD;have ag:=(bL.1 b).1;have az:S.drop j=i::S.drop (j+1):=by
    rw[bU ag]
    congr 1
    rw[bF ag] at b;exact bu b
   rw[az,List.filterMap_cons,r] at f;obtain⟨w2,hr,ay,f⟩:=f;have aH:i∉F:=fun g=>(A.Gs i g).2 (bC b);have hg:Bd P o (Ar ops us a n) w' (fun v N=>N=w2):=by
    unfold Bd;rw[hr];rfl
   refine .inl (Hr an hg fun v N hp=>?_);subst hp;rw[aq _ (fun h=>absurd h aH) (fun _=>by rw[←al];exact(A.DW i (bC b)).2.2)];refine ih _ _ (j+1) ao (W.set M y) (fun q B d=>?_) (fun q x B c=>?_) ay f
   ·rw[Dk p] at d;split at d
    ·cases d
    ·rename_i R;rcases u q B d with h|⟨z,hz,ai⟩
     ·exact .inl h
     ·refine .inr ⟨z,?_,ai⟩;rcases cx j z with h|h
      ·omega
      ·obtain rfl:z=j:=by omega
       rw[b] at ai;exact absurd (bu ai).symm R
   ·rw[Dk p,if_neg]
    ·exact D q x (by omega) c
    ·rintro rfl;have:=A.inc hh (q-j-1) j x x b (by rw[←c];congr 1;omega);omega
def Kf(hC:∀ w',Bl w w'→C w')(hh:CO ops n a.tmps.size=true){s:Nat}(R:Ge ops n S F mk s)(hV:∀ i v w' aA,V i v w'→Bl w' aA→V i v aA)
  (hl:ops=l.toArray) (H:AQ C P ops S F mk V w E 0 (l.take n) [] (fun _=>b7) a) (t:Nat→Prop) (hZ:∀ i j,i<n→t i→BH ops i j=true→t j) (aE:∀ i,t i→i∉S)
  (vs:Nat→bA) (w':bm) (aU:Bl w w') (ay:∀ i,i<n→t i→i∉S→Dw C P ops n F mk V a w i vs w'):
  ∀ k,k≤n→∃ (us M:Nat→bA) (r:bm),AQ C P ops S F mk V w E k ((l.take n).drop k) (((bX k).filter (fun i=>S.contains i)).filterMap (fun i=>ops[i]?)) M (Ar ops us a k)∧(∀ j,j<k→t j→j∉S→us j=vs j)∧(∀ j,j<k→mk j=true→M j=us j)∧
   Bl w r∧(∀ j,j<k→mk j=true→V j (us j) r)∧(∀ j,j<n→t j→mk j=true→V j (vs j) r)∧((∀ j,j<n→mk j=true→t j)→r=w')∧
   (∀ j,j<k→j∈F→∀ o,ops[j]? =Z o→∀ x,C x→Bg P o (Ar ops us a j) x (us j)):=by
 have hn:=(DM hh).1;have a0:n≤l.length:=by simpa[hl] using hn
 have aX:∀ i,mk i=true→i∉S:=fun i f p=>by rw[(R.DW i p).2.1] at f;cases f
 intro k
 induction k with
 |zero=>exact fun _=>⟨fun _=>b7,fun _=>b7,w',by rw[bK];exact H,fun j b=>absurd b (by omega),fun j b=>absurd b (by omega),aU,fun j b=>absurd b (by omega),fun j b p f=>by
   have:=ay j b p (aX j f);simpa only[Dw,f,if_true] using this,fun _=>rfl,fun j b=>absurd b (by omega)⟩
 |succ k ih=>
  intro hk;obtain⟨us,M,r,g,h2,h3,N,h5,h6,h7,h8⟩:=ih (by omega);have aM:k<l.length:=by omega
  have aH:(l.take n).drop k=l[k]::(l.take n).drop (k+1):=by
   rw[bU (by simp;omega)];simp
  have L:ops[k]? =Z l[k]:=by simp[hl,aM]
  rw[aH] at g;have aJ:Av ops k=l[k].dst:=by simp[Av,L]
  have aw:∀ v,(Ar ops us a k).put l[k].dst v=Ar ops (fun j=>if j=k then v else us j) a (k+1):=fun v=>by
   simp only[Ar,if_true,aJ];rw[I3 (us:=us) (vs:=fun j=>if j=k then v else us j) k (fun j b=>by simp only[if_neg (show¬j=k by omega)])]
  have ar:∀ (v:bA),(k∈F→∀ x,C x→Bg P l[k] (Ar ops us a k) x v)→∀ j,j<k+1→j∈F→∀ o,ops[j]? =Z o→∀ x,C x→Bg P o (Ar ops (fun j=>if j=k then v else us j) a j) x ((fun j=>if j=k then v else us j) j):=fun v m j b d o X x az=>by
   have hc:Ar ops (fun j=>if j=k then v else us j) a j=Ar ops us a j:=I3 j (fun q hq=>by simp only[if_neg (show¬q=k by omega)]);rw[hc];by_cases e:j=k
   ·subst e;simp only[if_true];rw[L] at X;injection X with X;subst X;exact m d x az
   ·simp only[if_neg e];exact h8 j (by omega) d o X x az
  have ax:bX (k+1)=bX k++ [k]:=List.range_succ;simp only[AQ] at g;by_cases p:S.contains k=true
  ·rw[if_pos p] at g;have A:k∈S:=bP.1 p;obtain⟨_,B,aI⟩:=R.DW k A;have aO:k∉F:=fun d=>(R.Gs k d).2 A;refine⟨us,M,r,?_,fun j b u K=>?_,fun j b c=>?_,N,fun j b c=>?_,h6,h7,fun j b d=>?_⟩
   ·rw[ax,cj,cf];have e1:([k].filter (fun i=>S.contains i)).filterMap (fun i=>ops[i]?)=[l[k]]:=by simp[A,L]
    rw[e1];have e2:Ar ops us a (k+1)=Ar ops us a k:=by
     simp only[Ar,aI];rfl
    rw[e2];exact g
   ·exact h2 j (by have:j≠k:=(by rintro rfl;exact K A);omega) u K
   ·exact h3 j (by have:j≠k:=(by rintro rfl;rw[B] at c;cases c);omega) c
   ·exact h5 j (by have:j≠k:=(by rintro rfl;rw[B] at c;cases c);omega) c
   ·exact h8 j (by have:j≠k:=(by rintro rfl;exact aO d);omega) d
  ·have a1:S.contains k=false:=by simpa using p
   have A:k∉S:=fun h=>p (bP.2 h);rw[if_neg p] at g;have aQ:((bX (k+1)).filter (fun i=>S.contains i)).filterMap (fun i=>ops[i]?)=((bX k).filter (fun i=>S.contains i)).filterMap (fun i=>ops[i]?):=by
    rw[ax,cj,cf];simp[A]
   rw[aQ];by_cases f:mk k=true
   ·rw[if_pos f] at g;obtain⟨D,z⟩:=g;have ak:∃ v y,Bl r y∧V k v y∧(t k→v=vs k)∧(t k→y=r):=by
     by_cases ah:t k
     ·exact⟨vs k,r,bw _ _,h6 k (by omega) ah f,fun _=>rfl,fun _=>rfl⟩
     ·obtain⟨v,y,W,m⟩:=Mv (D r N (fun j b ha=>by
       have:=ha.lt hh (by omega);rw[h3 j this b];exact h5 j this b))
      exact⟨v,y,W,m,fun h=>absurd h ah,fun h=>absurd h ah⟩
    obtain⟨v,y,W,m,aS,aT⟩:=ak;have aq:Bl w y:=N.trans (W.mono N.size);have g3:=z v y aq m;rw[aw v] at g3;refine⟨_,_,y,g3,fun j b u K=>?_,fun j b c=>?_,aq,fun j b c=>?_,fun j b p c=>hV _ _ _ _ (h6 j b p c) W,fun ap=>(aT (ap k (by omega) f)).trans (h7 ap),ar v (fun d=>by rw[(R.Gs k d).1] at f;cases f)⟩
    ·by_cases e:j=k
     ·subst e;simp only[if_true];exact aS u
     ·rw[if_neg e];exact h2 j (by omega) u K
    ·by_cases e:j=k
     ·simp only[e,if_true]
     ·simp only[if_neg e];exact h3 j (by omega) c
    ·by_cases e:j=k
     ·subst e;simp only[if_true];exact m
     ·rw[if_neg e];exact hV _ _ _ _ (h5 j (by omega) c) W
   ·have B:mk k=false:=by simpa using f
    rw[if_neg f] at g;obtain⟨o1,aP,aj⟩:=R.Lk k (by omega) A B;obtain rfl:o1=l[k]:=bu (aP.symm.trans L);have ak:∃ v,Bg P l[k] (Ar ops us a k) w v∧(k∈F→∀ x,C x→Bg P l[k] (Ar ops us a k) x v)∧AQ C P ops S F mk V w E (k+1) ((l.take n).drop (k+1)) (((bX k).filter (fun i=>S.contains i)).filterMap (fun i=>ops[i]?)) M ((Ar ops us a k).put l[k].dst v):=by
     by_cases d:F.contains k=true
     ·rw[if_pos d] at g;obtain⟨v,D,z⟩:=g;exact⟨v,D1 aj (D w ⟨⟨w,hC w (bw _ w)⟩,rfl⟩),fun _ x hx=>D1 aj (D x ⟨⟨x,hx⟩,rfl⟩),z⟩
     ·rw[if_neg d] at g;obtain⟨v,D,z⟩:=g;exact⟨v,D1 aj (D w ⟨⟨w,bw _ w⟩,rfl⟩),fun h=>absurd (bP.2 h) d,z⟩
    obtain⟨v,hq,aR,z⟩:=ak;rw[aw v] at z;refine⟨_,M,r,z,fun j b u K=>?_,fun j b c=>?_,N,fun j b c=>?_,h6,h7,ar v aR⟩
    ·by_cases e:j=k
     ·subst e;simp only[if_true];have m:=ay j (by omega) u A;simp only[Dw,B,bN,if_false] at m;have m:=(m _ L).1;have he:=E7 hh L (by omega) (br _) (by omega) (show j≤n by omega) (br _) (us:=us) (vs:=vs) (fun i hi=>by
       have aL:=CD hh (by omega) hi;by_cases au:i∈S
       ·exact absurd au (aE i (hZ j i (by omega) u hi))
       ·exact h2 i aL (hZ j i (by omega) u hi) au)
      unfold Bg at hq m;rw[he,m] at hq;simpa using hq.symm
     ·rw[if_neg e];exact h2 j (by omega) u K
    ·have e:j≠k:=by rintro rfl;rw[B] at c;cases c
     rw[if_neg e];exact h3 j (by omega) c
    ·have e:j≠k:=by rintro rfl;rw[B] at c;cases c
     rw[if_neg e];exact h5 j (by omega) c
def MU(hC:∀ w',Bl w w'→C w')(z:CO l.toArray n a.tmps.size=true)(bf:n=l.toArray.size){s:Nat}(y:Ge l.toArray n S F mk s)(hV:∀ i v w' X,V i v w'→Bl w' X→V i v X)
  (H:AQ C P l.toArray S F mk V w (fun os vs A=>∀ w',Bl w w'→(∀ j,j<n→mk j=true→V j (vs j) w')→A7 C P A os w' (Q .normal A)) 0 (l.take n) [] (fun _=>b7) a):
  ∀ (k:Nat) (listed:Array Bool) (b:Act) (w':bm),Cq listed n=k→ce .any l.toArray n listed→(∀ i∈S,listed.getD i false=false)→
   (∃ vs,b=Ba l.toArray listed vs a n∧Bl w w'∧∀ i,i<n→listed.getD i false=true→Dw C P l.toArray n F mk V a w i vs w')→wpAny P .any l.toArray Q k listed b w':=by
 obtain⟨hn,bD,an⟩:=DM z;have hd:∀ j k,j<n→k<n→j≠k→∀ t,Av l.toArray j=Z t→Av l.toArray k≠Z t:=fun j k c hk bd t ht=>by
  obtain⟨o,H⟩:=an k hk;exact(H.apart j c bd t ht).1
 have aE:∀ {listed:Array Bool},ce .any l.toArray n listed→∀ i j,i<n→listed.getD i false=true→BH l.toArray i j=true→listed.getD j false=true:=fun {listed} M i j p d hw=>by
  obtain⟨oi,Hi⟩:=an i p;obtain⟨e,L,af,rfl⟩:=(G6 Hi.at_).1 hw;exact M.closed i oi Hi.at_ d e L af
 intro k
 induction k with
 |zero=>
  rintro listed b w' hu M N ⟨vs,rfl,R,ai⟩;have aw:=Ie hu;have r:=y.DW s (bC y.fst);have:=N s (bC y.fst);rw[aw s r.1] at this;cases this
 |succ k ih=>
  rintro listed b w' hu M N ⟨vs,rfl,R,ai⟩;by_cases ax:∀ i,i<n→i∉S→i∉F→listed.getD i false=true
  ·obtain⟨us,xs,w1,u,h2,h3,h4,h5,h6,h7,h8⟩:=Kf hC z y hV rfl H (fun i=>listed.getD i false=true) (fun i j p d hw=>aE M i j p d hw) (fun i d r=>by rw[N i r] at d;cases d) vs w' R (fun i p d _=>ai i p d) n (br _);have be:(l.take n).drop n=[]:=by simp
   rw[be,y.list] at u;simp only[AQ] at u;have bp:w1=w':=h7 fun j c D=>ax j c (fun r=>by rw[(y.DW j r).2.1] at D;cases D) (fun B=>by rw[(y.Gs j B).1] at D;cases D);subst bp;have a3:=u w1 h4 (fun j c D=>by
    rw[h3 j c D];exact h5 j c D)
   have bi:Ba l.toArray listed vs a n=Ba l.toArray listed us a n:=Ln n (fun i _=>rfl) (fun i p d=>(h2 i p d (fun r=>by rw[N i r] at d;cases d)).symm);rw[bi];refine MV z bf y us (fun i B o ho x aF=>?_) (k+1) listed w1 0 hu M (fun i p d=>?_) (fun j i _ c=>N i (bC c)) (hC w1 h4) ?_
   ·have f:i<n:=by have:=(a4.1 ho).1;omega
    have h9:=h8 i f B o ho x aF;have L:=E7 z ho f (br _) (bI f) (bI f) (br _) (us:=us) (vs:=us) (fun _ _=>rfl);unfold Bg at*;rw[←L];exact h9
   ·by_cases r:i∈S
    ·obtain⟨j,c⟩:=cg r;exact .inr ⟨j,Nat.zero_le _,c⟩
    ·by_cases B:i∈F
     ·exact .inl B
     ·rw[ax i p r B] at d;cases d
   ·rw[bK];exact a3
  ·obtain⟨i0,a5,bn,bc⟩:=I9 (listed:=listed) (n:=n) (by omega);have bE:=M.size;have bo:listed.getD i0 true=false:=cl (by omega) bn;have aT:i0∈cc .any l.toArray listed:=by
    obtain⟨o,H⟩:=an i0 a5;exact bY.2 ⟨bo,o,H.at_,fun e L af=>bc e.on (H.back e L af)⟩
   refine⟨fun h=>(by rw[h] at aT;cases aT),fun i p=>?_⟩;obtain⟨a8,o',K,aw⟩:=bY.1 p;have f:i<n:=by have:=(a4.1 K).1;omega
   obtain⟨o,H'⟩:=an i f;obtain rfl:o=o':=bu (H'.at_.symm.trans K);have ao:i<listed.size:=by have:=(a4.1 K).1;omega
   have az:listed.getD i false=false:=ci a8;have ad:∀ j,BH l.toArray i j=true→listed.getD j false=true:=fun j c=>by
    obtain⟨e,L,af,rfl⟩:=(G6 H'.at_).1 c;exact aw e L af
   have aN:∀ j,By l.toArray i j→listed.getD j false=true:=fun j c=>by
    cases c with
    |base h=>exact ad j h
    |step h h2=>exact h2.listed z M (by have:=CD z f h;omega) (ad _ h)
   have ay:i∉S:=fun a7=>by
    obtain⟨m,D⟩:=cg a7;cases m with
    |zero=>
     rw[y.fst] at D;obtain rfl:=bu D;exact ax fun q W bk bj=>aN q (y.Om q W bk bj)
    |succ m=>
     have bB:=(bL.1 D).1;obtain⟨x,hx⟩:∃ x,S[m]? =Z x:=⟨_,bF (by omega)⟩;have h4:=N x (bC hx);rw[ad x (y.IS m x i hx D)] at h4;cases h4
   have bq:bO o (yielded l.toArray (Ba l.toArray listed vs a n).tmps)=true:=by simp[bO,H'.Jh]
   have a1:=KG z K f (us:=vs) ad;obtain⟨us,xs,w1,u,h2,h3,h4,h5,h6,h7,h8⟩:=Kf hC z y hV rfl H (fun i=>listed.getD i false=true) (fun i j p d hw=>aE M i j p d hw) (fun i d r=>by rw[N i r] at d;cases d) vs w' R (fun i p d _=>ai i p d) i (bI f);have a6:i<l.length:=by have:=(a4.1 K).1;simpa using this
   have bb:l[i]=o:=by
    have h9:l[i]? =Z o:=by simpa using K
    rw[bF a6] at h9;exact bu h9
   have aY:(l.take n).drop i=o::(l.take n).drop (i+1):=by
    rw[bU (by simp;omega)];simp[bb]
   rw[aY] at u;simp only[AQ] at u;have bl:¬S.contains i=true:=fun h=>ay (bP.1 h);rw[if_neg bl] at u;have aM:∀ j,BH l.toArray i j=true→us j=vs j:=fun j c=>h2 j (CD z f c) (ad j c) (fun r=>by have:=N j r;rw[ad j c] at this;cases this);have L:=E7 z K f (br _) (bI f) (bI f) (br _) (us:=us) (vs:=vs) aM;have aX:∀ v,∀ j,BH l.toArray i j=true→us j=(fun j=>if j=i then v else vs j) j:=fun v j c=>by
    have:=CD z f c;simp only[if_neg (show¬j=i by omega)];exact aM j c
   have hg:Bd P o (Ar l.toArray vs a n) w' (fun v X=>Bl w' X∧Dw C P l.toArray n F mk V a w i (fun j=>if j=i then v else vs j) X):=by
    by_cases ap:mk i=true
    ·rw[if_pos ap] at u;have g:=u.1 w' R (fun j c ha=>by
      have aP:=ha.lt z f;have aQ:=aN j ha;rw[h3 j aP c,h2 j aP aQ (fun r=>by rw[(y.DW j r).2.1] at c;cases c)];have:=ai j (by omega) aQ;simpa only[Dw,c,if_true] using this)
     refine KR (IY L g) fun v X h=>⟨h.1,?_⟩;simp only[Dw,ap,if_true];exact h.2
    ·have aR:mk i=false:=by simpa using ap
     rw[if_neg ap] at u;obtain⟨o1,bg,ag⟩:=y.Lk i f ay aR;obtain rfl:o1=o:=bu (bg.symm.trans K);have bs:∃ v,Bg P o1 (Ar l.toArray us a i) w v∧Bg P o1 (Ar l.toArray us a i) w' v∧(F.contains i=true→∀ x,C x→Bg P o1 (Ar l.toArray us a i) x v):=by
      by_cases B:F.contains i=true
      ·rw[if_pos B] at u;obtain⟨v,g1,_⟩:=u;exact⟨v,D1 ag (g1 w ⟨⟨w,hC w (bw _ w)⟩,rfl⟩),D1 ag (g1 w' ⟨⟨w',hC w' R⟩,rfl⟩),fun _ x hx=>D1 ag (g1 x ⟨⟨x,hx⟩,rfl⟩)⟩
      ·rw[if_neg B] at u;obtain⟨v,g1,_⟩:=u;exact⟨v,D1 ag (g1 w ⟨⟨w,bw _ w⟩,rfl⟩),D1 ag (g1 w' ⟨⟨w',R⟩,rfl⟩),fun h=>absurd h B⟩
     obtain⟨v,q0,q1,qf⟩:=bs;refine IY L ?_;unfold Bg at q1 q0;unfold Bd;rw[q1];refine⟨bw _ _,?_⟩;simp only[Dw,aR,bN,if_false,if_true];intro o2 bh;obtain rfl:o2=o1:=bu (bh.symm.trans K);have aO:=E7 z K f (br _) (bI f) (bI f) (br _) (us:=us) (vs:=fun j=>if j=i then v else vs j) (aX v);refine⟨?_,fun B x aF=>?_⟩
     ·unfold Bg;rw[←aO];exact q0
     ·have:=qf B x aF;unfold Bg at this ⊢;rw[←aO];exact this
   unfold wpOp;simp only[K,bq,if_true];refine .inl (Hr a1 hg fun v X hp=>ih _ _ _ ?_ (M.set p f) (fun q W=>?_) ⟨fun j=>if j=i then v else vs j,?_,R.trans (hp.1.mono R.size),fun j c d=>?_⟩)
   ·have:=IA ao az (n:=n) f;omega
   ·rw[Dk ao,if_neg (by rintro rfl;exact ay W)];exact N q W
   ·have a0:Av l.toArray i=o.dst:=by simp[Av,K]
    rw[Jq f ao az hd,a0]
   ·by_cases e:j=i
    ·subst e;exact hp.2
    ·rw[Dk ao,if_neg e] at d;have ah:=ai j c d;have a9:∀ q,BH l.toArray j q=true→q≠i:=fun q W=>by
      rintro rfl;have:=aE M j q c d W;rw[az] at this;cases this
     unfold Dw at ah ⊢;split
     ·rename_i aA;rw[if_pos aA] at ah;simp only[if_neg e];exact hV _ _ _ _ ah hp.1
     ·rename_i aA;rw[if_neg aA] at ah;intro oj aS;have a2:=E7 z aS c (bI c) (br _) (bI c) (br _) (us:=vs) (vs:=fun j=>if j=i then v else vs j) (fun q W=>by simp only[if_neg (a9 q W)]);have:=ah oj aS;unfold Bg at this ⊢;rw[←a2];simp only[if_neg e];exact this
def AS(C:bm→Prop)(n:Nat)(S F:List Nat)(M:Mk)(p:∀ w',Bl w w'→C w')(B:Kv M)
  (H:AQ C P l.toArray S F (AP M) (AZ M) w (fun os vs A=>∀ w',Bl w w'→(∀ j f,j<n→M.lookup j=Z f→f (vs j) w')→A7 C P A os w' (Q .normal A)) 0 (l.take n) [] (fun _=>b7) a)(y:P.follows .mixedOrders=true:=by kernel_rfl)(o:n=l.toArray.size:=by kernel_rfl)(u:CO l.toArray n a.tmps.size=true:=by kernel_rfl)(D:Lx l.toArray n S F (AP M)=true:=by kernel_rfl):
  (ch id l.toArray true).wp P Q a w:=by
 obtain⟨s,r⟩:=Q4 D;have c:∀ i:Nat,(bz l.toArray.size false).getD i false=false:=fun i=>bT _ _
 have L:∀ m,Cq (bz l.toArray.size false) m=m:=fun m=>by
  induction m with
  |zero=>rfl
  |succ m g=>
   unfold Cq;rw[c,g];simp
 have N:ce .any l.toArray n (bz l.toArray.size false):=
  ⟨by simp,fun j W _ b=>(by rw[c] at b;cases b),fun t _ K=>cl (by simpa using K) (bT _ _)⟩
 have z:∀ m,a=Ba l.toArray (bz l.toArray.size false) (fun _=>b7) a m:=fun m=>by
  induction m with
  |zero=>rfl
  |succ m g=>
   unfold Ba;rw[c];simpa using g
 have q:(fun(os:List b0) (vs:Nat→bA) (A:Act)=>∀ w',Bl w w'→(∀ j f,j<n→M.lookup j=Z f→f (vs j) w')→A7 C P A os w' (Q .normal A))=(fun os vs A=>∀ w',Bl w w'→(∀ j,j<n→AP M j=true→AZ M j (vs j) w')→A7 C P A os w' (Q .normal A)):=by
  funext os vs A;refine forall_congr fun w'=>?_
  refine forall_congr fun k=>?_
  refine propext ⟨fun h e=>h fun j f d b=>?_,fun h e=>h fun j d x=>?_⟩
  ·have:=e j d (by simp[AP,b]);simpa[AZ,b] using this
  ·unfold AP at x;unfold AZ;cases b:M.lookup j with
   |none=>trivial
   |some f=>exact e j f d b
 rw[q] at H;refine wp_region_any y ?_;have:=MU (P:=P) (Q:=Q) (a:=a) p u o r (fun i v w' R h k=>by
  unfold AZ at*;cases b:M.lookup i with
  |none=>trivial
  |some f=>
   rw[b] at h;exact Ly B b v w' R h k) H n (bz l.toArray.size false) a {w with drawn:=w.drawn+1} (L n) N (fun i _=>c i) ⟨fun _=>b7,z n,(bw _ w).drew,fun i _ b=>(by rw[c] at b;cases b)⟩
 rw[o] at this;exact this
end
section
variable {C:bm→Prop} {S F:List Nat} {M:Mk} {E:List b0→(Nat→bA)→Act→Prop} {i k:Nat} {o:b0} {rest os:List b0} {vs:Nat→bA} {A:Act}
def An(b:S.contains i=false)(d:AP M i=false)(c:F.contains i=false)(h:∀ K:Act→Prop,(∀ a,AQ C P ops S F (AP M) (AZ M) w E (i+1) (rest.take k) os vs a→K a)→o.quiet P A (fun w'=>∃ p:Ak w,w'=p.W) K):AQ C P ops S F (AP M) (AZ M) w E i ((o::rest).take (k+1)) os vs A:=by
 rw[bR];simp only[AQ,b,d,c,bN,if_false];exact h _ fun _ h=>h
def Bi(b:S.contains i=false)(d:AP M i=false)(c:F.contains i=true)(h:∀ K:Act→Prop,(∀ a,AQ C P ops S F (AP M) (AZ M) w E (i+1) (rest.take k) os vs a→K a)→o.quiet P A (fun w'=>∃ p:FI C,w'=p.W) K):AQ C P ops S F (AP M) (AZ M) w E i ((o::rest).take (k+1)) os vs A:=by
 rw[bR];simp only[AQ,b,d,c,bN,if_false,if_true];exact h _ fun _ h=>h
def AH(b:S.contains i=true)(h:AQ C P ops S F (AP M) (AZ M) w E (i+1) (rest.take k) (os++ [o]) vs A):AQ C P ops S F (AP M) (AZ M) w E i ((o::rest).take (k+1)) os vs A:=by
 rw[bR];simp only[AQ,b,if_true];exact h
def AR(h:E os vs A):AQ C P ops S F (AP M) (AZ M) w E i (rest.take 0) os vs A:=by
 rw[List.take_zero];exact h
def A9{f:bA→bm→Prop}(h:S.contains i=false)(c:M.lookup i=Z f)(q:∀ w',Bl w w'→(∀ j g,M.lookup j=Z g→By ops i j→g (vs j) w')→Bd P o A w' (fun v e=>Bl w' e∧f v e))
  (s:∀ v w',Bl w w'→f v w'→AQ C P ops S F (AP M) (AZ M) w E (i+1) (rest.take k) os (fun j=>if j=i then v else vs j) (A.put o.dst v)):AQ C P ops S F (AP M) (AZ M) w E i ((o::rest).take (k+1)) os vs A:=by
 rw[bR];have r:AP M i=true:=by simp[AP,c]
 simp only[AQ,h,r,bN,if_false,if_true];refine⟨fun w' b m=>?_,fun v w' b t=>s v w' b (by simpa[AZ,c] using t)⟩;have:=q w' b (fun j g d p=>by
  have:=m j (by simp[AP,d]) p;simpa[AZ,d] using this)
 simpa[AZ,c] using this
def AI{K:bm→Prop}{w':bm}(c:(cb A.eval o).run P w=.ok .skip w')(b:C w')(h:A7 C P A os w' K):A7 C P A (o::os) w K:=⟨w',c,b,h⟩
end
end
def Dj(w:bm)(L:List Nat)(W:bm):Prop:=∀ b∈L,W.heap[b]? =w.heap[b]?
section
variable {w W:bm} {L:List Nat}
def LP(c:∀ b∈L,b<w.heap.size):∀ w',Bl w w'→Dj w L w':=fun _ a b d=>a.block b (c b d)
def Dj.set(h:Dj w L W){b o:Nat}(d:b∉L)(v:bA):Dj w L (W.setCell ⟨b,o,O⟩ v):=fun c a=>(Below.heap_setCell _ _ _ _ (by rintro rfl;exact d a)).trans (h c a)
def Dj.BG(h:Dj w L W){a:bm}(d:∀ b∈L,a.heap[b]? =W.heap[b]?):Dj w L a:=fun b c=>(d b c).trans (h b c)
def FI.cell(p:FI (Dj w L)){b o:Nat}(a:b∈L):p.W.cell? ⟨b,o,O⟩=w.cell? ⟨b,o,O⟩:=by
 unfold cv;rw[p.h b a]
instance :Inhabited (FI (Dj w L)):=⟨⟨w,fun _ _=>rfl⟩⟩
end
end MC
namespace MM
structure Rel(w w' w'':bm):Prop where
 os:w''.os=w'.os
 tape:w''.tape=w'.tape
 output:w''.output=w'.output
 size:w'.heap.size≤w''.heap.size
 block:∀ b,b<w'.heap.size→w''.heap[b]? =w'.heap[b]?∨(w.heap.size≤b∧∃ es clk,w'.heap[b]? =Z (.map es clk))
def Rel.C9{w w' a:bm}(h:Bl w' a):Rel w w' a:=⟨h.os,h.tape,h.output,h.size,fun b c=>.inl (h.block b c)⟩
def Rel.below{w w' e:bm}(a:Bl w w')(h:Rel w w' e):Bl w e:=
 ⟨h.os.trans a.os,h.tape.trans a.tape,h.output.trans a.output,Nat.le_trans a.size h.size,fun b d=>by
  rcases h.block b (b1 d a.size) with c|⟨c,_⟩
  ·exact c.trans (a.block b d)
  ·omega⟩
section
variable {P:b8} {id:Nat} {l:List b0} {Q:Exit→Act→bm→Prop} {a:Act} {w:bm} {ops:Array b0} {n m:Nat}
def LW(y:CO l.toArray n a.tmps.size=true)(hr:GV l.toArray n=true)
  (V:Nat→(Nat→bA)→bm→Prop) (C:(Nat→Bool)→(Nat→bA)→bm→Prop)
  (az:∀ i vs vs' w',i<n→(∀ j,j=i∨By l.toArray i j→vs j=vs' j)→V i vs w'→V i vs' w')
  (hV:∀ i vs w' p,i<n→V i vs w'→Rel w w' p→V i vs p)
  (hR:∀ w' p,Bl w w'→Rel w w' p→Bl w p)
  (aQ:∀ i o,l[i]? =Z o→i<n→∀ (L:Nat→Bool) vs w',Bl w w'→L i=false→(∀ j,By l.toArray i j→L j=true)→(∀ j k,j<n→L j=true→By l.toArray j k→L k=true)→(∀ j,By l.toArray i j→V j vs w')→C L vs w'→
   Bd P o (Ar l.toArray vs a n) w' (fun v p=>Rel w w' p∧V i (fun j=>if j=i then v else vs j) p∧C (fun j=>if j=i then true else L j) (fun j=>if j=i then v else vs j) p))
  (hend:∀ (L:Nat→Bool) vs w',Bl w w'→(∀ i,i<n→L i=true)→(∀ i,i<n→V i vs w')→C L vs w'→wpList P l.toArray Q (l.drop n) (Ar l.toArray vs a n) w'):
  ∀ (k:Nat) (listed:Array Bool) (b:Act) (w':bm),Cq listed n=k→ce .any l.toArray n listed→
   (∃ vs,b=Ba l.toArray listed vs a n∧Bl w w'∧(∀ i,i<n→listed.getD i false=true→V i vs w')∧C (fun i=>listed.getD i false) vs w')→wpAny P .any l.toArray Q (k+(l.toArray.size-n)) listed b w':=by
 obtain⟨hn,aO,E⟩:=DM y;have W:∀ j k,j<n→k<n→j≠k→∀ t,Av l.toArray j=Z t→Av l.toArray k≠Z t:=fun j k c hk aI t ht=>by
  obtain⟨o,H⟩:=E k hk;exact(H.apart j c aI t ht).1
 simp only[GV,Bool.and_eq_true,Bool.or_eq_true,decide_eq_true_eq] at hr;obtain⟨aL,aM⟩:=hr;intro k
 induction k with
 |zero=>
  rintro listed b w' hu r ⟨vs,rfl,D,N,ab⟩;have u:=Ie hu;have aG:listed=bz n true++bz (l.toArray.size-n) false:=by
   apply Array.ext
   ·simp only[Array.size_append,Array.size_replicate,r.size];omega
   ·intro i h1 h2;have aR:=r.size;by_cases d:i<n
    ·have:=u i d;simp only[cy,h1,dif_pos] at this;rw[Array.getElem_append_left (by simpa using d)];simpa using this
    ·have:=r.tail i (by omega) (by omega);simp only[cy,h1,dif_pos] at this;rw[Array.getElem_append_right (by simpa using d)];simpa using this
  have ag:(l.drop n).length=l.toArray.size-n:=by simp
  have:=wpAny_of_seq (P:=P) (md:=.any) (ops:=l.toArray) (Q':=Q) (l.drop n) n listed (Ar l.toArray vs a n) w' (fun j=>by simp[List.getElem?_drop]) (by rw[ag,aG];exact aM) (hend _ vs w' D (fun i d=>u i d) (fun i d=>N i d (u i d)) ab);rw[ag] at this;rw[cw,Jp n u];exact this
 |succ k ih=>
  rintro listed b w' hu r ⟨vs,rfl,D,N,ab⟩;obtain⟨R,aj,aT,aH⟩:=I9 (listed:=listed) (n:=n) (by omega);have aR:=r.size;have aq:listed.getD R true=false:=cl (by omega) aT;have an:R∈cc .any l.toArray listed:=by
   obtain⟨o,H⟩:=E R aj;exact bY.2 ⟨aq,o,H.at_,fun e he S=>aH e.on (H.back e he S)⟩
  rw[show k+1+(l.toArray.size-n)=(k+(l.toArray.size-n))+1 by omega];refine⟨fun h=>(by rw[h] at an;cases an),fun i d=>?_⟩;obtain⟨aC,o',B,u⟩:=bY.1 d;have s:i<n:=by
   rcases cx i n with h|h
   ·exact h
   ·rcases aL with e|⟨⟨e,hs⟩,hc⟩
    ·have:=(a4.1 B).1;omega
    ·exact absurd d (tail_waits hs hc e r _ R rfl aj aq i h)
  obtain⟨o,H⟩:=E i s;obtain rfl:o=o':=bu (H.at_.symm.trans B);have K:i<listed.size:=by have:=(a4.1 B).1;omega
  have F:listed.getD i false=false:=ci aC;have X:∀ j,BH l.toArray i j=true→listed.getD j false=true:=fun j c=>by
   obtain⟨e,he,S,rfl⟩:=(G6 H.at_).1 c;exact u e he S
  have ah:∀ j,By l.toArray i j→listed.getD j false=true:=fun j c=>by
   cases c with
   |base h=>exact X j h
   |step h h2=>exact h2.listed y r (by have:=CD y s h;omega) (X _ h)
  have aU:bO o (yielded l.toArray (Ba l.toArray listed vs a n).tmps)=true:=by simp[bO,H.Jh]
  have aB:cb (Ba l.toArray listed vs a n).eval o=cb (Ar l.toArray vs a n).eval o:=by
   refine execOp_congr o (fun cs bb=>Region.noSelect_spec aO i o cs bb H.at_) (fun x hx=>?_);cases x with
   |tmp t=>
    have ak:t∈o.looksAt l.toArray:=by
     unfold Oper.looksAt;exact List.mem_append_left _ (List.mem_filterMap.2 ⟨.tmp t,by simpa using hx,rfl⟩)
    obtain⟨la,aF,aJ⟩:=Jo (ops:=l.toArray) (vs:=vs) (a:=a) n;rw[aJ];by_cases ai:∃ j,j<n∧Av l.toArray j=Z t
    ·obtain⟨j,c,z⟩:=ai;have aD:j≠i:=by
      rintro rfl;have:o.dst=Z t:=by simpa[Av,H.at_] using z
      exact H.own t this ak
     have ao:t<a.tmps.size:=by
      obtain⟨oj,Hj⟩:=E j c;exact Hj.low t (by simpa[Av,Hj.at_] using z)
     rw[Hz c (X j ((H.apart j c aD t z).2 ak)) z ao W,Hz c (aF j c) z ao W]
    ·have al:∀ j,j<n→Av l.toArray j≠Z t:=fun j c e=>ai ⟨j,c,e⟩;rw[Gy n (fun j c _=>al j c),Gy n (fun j c _=>al j c)]
   |const v=>rfl
   |global g=>rfl
   |func f=>rfl
  have aP:=aQ i o (by simpa using H.at_) s (fun j=>listed.getD j false) vs w' D F (fun j c=>ah j c) (fun j k c A ha=>ha.listed y r c A) (fun j c=>N j (by have:=c.lt y s;omega) (ah j c)) ab;unfold wpOp;simp only[B,aU,if_true];refine .inl (Hr aB aP fun v p M=>ih _ _ _ ?_ (r.set d s) ⟨fun j=>if j=i then v else vs j,?_,hR _ _ D M.1,fun j c A=>?_,?_⟩)
  ·have:=IA K F (n:=n) s;omega
  ·have aA:Av l.toArray i=o.dst:=by simp[Av,B]
   rw[Jq s K F W,aA]
  ·by_cases e:j=i
   ·subst e;exact M.2.1
   ·rw[Dk K,if_neg e] at A;refine hV j _ w' p c (az j vs _ w' c (fun q hq=>?_) (N j c A)) M.1;have aK:q≠i:=by
     rcases hq with rfl|hq
     ·exact e
     ·rintro rfl;have:=hq.listed y r c A;rw[F] at this;cases this
    rw[if_neg aK]
  ·have e:(fun j=>(listed.setIfInBounds i true).getD j false)=(fun j=>if j=i then true else listed.getD j false):=by
    funext j;rw[Dk K]
   rw[e];exact M.2.2
def N5(n:Nat)(B:P.follows .mixedOrders=true)(g:CO l.toArray n a.tmps.size=true)(s:GV l.toArray n=true)
  (V:Nat→(Nat→bA)→bm→Prop) (c:(Nat→Bool)→(Nat→bA)→bm→Prop)
  (r:∀ i vs vs' w',i<n→(∀ j,j=i∨By l.toArray i j→vs j=vs' j)→V i vs w'→V i vs' w')
  (q:∀ i vs w' b,i<n→V i vs w'→Rel w w' b→V i vs b)
  (p:∀ w' b,Bl w w'→Rel w w' b→Bl w b)
  (u:∀ i o,l[i]? =Z o→i<n→∀ (L:Nat→Bool) vs w',Bl w w'→L i=false→(∀ j,By l.toArray i j→L j=true)→(∀ j k,j<n→L j=true→By l.toArray j k→L k=true)→(∀ j,By l.toArray i j→V j vs w')→c L vs w'→
   Bd P o (Ar l.toArray vs a n) w' (fun v b=>Rel w w' b∧V i (fun j=>if j=i then v else vs j) b∧c (fun j=>if j=i then true else L j) (fun j=>if j=i then v else vs j) b))
  (h:c (fun _=>false) (fun _=>b7) {w with drawn:=w.drawn+1})
  (hend:∀ (L:Nat→Bool) vs w',Bl w w'→(∀ i,i<n→L i=true)→(∀ i,i<n→V i vs w')→c L vs w'→wpList P l.toArray Q (l.drop n) (Ar l.toArray vs a n) w'):
  (ch id l.toArray true).wp P Q a w:=by
 have y:=(DM g).1;have d:∀ i:Nat,(bz l.toArray.size false).getD i false=false:=fun i=>bT _ _
 have z:Cq (bz l.toArray.size false) n=n:=by
  clear g s r q u hend y h p
  induction n with
  |zero=>rfl
  |succ n x=>
   unfold Cq;rw[d,x];simp
 have A:ce .any l.toArray n (bz l.toArray.size false):=
  ⟨by simp,fun j D _ f=>(by rw[d] at f;cases f),fun t _ C=>cl (by simpa using C) (bT _ _)⟩
 refine wp_region_any B ?_;have:=LW (P:=P) (Q:=Q) (w:=w) g s V c r q p u hend n (bz l.toArray.size false) a {w with drawn:=w.drawn+1} z A ⟨fun _=>b7,?_,(bw _ w).drew,fun i _ f=>(by rw[d] at f;cases f),?_⟩
 ·rw[show n+(l.toArray.size-n)=l.toArray.size by omega] at this;exact this
 ·clear z A g s r q u hend y h p
  induction n with
  |zero=>rfl
  |succ n x=>
   unfold Ba;rw[d];simpa using x
 ·have e:(fun i=>(bz l.toArray.size false).getD i false)=fun _=>false:=funext fun i=>d i
  rw[e];exact h
end
end MM
namespace MM
section
variable {κ:cd}
def O7{k:Int}{v:bA}{d:Nat}:∀ (a:List b9) (i:Nat),bt (.int κ) (I κ k) a i=Z O→∃ p,bt (.int κ) (I κ k) (a++ [⟨I κ k,v,d⟩]) i=Z (Z (p,v))
 | [],i,_=>⟨i,by simp[bt,bV]⟩
 |e::a,i,h=>by
  simp only[bt,b5] at h ⊢;cases c:bV (.int κ) (I κ k) e.key with
  |none=>rw[c] at h;simp at h
  |some b=>
   cases b with
   |true=>rw[c] at h;simp at h
   |false=>
    rw[c] at h;exact O7 a (i+1) h
def O8{k f:Int}{v u:bA}{d p:Nat}:∀ (a:List b9) (i:Nat),bt (.int κ) (I κ k) a i=Z (Z (p,u))→bt (.int κ) (I κ k) (a++ [⟨I κ f,v,d⟩]) i=Z (Z (p,u))
 | [],i,h=>by simp[bt] at h
 |e::a,i,h=>by
  simp only[bt,b5] at h ⊢;cases c:bV (.int κ) (I κ k) e.key with
  |none=>rw[c] at h;simp at h
  |some b=>
   cases b with
   |true=>rw[c] at h;exact h
   |false=>
    rw[c] at h;exact O8 a (i+1) h
def O6{k f:Int}{v:bA}{g:Nat}(d:k≠f):∀ (a:List b9) (i:Nat),bt (.int κ) (I κ k) a i=Z O→bt (.int κ) (I κ k) (a++ [⟨I κ f,v,g⟩]) i=Z O
 | [],i,_=>by simp[bt,bV,beq_false_of_ne d]
 |e::a,i,h=>by
  simp only[bt,b5] at h ⊢;cases c:bV (.int κ) (I κ k) e.key with
  |none=>rw[c] at h;simp at h
  |some b=>
   cases b with
   |true=>rw[c] at h;simp at h
   |false=>
    rw[c] at h;exact O6 d a (i+1) h
end
section
variable {P:b8} {w:bm} {b:Nat} {es:Array b9} {clk:Nat} {κ:cd} {k:Int} {v:bA} {mty kt et:cu}
def YC(e:P.underlying mty=Z (.map kt et))(c:P.underlying kt=Z (.int κ))(a:w.heap[b]? =Z (.map es clk))(h:bt (.int κ) (I κ k) es.toList 0=Z O):
  (cq mty (.map (Z b)) (I κ k) v).run P w=.ok () {w with heap:=w.heap.setIfInBounds b (.map (es.push ⟨I κ k,v,clk⟩) (clk+1))}:=by
 have d:(Instr.checkKey false 10000 kt (I κ k)).run P w=.ok () w:=MapKept.run_checkKey (k:=I κ k) c (by simp[MapKept.IsKey]) false 9999;simp[cq,run_underlying e,MapKept.run_getObj_map a,d,MapKept.run_findKey c h,MapKept.run_setObj_map _ a,cm]
end
@[reducible] def Src:=bA ⊕ Nat
def srcV(vs:Nat→bA):Src→bA
 | .inl v=>v
 | .inr j=>vs j
structure N7(l:List b0)(κ:cd)(mty:cu)(n m0:Nat)(t0:Tmp)(e:Nat×Int×Src)(o:b0)(y:Operand):Prop where
 at_:l[e.1]? =Z o
 lt:e.1<n
 dst:o.dst=O
 op:o.op=.insert mty (.tmp t0) (.const (I κ e.2.1)) y
 m0:BH l.toArray e.1 m0=true
 src:match e.2.2 with
  | .inl v=>∀ A:Act,A.eval y=v
  | .inr j=>∃ t,y=.tmp t∧Av l.toArray j=Z t∧BH l.toArray e.1 j=true
section
variable {P:b8} {id:Nat} {l:List b0} {Q:Exit→Act→bm→Prop} {a:Act} {w:bm} {n m0:Nat} {t0:Tmp} {κ:cd} {mty kt et:cu} {K:List (Nat×Int×Src)} {F:Nat→bA→bm→Prop}
def Rf(w:bm)(κ:cd)(m0:Nat)(K:List (Nat×Int×Src))(L:Nat→Bool)(vs:Nat→bA)(w':bm):Prop:=
 L m0=true→∃ (b:Nat) (c:Array b9) (d:Nat),vs m0=.map (Z b)∧w.heap.size≤b∧w'.heap[b]? =Z (.map c d)∧
  (∀ e∈K,L e.1=true→∃ p,bt (.int κ) (I κ e.2.1) c.toList 0=Z (Z (p,srcV vs e.2.2)))∧
  ∀ k,(∀ e∈K,e.2.1=k→L e.1=false)→bt (.int κ) (I κ k) c.toList 0=Z O
def Nq{e:Nat×Int×Src}{o:b0}{y:Operand}(c:N7 l κ mty n m0 t0 e o y){vs vs':Nat→bA}(h:∀ j,BH l.toArray e.1 j=true→vs j=vs' j):srcV vs e.2.2=srcV vs' e.2.2:=by
 obtain⟨i,k,s⟩:=e;cases s with
 |inl v=>rfl
 |inr j=>
  obtain⟨t,_,_,b⟩:=c.src;exact h j b
def ZN(n m0:Nat)(t0:Tmp)(κ:cd)(mty kt et:cu)(K:List (Nat×Int×Src))(F:Nat→bA→bm→Prop)
  (hm:P.follows .mixedOrders=true) (hh:CO l.toArray n a.tmps.size=true) (hr:GV l.toArray n=true)
  (aY:P.underlying mty=Z (.map kt et)) (aU:P.underlying kt=Z (.int κ))
  (h0:Av l.toArray m0=Z t0) (aA:m0<n) (aN:∃ o,l[m0]? =Z o∧o.op=.makeMap mty O)
  (hK:∀ e∈K,∃ o y,N7 l κ mty n m0 t0 e o y) (aT:(K.map (·.2.1)).Nodup) (aS:(K.map (·.1)).Nodup)
  (hFf:∀ i v w',(i=m0∨i∈K.map (·.1))→F i v w')
  (aO:∀ i v w' s,F i v w'→Rel w w' s→F i v s)
  (hoth:∀ i o,l[i]? =Z o→i<n→i≠m0→i∉K.map (·.1)→∀ (A:Act) w',Bl w w'→
   (∀ j t,Av l.toArray j=Z t→j<n→By l.toArray i j→F j (A.eval (.tmp t)) w')→(∀ t,(∀ j,j<n→Av l.toArray j≠Z t)→A.eval (.tmp t)=a.eval (.tmp t))→
   Bd P o A w' (fun v s=>Bl w' s∧F i v s))
  (hend:∀ (vs:Nat→bA) w' (g:Nat) (r:Array b9) (m:Nat),Bl w w'→(∀ i,i<n→F i (vs i) w')→vs m0=.map (Z g)→w.heap.size≤g→w'.heap[g]? =Z (.map r m)→
   (∀ e∈K,∃ p,bt (.int κ) (I κ e.2.1) r.toList 0=Z (Z (p,srcV vs e.2.2)))→wpList P l.toArray Q (l.drop n) (Ar l.toArray vs a n) w'):
  (ch id l.toArray true).wp P Q a w:=by
 obtain⟨hn,bb,aD⟩:=DM hh;have hd:∀ j k,j<n→k<n→j≠k→∀ t,Av l.toArray j=Z t→Av l.toArray k≠Z t:=fun j k d E N t x=>by
  obtain⟨o,H⟩:=aD k E;exact(H.apart j d N t x).1
 have aj:∀ (vs:Nat→bA) j t,j<n→Av l.toArray j=Z t→(Ar l.toArray vs a n).eval (.tmp t)=vs j:=fun vs j t d x=>by
  obtain⟨la,aE,aq⟩:=Jo (ops:=l.toArray) (vs:=vs) (a:=a) n;obtain⟨oj,Hj⟩:=aD j d;rw[aq];exact Hz d (aE j d) x (Hj.low t (by simpa[Av,Hj.at_] using x)) hd
 have aM:∀ (vs:Nat→bA) t,(∀ j,j<n→Av l.toArray j≠Z t)→(Ar l.toArray vs a n).eval (.tmp t)=a.eval (.tmp t):=fun vs t x=>by
  obtain⟨la,aE,aq⟩:=Jo (ops:=l.toArray) (vs:=vs) (a:=a) n;rw[aq];exact Gy n (fun j d _=>x j d)
 have aF:m0∉K.map (·.1):=by
  intro aX;obtain⟨e,c,C⟩:=b4.1 aX;obtain⟨o,y,H⟩:=hK e c;have:o.dst=Z t0:=by
   have z:=h0;rw[←C] at z;simpa[Av,H.at_] using z
  rw[H.dst] at this;cases this
 refine N5 n hm hh hr (fun i vs w'=>F i (vs i) w') (Rf w κ m0 K) ?_ ?_ ?_ ?_ ?_ ?_
 ·intro i vs vs' w' _ d h;rw[←d i (.inl rfl)];exact h
 ·intro i vs w' s _ h hrel;exact aO i _ w' s h hrel
 ·intro w' s S hrel;exact Rel.below S hrel
 ·intro i o ho hi L vs w' S ae aQ al hV hI;have ba:l.toArray[i]? =Z o:=by simpa using ho
  by_cases aa:i∈K.map (·.1)
  ·obtain⟨e,c,rfl⟩:=b4.1 aa;obtain⟨o2,y,H⟩:=hK e c;obtain rfl:o2=o:=bu (H.at_.symm.trans ho);have aV:L m0=true:=aQ m0 (.base H.m0);obtain⟨g,r,m,C,z,D,X,h5⟩:=hI aV;have aG:bt (.int κ) (I κ e.2.1) r.toList 0=Z O:=h5 _ fun f B E=>by
    have:f=e:=by
     obtain⟨p,R,rfl⟩:=bS c;obtain⟨q,hq,rfl⟩:=bS B;have:=(cn (i:=q) (j:=p) (h₀:=by simpa using hq) (h₁:=by simpa using R) aT).1 (by simpa using E);subst this;rfl
    rw[this];exact ae
   have eA:(Ar l.toArray vs a n).eval (.tmp t0)=.map (Z g):=(aj vs m0 t0 aA h0).trans C;have eV:(Ar l.toArray vs a n).eval y=srcV vs e.2.2:=by
    have hs:=H.src;obtain⟨ei,ek,aL⟩:=e;cases aL with
    |inl v=>exact hs _
    |inr j=>
     obtain⟨t,rfl,x,hw⟩:=hs;exact aj vs j t (by have:=CD hh hi hw;omega) x
   have N:m0≠e.1:=fun h=>aF (h ▸ aa);have aH:=YC (P:=P) (w:=w') (k:=e.2.1) (v:=srcV vs e.2.2) aY aU D aG;have ap:g<w'.heap.size:=(a4.1 D).1;generalize hW:({w' with heap:=w'.heap.setIfInBounds g (.map (r.push ⟨I κ e.2.1,srcV vs e.2.2,m⟩) (m+1))}:bm)=s at aH;have am:(cb (Ar l.toArray vs a n).eval o2).run P w'=.ok .skip s:=by
    simp only[cb,H.op,Sem.run_bind];rw[eA,eV];rw[show (Ar l.toArray vs a n).eval (.const (I κ e.2.1))=I κ e.2.1 from rfl];rw[aH];rfl
   unfold Bd;rw[am];refine⟨?_,hFf _ _ _ (.inr aa),?_⟩
   ·rw[←hW];refine⟨rfl,rfl,rfl,by simp,fun b a8=>?_⟩;by_cases e0:b=g
    ·subst e0;exact .inr ⟨z,r,m,D⟩
    ·refine .inl ?_;simp only[bQ];rw[if_neg (Ne.symm e0)]
   ·intro _;have a2:∀ f∈K,L f.1=true→srcV (fun j=>if j=e.1 then b7 else vs j) f.2.2=srcV vs f.2.2:=fun f B V=>by
     obtain⟨o',y',u⟩:=hK f B;refine Nq u fun j d=>?_
     rw[if_neg];rintro rfl;have:=al _ _ u.lt V (.base d);rw[ae] at this;cases this
    have a3:srcV (fun j=>if j=e.1 then b7 else vs j) e.2.2=srcV vs e.2.2:=by
     refine Nq H fun j d=>?_
     rw[if_neg];have:=CD hh hi d;omega
    refine⟨g,r.push ⟨I κ e.2.1,srcV vs e.2.2,m⟩,m+1,?_,z,?_,?_,?_⟩
    ·exact(if_neg N).trans C
    ·rw[←hW];simp only[bQ,if_pos ap,if_true]
    ·intro f B V;rw[ck];by_cases e1:f.1=e.1
     ·have:f=e:=by
       obtain⟨p,R,rfl⟩:=bS c;obtain⟨q,hq,rfl⟩:=bS B;have:=(cn (i:=q) (j:=p) (h₀:=by simpa using hq) (h₁:=by simpa using R) aS).1 (by simpa using e1);subst this;rfl
      subst this;rw[a3];exact O7 _ _ aG
     ·replace V:L f.1=true:=(if_neg e1).symm.trans V;obtain⟨p,R⟩:=X f B V;rw[a2 f B V];exact⟨p,O8 _ _ R⟩
    ·intro k E;rw[ck];refine O6 ?_ _ _ (h5 k fun f B ao=>?_)
     ·rintro rfl;have:=E e c rfl;simp at this
     ·have:=E f B ao;by_cases W:f.1=e.1
      ·exact absurd ((if_pos W).symm.trans this) (by simp)
      ·exact(if_neg W).symm.trans this
  ·by_cases ag:i=m0
   ·subst ag;obtain⟨o2,aZ,a0⟩:=aN;obtain rfl:o2=o:=bu (aZ.symm.trans ho);have am:(cb (Ar l.toArray vs a n).eval o2).run P w'=.ok (.value (.map (Z w'.heap.size))) (w'.alloc (.map #[] 0)):=by
     simp[-ct,cb,a0,run_makeMap_plain,cm]
    unfold Bd;rw[am];refine⟨Rel.C9 ((bw _ _).alloc (br _) _),hFf _ _ _ (.inl rfl),fun _=>⟨w'.heap.size,#[],0,if_pos rfl,S.size,by simp[-ct,World.alloc],fun e c M=>?_,fun k _=>rfl⟩⟩;exfalso;obtain⟨o',y',u⟩:=hK e c;have N:e.1≠i:=fun h=>aF (h ▸ b4.2 ⟨e,c,rfl⟩);replace M:L e.1=true:=(if_neg N).symm.trans M;have:=al _ _ u.lt M (.base u.m0);rw[ae] at this;cases this
   ·refine KR (hoth i o ho hi ag aa (Ar l.toArray vs a n) w' S (fun j t x d ha=>by rw[aj vs j t d x];exact hV j ha) (aM vs)) fun v s h=>?_
    refine⟨Rel.C9 h.1,by simp only[if_true];exact h.2,fun M=>?_⟩;replace M:L m0=true:=(if_neg (Ne.symm ag)).symm.trans M;obtain⟨g,r,m,C,z,D,X,h5⟩:=hI M;have ap:g<w'.heap.size:=(a4.1 D).1;refine⟨g,r,m,(if_neg (Ne.symm ag)).trans C,z,(h.1.block _ ap).trans D,fun e c ah=>?_,fun k E=>h5 k fun e c ao=>?_⟩
    ·obtain⟨o',y',u⟩:=hK e c;have N:e.1≠i:=fun h=>aa (h ▸ b4.2 ⟨e,c,rfl⟩);replace ah:L e.1=true:=(if_neg N).symm.trans ah;obtain⟨p,R⟩:=X e c ah;refine⟨p,?_⟩;rw[R,Nq u (vs':=fun j=>if j=i then v else vs j)];intro j d;rw[if_neg];rintro rfl;have:=al _ _ u.lt ah (.base d);rw[ae] at this;cases this
    ·have:=E e c ao;by_cases W:e.1=i
     ·exact absurd ((if_pos W).symm.trans this) (by simp)
     ·exact(if_neg W).symm.trans this
 ·intro h;cases h
 ·intro L vs w' S hL hV hI;obtain⟨g,r,m,C,z,D,X,_⟩:=hI (hL m0 aA);refine hend vs w' g r m S hV C z D fun e c=>X e c ?_
  obtain⟨o',y',u⟩:=hK e c;exact hL _ u.lt
end
end MM
end Go.Proofs.YtiepijihpgijbaaGreatDoor
