import Derived.Test.YtiepijihpgijbaaGreatDoorQ10
set_option maxHeartbeats 2000000
set_option maxRecDepth 100000
set_option linter.all false
open Go.Value renaming pointer→G,int→I,slice→Y
open Option renaming some→Z,none→O
open Go.IntKind renaming u8→U,i64→J
open Go renaming World→aa,Calls→ab,Addr→af
open List renaming setIfInBounds_toArray→ac,set_cons_zero→ad,set_cons_succ→ae,drop_succ_cons→ah,mem_singleton→ai,drop_zero→aj,drop_nil→ak
open Go.RowKit.Below renaming refl→ag
namespace Go.Proofs.YtiepijihpgijbaaGreatDoor
open Go.RowKit Tryz
def TL(w:aa)(g:Nat)(E D:Int)(R:List Int)(x:Ai)(L F:Value)(k a b:Int)(h:Ao w g E D R x L k a b F)(i:0≤x.a)(j:x.a≤3)(y:0≤x.b)(A:x.b≤3)(n:∀ z∈R,0≤z∧z≤255):
  ab prog 250 #[G (Z ⟨g,0,O⟩)] w fun e w'=>e=.returned (.tuple #[])∧Ao w' g E D (R.set x.a.toNat ((R.getD x.a.toNat 0+R.getD x.b.toNat 0)%256)) x L k a b F∧Upd [g] w w':=by
 have d:=h.CB x.a i j;have m:=h.CB x.b y A;obtain⟨P,c1,t,u,S,Q⟩:=h.cell;have l:=h.lt;have H:=HH h;have B:=E8 n x.a.toNat
 have C:=E8 n x.b.toNat
 clear h n;generalize R.getD x.a.toNat 0=z1 at d B ⊢;generalize R.getD x.b.toNat 0=z2 at m C ⊢;obtain⟨y1,y2⟩:=B;obtain⟨y3,y4⟩:=C;have q1:∀ p:Ak w,p.W.cell? ⟨g,2+x.a.toNat,O⟩=Z (I U z1):=fun p=>(p.h.cell (p:=⟨g,_,O⟩) l).trans d;have q2:∀ p:Ak w,p.W.cell? ⟨g,2+x.b.toNat,O⟩=Z (I U z2):=fun p=>(p.h.cell (p:=⟨g,_,O⟩) l).trans m;have q7:∀ p:Ak w,p.W.cell? ⟨g,7,O⟩=Z (I J x.a):=fun p=>(p.h.cell (p:=⟨g,_,O⟩) l).trans t;have q8:∀ p:Ak w,p.W.cell? ⟨g,8,O⟩=Z (I J x.b):=fun p=>(p.h.cell (p:=⟨g,_,O⟩) l).trans u;go_enter func250,ntmps250;refine BQ 20 [(6,fun v _=>v=G (Z ⟨g,2+x.a.toNat,O⟩)),(15,fun v _=>v=G (Z ⟨g,2+x.b.toNat,O⟩))] ⟨Ch,Ch,trivial⟩ ?_
 iterate 6 (refine AK rfl ?_;intro K hK;go_big_quiet_op;go_big_quiet_on)
 refine Ca rfl (fun w' c V=>?_) ?_
 ·refine AD (f:=280) (al:=[G (Z ⟨g,0,O⟩),I J x.a]) rfl rfl rfl Gm ?_;exact(D3 w' g x.a i j).mono fun e w2 h=>⟨_,h.1,h.2 ▸ ⟨ag _ _,rfl⟩⟩
 intro v w' c r;obtain rfl:=r;clear c w';simp only[FV,ac,ae,ad]
 iterate 8 (refine AK rfl ?_;intro K hK;go_big_quiet_op;go_big_quiet_on)
 refine Ca rfl (fun w' c V=>?_) ?_
 ·refine AD (f:=280) (al:=[G (Z ⟨g,0,O⟩),I J x.b]) rfl rfl rfl Gm ?_;exact(D3 w' g x.b y A).mono fun e w2 h=>⟨_,h.1,h.2 ▸ ⟨ag _ _,rfl⟩⟩
 intro v w' c r;obtain rfl:=r;clear c w';simp only[FV,ac,ae,ad]
 iterate 4 (refine AK rfl ?_;intro K hK;go_big_quiet_op;go_big_quiet_on)
 refine BN ?_;intro w9 q X;simp only[ah,aj,ak];clear X P c1 t u S Q d m q1 q2 q7 q8;have h:=H.o.bel q;have d:=h.CB x.a i j;have fr:=h.frozen (2+x.a.toNat);obtain⟨N,s⟩:=H2 (Upd.below (M:=[g]) q) h;clear h q;go_wp2_with fail
 go_end0
 exact⟨rfl,s.o.I5 _ _ i j,N.o.trans (s.o.below _)⟩
def Uj(w:aa)(g:Nat)(E D:Int)(R:List Int)(x:Ai)(L F:Value)(k a b:Int)(h:Ao w g E D R x L k a b F)(i:0≤x.a)(j:x.a≤3)(y:0≤x.b)(A:x.b≤3)(n:∀ z∈R,0≤z∧z≤255):
  ab prog 258 #[G (Z ⟨g,0,O⟩)] w fun e w'=>e=.returned (.tuple #[])∧Ao w' g E D (R.set x.a.toNat ((R.getD x.a.toNat 0-R.getD x.b.toNat 0)%256)) x L k a b F∧Upd [g] w w':=by
 have d:=h.CB x.a i j;have m:=h.CB x.b y A;obtain⟨P,c1,t,u,S,Q⟩:=h.cell;have l:=h.lt;have H:=HH h;have B:=E8 n x.a.toNat
 have C:=E8 n x.b.toNat
 clear h n;generalize R.getD x.a.toNat 0=z1 at d B ⊢;generalize R.getD x.b.toNat 0=z2 at m C ⊢;obtain⟨y1,y2⟩:=B;obtain⟨y3,y4⟩:=C;have q1:∀ p:Ak w,p.W.cell? ⟨g,2+x.a.toNat,O⟩=Z (I U z1):=fun p=>(p.h.cell (p:=⟨g,_,O⟩) l).trans d;have q2:∀ p:Ak w,p.W.cell? ⟨g,2+x.b.toNat,O⟩=Z (I U z2):=fun p=>(p.h.cell (p:=⟨g,_,O⟩) l).trans m;have q7:∀ p:Ak w,p.W.cell? ⟨g,7,O⟩=Z (I J x.a):=fun p=>(p.h.cell (p:=⟨g,_,O⟩) l).trans t;have q8:∀ p:Ak w,p.W.cell? ⟨g,8,O⟩=Z (I J x.b):=fun p=>(p.h.cell (p:=⟨g,_,O⟩) l).trans u;go_enter func258,ntmps258;refine BQ 20 [(6,fun v _=>v=G (Z ⟨g,2+x.a.toNat,O⟩)),(15,fun v _=>v=G (Z ⟨g,2+x.b.toNat,O⟩))] ⟨Ch,Ch,trivial⟩ ?_
 iterate 6 (refine AK rfl ?_;intro K hK;go_big_quiet_op;go_big_quiet_on)
 refine Ca rfl (fun w' c V=>?_) ?_
 ·refine AD (f:=280) (al:=[G (Z ⟨g,0,O⟩),I J x.a]) rfl rfl rfl Gm ?_;exact(D3 w' g x.a i j).mono fun e w2 h=>⟨_,h.1,h.2 ▸ ⟨ag _ _,rfl⟩⟩
 intro v w' c r;obtain rfl:=r;clear c w';simp only[FV,ac,ae,ad]
 iterate 8 (refine AK rfl ?_;intro K hK;go_big_quiet_op;go_big_quiet_on)
 refine Ca rfl (fun w' c V=>?_) ?_
 ·refine AD (f:=280) (al:=[G (Z ⟨g,0,O⟩),I J x.b]) rfl rfl rfl Gm ?_;exact(D3 w' g x.b y A).mono fun e w2 h=>⟨_,h.1,h.2 ▸ ⟨ag _ _,rfl⟩⟩
 intro v w' c r;obtain rfl:=r;clear c w';simp only[FV,ac,ae,ad]
 iterate 4 (refine AK rfl ?_;intro K hK;go_big_quiet_op;go_big_quiet_on)
 refine BN ?_;intro w9 q X;simp only[ah,aj,ak];clear X P c1 t u S Q d m q1 q2 q7 q8;have h:=H.o.bel q;have d:=h.CB x.a i j;have fr:=h.frozen (2+x.a.toNat);obtain⟨N,s⟩:=H2 (Upd.below (M:=[g]) q) h;clear h q;go_wp2_with fail
 go_end0
 exact⟨rfl,s.o.I5 _ _ i j,N.o.trans (s.o.below _)⟩
def OB{x s:Int}(h:Aw 1 x s=true):1≤x∧x≤2000:=by simp[Aw,Cp,De] at h;exact h
def OC{x s:Int}(h:Aw 3 x s=true):0≤x∧x≤255:=by simp[Aw,Cp,De] at h;exact h
def Ml{x s:Int}(h:Aw 4 x s=true):0≤x∧x≤4095:=by simp[Aw,Cp,De] at h;exact h
def OD{x s:Int}(h:Aw 5 x s=true):1≤x∧x≤64:=by simp[Aw,Cp,De] at h;exact h
def CN{x s:Int}(h:Aw 6 x s=true):0≤x:=by simp[Aw,Cp,De] at h;exact h
def IU{x s:Int}(h:Aw 7 x s=true):0≤x∧x<s:=by simp[Aw,Cp,De] at h;omega
def Cn(w:aa)(c:Option af)(b:List Int):Prop:=∀ k (d:k<b.length),∃ a,c=Z ⟨a,0,O⟩∧a<w.heap.size∧w.cell? ⟨a,k,O⟩=Z (I U b[k])
def C4(w:aa)(g:Nat)(x:Ai)(d:Value)(r:St×Ac)(e:Ending)(w':aa):Prop:=
 e=.returned (.tuple #[])∧∃ c,Ao w' g r.1.pc r.1.left r.1.AG x d r.2.kind r.2.a r.2.b c∧Af U w' w.heap.size c r.2.data∧Upd [g] w w'
def Vw(w:aa)(g:Nat)(c a:Int)(R:List Int)(d i j m:Int)(k:Option af)(l:Nat)(b:List Int)(h:Ao w g c a R ⟨1,d,i,j⟩ (Y k b.length l) 0 0 0 (Y O 0 0))(u:Bb ⟨1,d,i,j⟩ m=true)(s:1≤c)(t:c≤1000000)(q:0≤a)(r:a≤2000)(v:∀ z∈R,0≤z∧z≤255)(x:Cn w k b)(y:b.length≤l):
  ab prog (BZ 1) #[G (Z ⟨g,0,O⟩)] w (C4 w g ⟨1,d,i,j⟩ (Y k b.length l) (As ⟨1,d,i,j⟩ ⟨c,a,R⟩ b)):=by
 have f:Aw 1 d m=true:=AV u 0 1 rfl;replace f:=OB f;exact(Um w g c a R _ _ _ _ _ _ h q r f.1 f.2 s t).mono fun e w' ⟨n,o,p⟩=>⟨n,_,o,Af.nil _ _ _,p⟩
def V8(w:aa)(g:Nat)(d b:Int)(R:List Int)(f a j m:Int)(k:Option af)(l:Nat)(c:List Int)(h:Ao w g d b R ⟨2,f,a,j⟩ (Y k c.length l) 0 0 0 (Y O 0 0))(o:Bb ⟨2,f,a,j⟩ m=true)(y:1≤d)(A:d≤1000000)(t:0≤b)(u:b≤2000)(s:∀ z∈R,0≤z∧z≤255)(v:Cn w k c)(x:c.length≤l):
  ab prog (BZ 2) #[G (Z ⟨g,0,O⟩)] w (C4 w g ⟨2,f,a,j⟩ (Y k c.length l) (As ⟨2,f,a,j⟩ ⟨d,b,R⟩ c)):=by
 have i:Aw 2 f m=true:=AV o 0 2 rfl;replace i:=C0 i;have n:Aw 3 a m=true:=AV o 1 3 rfl;replace n:=OC n;have e:a%256=a:=by omega
 exact(Ud w g d b R _ _ _ _ _ _ h i.1 i.2).mono fun e w' ⟨p,q,r⟩=>⟨p,_,q,Af.nil _ _ _,r⟩
def V9(w:aa)(g:Nat)(c a:Int)(R:List Int)(d f k n:Int)(l:Option af)(m:Nat)(b:List Int)(h:Ao w g c a R ⟨3,d,f,k⟩ (Y l b.length m) 0 0 0 (Y O 0 0))(o:Bb ⟨3,d,f,k⟩ n=true)(y:1≤c)(A:c≤1000000)(t:0≤a)(u:a≤2000)(s:∀ z∈R,0≤z∧z≤255)(v:Cn w l b)(x:b.length≤m):
  ab prog (BZ 3) #[G (Z ⟨g,0,O⟩)] w (C4 w g ⟨3,d,f,k⟩ (Y l b.length m) (As ⟨3,d,f,k⟩ ⟨c,a,R⟩ b)):=by
 have i:Aw 2 d n=true:=AV o 0 2 rfl;replace i:=C0 i;have j:Aw 2 f n=true:=AV o 1 2 rfl;replace j:=C0 j;exact(TL w g c a R _ _ _ _ _ _ h i.1 i.2 j.1 j.2 s).mono fun e w' ⟨p,q,r⟩=>⟨p,_,q,Af.nil _ _ _,r⟩
def VA(w:aa)(g:Nat)(c a:Int)(R:List Int)(d f k n:Int)(l:Option af)(m:Nat)(b:List Int)(h:Ao w g c a R ⟨4,d,f,k⟩ (Y l b.length m) 0 0 0 (Y O 0 0))(o:Bb ⟨4,d,f,k⟩ n=true)(y:1≤c)(A:c≤1000000)(t:0≤a)(u:a≤2000)(s:∀ z∈R,0≤z∧z≤255)(v:Cn w l b)(x:b.length≤m):
  ab prog (BZ 4) #[G (Z ⟨g,0,O⟩)] w (C4 w g ⟨4,d,f,k⟩ (Y l b.length m) (As ⟨4,d,f,k⟩ ⟨c,a,R⟩ b)):=by
 have i:Aw 2 d n=true:=AV o 0 2 rfl;replace i:=C0 i;have j:Aw 2 f n=true:=AV o 1 2 rfl;replace j:=C0 j;exact(Uj w g c a R _ _ _ _ _ _ h i.1 i.2 j.1 j.2 s).mono fun e w' ⟨p,q,r⟩=>⟨p,_,q,Af.nil _ _ _,r⟩
def VB(w:aa)(g:Nat)(f d:Int)(R:List Int)(i b a o:Int)(l:Option af)(m:Nat)(c:List Int)(h:Ao w g f d R ⟨5,i,b,a⟩ (Y l c.length m) 0 0 0 (Y O 0 0))(u:Bb ⟨5,i,b,a⟩ o=true)(F:1≤f)(H:f≤1000000)(D:0≤d)(E:d≤2000)(s:∀ z∈R,0≤z∧z≤255)(A:Cn w l c)(C:c.length≤m):
  ab prog (BZ 5) #[G (Z ⟨g,0,O⟩)] w (C4 w g ⟨5,i,b,a⟩ (Y l c.length m) (As ⟨5,i,b,a⟩ ⟨f,d,R⟩ c)):=by
 have n:Aw 2 i o=true:=AV u 0 2 rfl;replace n:=C0 n;have j:Aw 4 b o=true:=AV u 1 4 rfl;replace j:=Ml j;have k:Aw 2 a o=true:=AV u 2 2 rfl;replace k:=C0 k;by_cases t:(c.length:Int)≤b+R.getD a.toNat 0
 ·have e:As ⟨5,i,b,a⟩ ⟨f,d,R⟩ c=(⟨f,d,R⟩,Gq 2 0):=if_pos t;rw[e];exact(TV w g f d R _ l _ m _ _ _ _ h k.1 k.2 s j.1 j.2 t).mono fun e w' ⟨p,q,r⟩=>⟨p,_,q,Af.nil _ _ _,r⟩
 ·have e:As ⟨5,i,b,a⟩ ⟨f,d,R⟩ c=(⟨f,d,R.set i.toNat (c.getD (b+R.getD a.toNat 0).toNat 0)⟩,zeroA):=if_neg t;have K:=E8 s a.toNat
  obtain⟨v,B,x,y⟩:=A (b+R.getD a.toNat 0).toNat (by omega);rw[e,show c.getD (b+R.getD a.toNat 0).toNat 0=c[(b+R.getD a.toNat 0).toNat]'(by omega) by rw[List.getD_eq_getElem?_getD,List.getElem?_eq_getElem (by omega)];rfl];exact(TU w g f d R _ l _ m _ _ _ _ h n.1 n.2 k.1 k.2 s j.1 j.2 (by simp only;omega) C v B _ x y).mono fun e w' ⟨p,q,r⟩=>⟨p,_,q,Af.nil _ _ _,r⟩
def VC(w:aa)(g:Nat)(b a:Int)(R:List Int)(i c d o:Int)(l:Option af)(m:Nat)(f:List Int)(h:Ao w g b a R ⟨6,i,c,d⟩ (Y l f.length m) 0 0 0 (Y O 0 0))(t:Bb ⟨6,i,c,d⟩ o=true)(B:1≤b)(C:b≤1000000)(v:0≤a)(x:a≤2000)(u:∀ z∈R,0≤z∧z≤255)(y:Cn w l f)(A:f.length≤m):
  ab prog (BZ 6) #[G (Z ⟨g,0,O⟩)] w (C4 w g ⟨6,i,c,d⟩ (Y l f.length m) (As ⟨6,i,c,d⟩ ⟨b,a,R⟩ f)):=by
 have n:Aw 2 i o=true:=AV t 0 2 rfl;replace n:=C0 n;have j:Aw 4 c o=true:=AV t 1 4 rfl;replace j:=Ml j;have k:Aw 2 d o=true:=AV t 2 2 rfl;replace k:=C0 k;by_cases s:(f.length:Int)≤c+R.getD d.toNat 0
 ·have e:As ⟨6,i,c,d⟩ ⟨b,a,R⟩ f=(⟨b,a,R⟩,Gq 2 0):=if_pos s;rw[e];exact(Ui w g b a R _ l _ m _ _ _ _ h k.1 k.2 u j.1 j.2 s).mono fun e w' ⟨p,q,r⟩=>⟨p,_,q,Af.nil _ _ _,r⟩
 ·have e:As ⟨6,i,c,d⟩ ⟨b,a,R⟩ f=(⟨b,a,R⟩,⟨1,c+R.getD d.toNat 0,R.getD i.toNat 0,[]⟩):=if_neg s;rw[e];exact(Uh w g b a R _ l _ m _ _ _ _ h n.1 n.2 k.1 k.2 u j.1 j.2 (by simp only;omega)).mono fun e w' ⟨p,q,r⟩=>⟨p,_,q,Af.nil _ _ _,r⟩
def VD(w:aa)(g:Nat)(c a:Int)(R:List Int)(d f i l:Int)(n:Option af)(o:Nat)(b:List Int)(h:Ao w g c a R ⟨7,d,f,i⟩ (Y n b.length o) 0 0 0 (Y O 0 0))(m:Bb ⟨7,d,f,i⟩ l=true)(C:1≤c)(D:c≤1000000)(x:0≤a)(y:a≤2000)(u:∀ z∈R,0≤z∧z≤255)(A:Cn w n b)(B:b.length≤o):
  ab prog (BZ 7) #[G (Z ⟨g,0,O⟩)] w (C4 w g ⟨7,d,f,i⟩ (Y n b.length o) (As ⟨7,d,f,i⟩ ⟨c,a,R⟩ b)):=by
 have p:Aw 6 d l=true:=AV m 0 6 rfl;replace p:=CN p;have j:Aw 2 f l=true:=AV m 1 2 rfl;replace j:=C0 j;have k:Aw 5 i l=true:=AV m 2 5 rfl;replace k:=OD k;exact(Uc w g c a R _ _ _ _ _ _ h j.1 j.2 k.1 k.2 u).mono fun e w' ⟨q,v,r,s,t⟩=>⟨q,v,r,s,t⟩
def VE(w:aa)(g:Nat)(c a:Int)(R:List Int)(d f i j:Int)(l:Option af)(m:Nat)(b:List Int)(h:Ao w g c a R ⟨8,d,f,i⟩ (Y l b.length m) 0 0 0 (Y O 0 0))(k:Bb ⟨8,d,f,i⟩ j=true)(D:1≤c)(E:c≤1000000)(y:0≤a)(A:a≤2000)(x:∀ z∈R,0≤z∧z≤255)(B:Cn w l b)(C:b.length≤m):
  ab prog (BZ 8) #[G (Z ⟨g,0,O⟩)] w (C4 w g ⟨8,d,f,i⟩ (Y l b.length m) (As ⟨8,d,f,i⟩ ⟨c,a,R⟩ b)):=by
 have n:Aw 6 d j=true:=AV k 0 6 rfl;replace n:=CN n;have o:Aw 2 f j=true:=AV k 1 2 rfl;replace o:=C0 o;have p:Aw 2 i j=true:=AV k 2 2 rfl;replace p:=C0 p;obtain⟨q,r,r2,r3,rfl,v⟩:=h;exact(Ub w g c a q r r2 r3 _ _ _ _ _ _ v).mono fun e w' ⟨s,t,u⟩=>⟨s,_,⟨q,r,r2,r3,rfl,t⟩,Af.nil _ _ _,u⟩
def VF(w:aa)(g:Nat)(c a:Int)(R:List Int)(d f i o:Int)(j:Option af)(k:Nat)(b:List Int)(h:Ao w g c a R ⟨9,d,f,i⟩ (Y j b.length k) 0 0 0 (Y O 0 0))(s:Bb ⟨9,d,f,i⟩ o=true)(B:1≤c)(C:c≤1000000)(v:0≤a)(x:a≤2000)(u:∀ z∈R,0≤z∧z≤255)(y:Cn w j b)(A:b.length≤k):
  ab prog (BZ 9) #[G (Z ⟨g,0,O⟩)] w (C4 w g ⟨9,d,f,i⟩ (Y j b.length k) (As ⟨9,d,f,i⟩ ⟨c,a,R⟩ b)):=by
 have l:Aw 6 d o=true:=AV s 0 6 rfl;replace l:=CN l;obtain⟨m,n,r2,r3,rfl,t⟩:=h;exact(Ul w g c a m n r2 r3 _ _ _ _ _ _ t).mono fun e w' ⟨p,q,r⟩=>⟨p,_,⟨m,n,r2,r3,rfl,q⟩,Af.nil _ _ _,r⟩
def Vm(w:aa)(g:Nat)(c a:Int)(R:List Int)(d f i o:Int)(j:Option af)(k:Nat)(b:List Int)(h:Ao w g c a R ⟨10,d,f,i⟩ (Y j b.length k) 0 0 0 (Y O 0 0))(s:Bb ⟨10,d,f,i⟩ o=true)(B:1≤c)(C:c≤1000000)(v:0≤a)(x:a≤2000)(u:∀ z∈R,0≤z∧z≤255)(y:Cn w j b)(A:b.length≤k):
  ab prog (BZ 10) #[G (Z ⟨g,0,O⟩)] w (C4 w g ⟨10,d,f,i⟩ (Y j b.length k) (As ⟨10,d,f,i⟩ ⟨c,a,R⟩ b)):=by
 have l:Aw 6 d o=true:=AV s 0 6 rfl;replace l:=CN l;obtain⟨m,n,r2,r3,rfl,t⟩:=h;exact(Uf w g c a m n r2 r3 _ _ _ _ _ _ t).mono fun e w' ⟨p,q,r⟩=>⟨p,_,⟨m,n,r2,r3,rfl,q⟩,Af.nil _ _ _,r⟩
def Vn(w:aa)(g:Nat)(c a:Int)(R:List Int)(d f i o:Int)(j:Option af)(k:Nat)(b:List Int)(h:Ao w g c a R ⟨11,d,f,i⟩ (Y j b.length k) 0 0 0 (Y O 0 0))(s:Bb ⟨11,d,f,i⟩ o=true)(B:1≤c)(C:c≤1000000)(v:0≤a)(x:a≤2000)(u:∀ z∈R,0≤z∧z≤255)(y:Cn w j b)(A:b.length≤k):
  ab prog (BZ 11) #[G (Z ⟨g,0,O⟩)] w (C4 w g ⟨11,d,f,i⟩ (Y j b.length k) (As ⟨11,d,f,i⟩ ⟨c,a,R⟩ b)):=by
 have l:Aw 6 d o=true:=AV s 0 6 rfl;replace l:=CN l;obtain⟨m,n,r2,r3,rfl,t⟩:=h;exact(Ua w g c a m n r2 r3 _ _ _ _ _ _ t).mono fun e w' ⟨p,q,r⟩=>⟨p,_,⟨m,n,r2,r3,rfl,q⟩,Af.nil _ _ _,r⟩
def Vo(w:aa)(g:Nat)(c a:Int)(R:List Int)(d f i o:Int)(j:Option af)(k:Nat)(b:List Int)(h:Ao w g c a R ⟨12,d,f,i⟩ (Y j b.length k) 0 0 0 (Y O 0 0))(s:Bb ⟨12,d,f,i⟩ o=true)(B:1≤c)(C:c≤1000000)(v:0≤a)(x:a≤2000)(u:∀ z∈R,0≤z∧z≤255)(y:Cn w j b)(A:b.length≤k):
  ab prog (BZ 12) #[G (Z ⟨g,0,O⟩)] w (C4 w g ⟨12,d,f,i⟩ (Y j b.length k) (As ⟨12,d,f,i⟩ ⟨c,a,R⟩ b)):=by
 have l:Aw 6 d o=true:=AV s 0 6 rfl;replace l:=CN l;obtain⟨m,n,r2,r3,rfl,t⟩:=h;exact(TX w g c a m n r2 r3 _ _ _ _ _ _ t).mono fun e w' ⟨p,q,r⟩=>⟨p,_,⟨m,n,r2,r3,rfl,q⟩,Af.nil _ _ _,r⟩
def Vp(w:aa)(g:Nat)(c a:Int)(R:List Int)(d f i o:Int)(j:Option af)(k:Nat)(b:List Int)(h:Ao w g c a R ⟨13,d,f,i⟩ (Y j b.length k) 0 0 0 (Y O 0 0))(s:Bb ⟨13,d,f,i⟩ o=true)(B:1≤c)(C:c≤1000000)(v:0≤a)(x:a≤2000)(u:∀ z∈R,0≤z∧z≤255)(y:Cn w j b)(A:b.length≤k):
  ab prog (BZ 13) #[G (Z ⟨g,0,O⟩)] w (C4 w g ⟨13,d,f,i⟩ (Y j b.length k) (As ⟨13,d,f,i⟩ ⟨c,a,R⟩ b)):=by
 have l:Aw 6 d o=true:=AV s 0 6 rfl;replace l:=CN l;obtain⟨m,n,r2,r3,rfl,t⟩:=h;exact(Uk w g c a m n r2 r3 _ _ _ _ _ _ t).mono fun e w' ⟨p,q,r⟩=>⟨p,_,⟨m,n,r2,r3,rfl,q⟩,Af.nil _ _ _,r⟩
def Vq(w:aa)(g:Nat)(c a:Int)(R:List Int)(d f j m:Int)(k:Option af)(l:Nat)(b:List Int)(h:Ao w g c a R ⟨14,d,f,j⟩ (Y k b.length l) 0 0 0 (Y O 0 0))(o:Bb ⟨14,d,f,j⟩ m=true)(B:1≤c)(C:c≤1000000)(u:0≤a)(x:a≤2000)(t:∀ z∈R,0≤z∧z≤255)(y:Cn w k b)(A:b.length≤l):
  ab prog (BZ 14) #[G (Z ⟨g,0,O⟩)] w (C4 w g ⟨14,d,f,j⟩ (Y k b.length l) (As ⟨14,d,f,j⟩ ⟨c,a,R⟩ b)):=by
 have n:Aw 6 d m=true:=AV o 0 6 rfl;replace n:=CN n;have i:Aw 2 f m=true:=AV o 1 2 rfl;replace i:=C0 i;exact(TZ w g c a R _ _ _ _ _ _ h i.1 i.2).mono fun e w' ⟨p,v,q,r,s⟩=>⟨p,v,q,r,s⟩
def Vr(w:aa)(g:Nat)(c a:Int)(R:List Int)(d f i l:Int)(j:Option af)(k:Nat)(b:List Int)(h:Ao w g c a R ⟨15,d,f,i⟩ (Y j b.length k) 0 0 0 (Y O 0 0))(o:Bb ⟨15,d,f,i⟩ l=true)(C:1≤c)(D:c≤1000000)(x:0≤a)(y:a≤2000)(v:∀ z∈R,0≤z∧z≤255)(A:Cn w j b)(B:b.length≤k):
  ab prog (BZ 15) #[G (Z ⟨g,0,O⟩)] w (C4 w g ⟨15,d,f,i⟩ (Y j b.length k) (As ⟨15,d,f,i⟩ ⟨c,a,R⟩ b)):=by
 have m:Aw 6 d l=true:=AV o 0 6 rfl;replace m:=CN m;have n:Aw 2 f l=true:=AV o 1 2 rfl;replace n:=C0 n;obtain⟨p,q,r2,r3,rfl,u⟩:=h;exact(TP w g c a p q r2 r3 _ _ _ _ _ _ u).mono fun e w' ⟨r,s,t⟩=>⟨r,_,⟨p,q,r2,r3,rfl,s⟩,Af.nil _ _ _,t⟩
def Vs(w:aa)(g:Nat)(c a:Int)(R:List Int)(d f j m:Int)(k:Option af)(l:Nat)(b:List Int)(h:Ao w g c a R ⟨16,d,f,j⟩ (Y k b.length l) 0 0 0 (Y O 0 0))(o:Bb ⟨16,d,f,j⟩ m=true)(B:1≤c)(C:c≤1000000)(u:0≤a)(x:a≤2000)(t:∀ z∈R,0≤z∧z≤255)(y:Cn w k b)(A:b.length≤l):
  ab prog (BZ 16) #[G (Z ⟨g,0,O⟩)] w (C4 w g ⟨16,d,f,j⟩ (Y k b.length l) (As ⟨16,d,f,j⟩ ⟨c,a,R⟩ b)):=by
 have n:Aw 6 d m=true:=AV o 0 6 rfl;replace n:=CN n;have i:Aw 2 f m=true:=AV o 1 2 rfl;replace i:=C0 i;exact(Ue w g c a R _ _ _ _ _ _ h i.1 i.2).mono fun e w' ⟨p,v,q,r,s⟩=>⟨p,v,q,r,s⟩
def Vt(w:aa)(g:Nat)(c a:Int)(R:List Int)(d f i l:Int)(j:Option af)(k:Nat)(b:List Int)(h:Ao w g c a R ⟨17,d,f,i⟩ (Y j b.length k) 0 0 0 (Y O 0 0))(o:Bb ⟨17,d,f,i⟩ l=true)(C:1≤c)(D:c≤1000000)(x:0≤a)(y:a≤2000)(v:∀ z∈R,0≤z∧z≤255)(A:Cn w j b)(B:b.length≤k):
  ab prog (BZ 17) #[G (Z ⟨g,0,O⟩)] w (C4 w g ⟨17,d,f,i⟩ (Y j b.length k) (As ⟨17,d,f,i⟩ ⟨c,a,R⟩ b)):=by
 have m:Aw 6 d l=true:=AV o 0 6 rfl;replace m:=CN m;have n:Aw 2 f l=true:=AV o 1 2 rfl;replace n:=C0 n;obtain⟨p,q,r2,r3,rfl,u⟩:=h;exact(TW w g c a p q r2 r3 _ _ _ _ _ _ u).mono fun e w' ⟨r,s,t⟩=>⟨r,_,⟨p,q,r2,r3,rfl,s⟩,Af.nil _ _ _,t⟩
def Vu(w:aa)(g:Nat)(c a:Int)(R:List Int)(d f i o:Int)(j:Option af)(k:Nat)(b:List Int)(h:Ao w g c a R ⟨18,d,f,i⟩ (Y j b.length k) 0 0 0 (Y O 0 0))(s:Bb ⟨18,d,f,i⟩ o=true)(B:1≤c)(C:c≤1000000)(v:0≤a)(x:a≤2000)(u:∀ z∈R,0≤z∧z≤255)(y:Cn w j b)(A:b.length≤k):
  ab prog (BZ 18) #[G (Z ⟨g,0,O⟩)] w (C4 w g ⟨18,d,f,i⟩ (Y j b.length k) (As ⟨18,d,f,i⟩ ⟨c,a,R⟩ b)):=by
 have l:Aw 6 d o=true:=AV s 0 6 rfl;replace l:=CN l;obtain⟨m,n,r2,r3,rfl,t⟩:=h;exact(TM w g c a m n r2 r3 _ _ _ _ _ _ t).mono fun e w' ⟨p,q,r⟩=>⟨p,_,⟨m,n,r2,r3,rfl,q⟩,Af.nil _ _ _,r⟩
def Vv(w:aa)(g:Nat)(c a:Int)(R:List Int)(d f i r:Int)(j:Option af)(k:Nat)(b:List Int)(h:Ao w g c a R ⟨19,d,f,i⟩ (Y j b.length k) 0 0 0 (Y O 0 0))(B:Bb ⟨19,d,f,i⟩ r=true)(y:1≤c)(A:c≤1000000)(t:0≤a)(u:a≤2000)(s:∀ z∈R,0≤z∧z≤255)(v:Cn w j b)(x:b.length≤k):
  ab prog (BZ 19) #[G (Z ⟨g,0,O⟩)] w (C4 w g ⟨19,d,f,i⟩ (Y j b.length k) (As ⟨19,d,f,i⟩ ⟨c,a,R⟩ b)):=by
 obtain⟨l,m,r2,r3,rfl,q⟩:=h;exact(TY w g c a l m r2 r3 _ _ _ _ _ _ q).mono fun e w' ⟨n,o,p⟩=>⟨n,_,⟨l,m,r2,r3,rfl,o⟩,Af.nil _ _ _,p⟩
def Vx(w:aa)(g:Nat)(c a:Int)(R:List Int)(d f i o:Int)(j:Option af)(k:Nat)(b:List Int)(h:Ao w g c a R ⟨20,d,f,i⟩ (Y j b.length k) 0 0 0 (Y O 0 0))(s:Bb ⟨20,d,f,i⟩ o=true)(B:1≤c)(C:c≤1000000)(v:0≤a)(x:a≤2000)(u:∀ z∈R,0≤z∧z≤255)(y:Cn w j b)(A:b.length≤k):
  ab prog (BZ 20) #[G (Z ⟨g,0,O⟩)] w (C4 w g ⟨20,d,f,i⟩ (Y j b.length k) (As ⟨20,d,f,i⟩ ⟨c,a,R⟩ b)):=by
 have l:Aw 7 d o=true:=AV s 0 7 rfl;replace l:=IU l;obtain⟨m,n,r2,r3,rfl,t⟩:=h;exact(TQ w g c a m n r2 r3 _ _ _ _ _ _ t).mono fun e w' ⟨p,q,r⟩=>⟨p,_,⟨m,n,r2,r3,rfl,q⟩,Af.nil _ _ _,r⟩
def Vy(w:aa)(g:Nat)(b a:Int)(R:List Int)(c d i m:Int)(k:Option af)(l:Nat)(f:List Int)(h:Ao w g b a R ⟨21,c,d,i⟩ (Y k f.length l) 0 0 0 (Y O 0 0))(o:Bb ⟨21,c,d,i⟩ m=true)(A:1≤b)(B:b≤1000000)(u:0≤a)(v:a≤2000)(t:∀ z∈R,0≤z∧z≤255)(x:Cn w k f)(y:f.length≤l):
  ab prog (BZ 21) #[G (Z ⟨g,0,O⟩)] w (C4 w g ⟨21,c,d,i⟩ (Y k f.length l) (As ⟨21,c,d,i⟩ ⟨b,a,R⟩ f)):=by
 have j:Aw 2 c m=true:=AV o 0 2 rfl;replace j:=C0 j;have n:Aw 7 d m=true:=AV o 1 7 rfl;replace n:=IU n;have s:=Un w g b a R _ _ _ _ _ _ h j.1 j.2;have e:As ⟨21,c,d,i⟩ ⟨b,a,R⟩ f=(⟨if R.getD c.toNat 0=0 then d else b,a,R⟩,zeroA):=by
  show((if R.getD c.toNat 0=0 then(⟨d,a,R⟩:St) else⟨b,a,R⟩),zeroA)=_;split<;>rfl
 rw[e];exact s.mono fun e w' ⟨p,q,r⟩=>⟨p,_,q,Af.nil _ _ _,r⟩
def Vz(w:aa)(g:Nat)(b a:Int)(R:List Int)(c d f l:Int)(n:Option af)(o:Nat)(i:List Int)(h:Ao w g b a R ⟨22,c,d,f⟩ (Y n i.length o) 0 0 0 (Y O 0 0))(m:Bb ⟨22,c,d,f⟩ l=true)(B:1≤b)(C:b≤1000000)(v:0≤a)(x:a≤2000)(t:∀ z∈R,0≤z∧z≤255)(y:Cn w n i)(A:i.length≤o):
  ab prog (BZ 22) #[G (Z ⟨g,0,O⟩)] w (C4 w g ⟨22,c,d,f⟩ (Y n i.length o) (As ⟨22,c,d,f⟩ ⟨b,a,R⟩ i)):=by
 have j:Aw 2 c l=true:=AV m 0 2 rfl;replace j:=C0 j;have k:Aw 2 d l=true:=AV m 1 2 rfl;replace k:=C0 k;have p:Aw 7 f l=true:=AV m 2 7 rfl;replace p:=IU p;have u:=TS w g b a R _ _ _ _ _ _ h j.1 j.2 k.1 k.2 t;have e:As ⟨22,c,d,f⟩ ⟨b,a,R⟩ i=(⟨if R.getD c.toNat 0<R.getD d.toNat 0 then f else b,a,R⟩,zeroA):=by
  show((if R.getD c.toNat 0<R.getD d.toNat 0 then(⟨f,a,R⟩:St) else⟨b,a,R⟩),zeroA)=_;split<;>rfl
 rw[e];exact u.mono fun e w' ⟨q,r,s⟩=>⟨q,_,r,Af.nil _ _ _,s⟩
def V5(w:aa)(g:Nat)(b a:Int)(R:List Int)(c d i s:Int)(q:Option af)(r:Nat)(f:List Int)(h:Ao w g b a R ⟨23,c,d,i⟩ (Y q f.length r) 0 0 0 (Y O 0 0))(t:Bb ⟨23,c,d,i⟩ s=true)(B:1≤b)(C:b≤1000000)(v:0≤a)(x:a≤2000)(u:∀ z∈R,0≤z∧z≤255)(y:Cn w q f)(A:f.length≤r):
  ab prog (BZ 23) #[G (Z ⟨g,0,O⟩)] w (C4 w g ⟨23,c,d,i⟩ (Y q f.length r) (As ⟨23,c,d,i⟩ ⟨b,a,R⟩ f)):=by
 have j:Aw 2 c s=true:=AV t 0 2 rfl;replace j:=C0 j;have k:Aw 2 d s=true:=AV t 1 2 rfl;replace k:=C0 k;have l:=TN w g b a R _ _ _ _ _ _ h j.1 j.2 k.1 k.2 u;by_cases m:R.getD d.toNat 0=0
 ·simp only[m,if_true] at l;have e:As ⟨23,c,d,i⟩ ⟨b,a,R⟩ f=(⟨b,a,R⟩,Gq 4 0):=if_pos m;rw[e];exact l.mono fun e w' ⟨n,o,p⟩=>⟨n,_,o,Af.nil _ _ _,p⟩
 ·simp only[if_neg m] at l;have e:As ⟨23,c,d,i⟩ ⟨b,a,R⟩ f=(⟨b,a,R.set c.toNat (R.getD c.toNat 0/R.getD d.toNat 0)⟩,zeroA):=if_neg m;rw[e];exact l.mono fun e w' ⟨n,o,p⟩=>⟨n,_,o,Af.nil _ _ _,p⟩
def V6(w:aa)(g:Nat)(c a:Int)(R:List Int)(d f i m:Int)(j:Option af)(k:Nat)(b:List Int)(h:Ao w g c a R ⟨24,d,f,i⟩ (Y j b.length k) 0 0 0 (Y O 0 0))(q:Bb ⟨24,d,f,i⟩ m=true)(x:1≤c)(y:c≤1000000)(s:0≤a)(t:a≤2000)(r:∀ z∈R,0≤z∧z≤255)(u:Cn w j b)(v:b.length≤k):
  ab prog (BZ 24) #[G (Z ⟨g,0,O⟩)] w (C4 w g ⟨24,d,f,i⟩ (Y j b.length k) (As ⟨24,d,f,i⟩ ⟨c,a,R⟩ b)):=by
 have l:Aw 3 d m=true:=AV q 0 3 rfl;replace l:=OC l;exact(TO w g c a R _ _ _ _ _ _ h).mono fun e w' ⟨n,o,p⟩=>⟨n,_,o,Af.nil _ _ _,p⟩
def V7(w:aa)(g:Nat)(c a:Int)(R:List Int)(d f i t:Int)(j:Option af)(k:Nat)(b:List Int)(h:Ao w g c a R ⟨25,d,f,i⟩ (Y j b.length k) 0 0 0 (Y O 0 0))(B:Bb ⟨25,d,f,i⟩ t=true)(q:1≤c)(r:c≤1000000)(v:0≤a)(x:a≤2000)(u:∀ z∈R,0≤z∧z≤255)(y:Cn w j b)(A:b.length≤k):
  ab prog (BZ 25) #[G (Z ⟨g,0,O⟩)] w (C4 w g ⟨25,d,f,i⟩ (Y j b.length k) (As ⟨25,d,f,i⟩ ⟨c,a,R⟩ b)):=by
 obtain⟨l,m,r2,r3,rfl,s⟩:=h;exact(Ug w g c a l m r2 r3 _ _ _ _ _ _ s q r).mono fun e w' ⟨n,o,p⟩=>⟨n,_,⟨l,m,r2,r3,rfl,o⟩,Af.nil _ _ _,p⟩
structure JE(d:Ad)(x:Ai):Prop where
 send:x.op=7→x.a<(d.Ab.length:Int)∧(d.Ab.getD x.a.toNat default).o=true
 recv:x.op=8→x.a<(d.Ab.length:Int)∧(d.Ab.getD x.a.toNat default).o=false
 Ep:x.op=9∨x.op=10→x.a<(d.semas.length:Int)
 event:x.op=11∨x.op=12∨x.op=13→x.a<d.events
 Eg:x.op=14∨x.op=15→x.a<(d.bufs.length:Int)
 Dz:x.op=16∨x.op=17∨x.op=18→x.a<d.boards
def K0(d:Ad):Prop:=∀ c∈d.procs,∀ x∈c.code,JE d x
structure Cz(d:Ad)(m:Nat)(a:Ac):Prop where
 kind:0≤a.kind∧a.kind≤16
 nn:0≤a.a
 data:a.data.length≤64
 bytes:Bf a.data
 store:a.kind=1→(0≤a.a∧a.a<(m:Int))∧0≤a.b∧a.b≤255
 send:a.kind=2→(0≤a.a∧a.a<(d.Ab.length:Int))∧(d.Ab.getD a.a.toNat default).o=true∧0<a.data.length
 recv:a.kind=3→(0≤a.a∧a.a<(d.Ab.length:Int))∧(d.Ab.getD a.a.toNat default).o=false
 Ep:a.kind=4∨a.kind=5→0≤a.a∧a.a<(d.semas.length:Int)
 event:a.kind=6∨a.kind=7∨a.kind=8→0≤a.a∧a.a<d.events
 Eg:a.kind=9∨a.kind=10→0≤a.a∧a.a<(d.bufs.length:Int)
 Dz:a.kind=11∨a.kind=12∨a.kind=13→0≤a.a∧a.a<d.boards
 one:a.kind=9∨a.kind=11→0<a.data.length
structure Ed(n:Nat)(s:St):Prop where
 AG:s.AG.length=4
 bytes:Bf s.AG
 pc:0≤s.pc∧s.pc≤(n:Int)
 left:0≤s.left∧s.left≤2000
def FL(d:Ad)(m:Nat):Cz d m zeroA:=⟨by decide,by decide,by decide,(by intro z a;cases a),(by intro h;cases h),(by intro h;cases h),(by intro h;cases h),(by rintro(h|h)<;>cases h),(by rintro(h|h|h)<;>cases h),(by rintro(h|h)<;>cases h),(by rintro(h|h|h)<;>cases h),by rintro(h|h)<;>cases h⟩
def JK(d:Ad)(m:Nat)(f c:Int)(a:0≤f):Cz d m (Gq f c):=⟨by show 0≤(15:Int)∧(15:Int)≤16;decide,a,by show(0:Nat)≤64;decide,(by intro z b;cases b),(by intro h;cases h),(by intro h;cases h),(by intro h;cases h),(by rintro(h|h)<;>cases h),(by rintro(h|h|h)<;>cases h),(by rintro(h|h)<;>cases h),(by rintro(h|h|h)<;>cases h),by rintro(h|h)<;>cases h⟩
def Zj{x:Ai}{a:Int}(h:Bb x a=true):∀ (i:Nat) o,(opsOf x.op)[i]? =Z o→Aw o (Dy x i) a=true:=fun i o b=>AV h i o b
def Js{s:St}(h:Bf s.AG)(i:Int):0≤CY s i∧CY s i≤255:=E8 h i.toNat
def Mr{l:List Int}(h:Bf l)(i:Nat):0≤l.getD i 0∧l.getD i 0≤255:=E8 h i
def Ed.CB{n:Nat}{s:St}(h:Ed n s)(i:Int){v:Int}(a:0≤v∧v≤255):Ed n (D2 s i v):=⟨by simp[D2,h.AG],Le h.bytes _ a,h.pc,h.left⟩
def Ed.G3{n:Nat}{s:St}(h:Ed n s){p:Int}(a:0≤p∧p≤(n:Int)):Ed n {s with pc:=p}:=⟨h.AG,h.bytes,a,h.left⟩
def Ol(f:Int)(n:Nat):(countP f n).length=n:=by simp[countP]
def Sy(f:Int)(n:Nat):Bf (countP f n):=fun z a=>by
 simp only[countP,List.mem_map,List.mem_range] at a;obtain⟨i,_,rfl⟩:=a;omega
section
variable {d:Ad} {n:Nat} {s:St} {mem:List Int} {op xa xb xc:Int}
def GD{k:Int}{m:Nat}(a:0≤xa)(j:k=3∨k=4∨k=5∨k=6∨k=7∨k=8∨k=10∨k=12∨k=13)
  (e:k=3→(0≤xa∧xa<(d.Ab.length:Int))∧(d.Ab.getD xa.toNat default).o=false) (f:k=4∨k=5→0≤xa∧xa<(d.semas.length:Int)) (g:k=6∨k=7∨k=8→0≤xa∧xa<d.events) (b:k=10→0≤xa∧xa<(d.bufs.length:Int)) (c:k=12∨k=13→0≤xa∧xa<d.boards):Cz d m ⟨k,xa,0,[]⟩:=
 ⟨(by show 0≤k∧k≤16;omega),a,(by simp),(fun z i=>by cases i),(fun h=>by have h:k=1:=h;omega),(fun h=>by have h:k=2:=h;omega),e,f,g,(fun h=>b (by have h:k=9∨k=10:=h;omega)),(fun h=>c (by have h:k=11∨k=12∨k=13:=h;omega)),fun h=>by have h:k=9∨k=11:=h;omega⟩
def Uo(j:Bb ⟨op,xa,xb,xc⟩ n=true)(e:JE d ⟨op,xa,xb,xc⟩)(b:Ed n s)(p:1≤s.pc)(m:Bf mem):Ed n (As ⟨op,xa,xb,xc⟩ s mem).1∧Cz d mem.length (As ⟨op,xa,xb,xc⟩ s mem).2:=by
 have q:1≤op∧op≤25:=by
  have h:=j;simp only[Bb,Bool.and_eq_true,decide_eq_true_eq] at h;exact h.1
 have c:=Zj j;rcases(show op=1∨op=2∨op=3∨op=4∨op=5∨op=6∨op=7∨op=8∨op=9∨op=10∨op=11∨op=12∨op=13∨op=14∨op=15∨op=16∨op=17∨op=18∨op=19∨op=20∨op=21∨op=22∨op=23∨op=24∨op=25 by omega) with rfl|rfl|rfl|rfl|rfl|rfl|rfl|rfl|rfl|rfl|rfl|rfl|rfl|rfl|rfl|rfl|rfl|rfl|rfl|rfl|rfl|rfl|rfl|rfl|rfl
 ·have a:=OB (c 0 1 rfl);have r:=b.left;have o:=b.pc;simp only[Dy] at a;refine⟨⟨b.AG,b.bytes,?_,?_⟩,FL _ _⟩
  ·simp only[As];split<;>omega
  ·simp only[As];split<;>omega
 ·exact⟨b.CB _ (by omega),FL _ _⟩
 ·exact⟨b.CB _ (by omega),FL _ _⟩
 ·exact⟨b.CB _ (by omega),FL _ _⟩
 ·simp only[As];split
  ·exact⟨b,JK _ _ _ _ (by decide)⟩
  ·exact⟨b.CB _ (Mr m _),FL _ _⟩
 ·have k:=Ml (c 1 4 rfl);have g:=Js b.bytes xc;have i:=Js b.bytes xa;simp only[Dy] at k;simp only[As];split
  ·exact⟨b,JK _ _ _ _ (by decide)⟩
  ·rename_i t;exact⟨b,{kind:=by simp,nn:=(by show 0≤xb+CY s xc;omega),data:=by simp,bytes:=fun z f=>(by cases f),store:=fun _=>⟨⟨by show 0≤xb+CY s xc;omega,by show xb+CY s xc<_;omega⟩,i⟩,send:=by simp,recv:=by simp,Ep:=by simp,event:=by simp,Eg:=by simp,Dz:=by simp,one:=by simp}⟩
 ·have a:=CN (c 0 6 rfl);have l:=OD (c 2 5 rfl);simp only[Dy] at a l;simp only[As];exact⟨b,{kind:=by simp,nn:=a,data:=by show(countP _ _).length≤64;rw[Ol];omega,bytes:=Sy _ _,store:=by simp,send:=fun _=>⟨⟨a,(e.send rfl).1⟩,(e.send rfl).2,by show 0<(countP _ _).length;rw[Ol];omega⟩,recv:=by simp,Ep:=by simp,event:=by simp,Eg:=by simp,Dz:=by simp,one:=by simp}⟩
 ·have a:=CN (c 0 6 rfl);exact⟨b,GD a (by omega) (fun _=>⟨⟨a,(e.recv rfl).1⟩,(e.recv rfl).2⟩) (by omega) (by omega) (by omega) (by omega)⟩
 ·have a:=CN (c 0 6 rfl);exact⟨b,GD a (by omega) (by omega) (fun _=>⟨a,e.Ep (.inl rfl)⟩) (by omega) (by omega) (by omega)⟩
 ·have a:=CN (c 0 6 rfl);exact⟨b,GD a (by omega) (by omega) (fun _=>⟨a,e.Ep (.inr rfl)⟩) (by omega) (by omega) (by omega)⟩
 ·have a:=CN (c 0 6 rfl);exact⟨b,GD a (by omega) (by omega) (by omega) (fun _=>⟨a,e.event (.inl rfl)⟩) (by omega) (by omega)⟩
 ·have a:=CN (c 0 6 rfl);exact⟨b,GD a (by omega) (by omega) (by omega) (fun _=>⟨a,e.event (.inr (.inl rfl))⟩) (by omega) (by omega)⟩
 ·have a:=CN (c 0 6 rfl);exact⟨b,GD a (by omega) (by omega) (by omega) (fun _=>⟨a,e.event (.inr (.inr rfl))⟩) (by omega) (by omega)⟩
 ·have a:=CN (c 0 6 rfl);have g:=Js b.bytes xb;exact⟨b,{kind:=by simp[As],nn:=a,data:=by simp[As],bytes:=fun z f=>(by simp only[As,ai] at f;subst f;exact g),store:=by simp[As],send:=by simp[As],recv:=by simp[As],Ep:=by simp[As],event:=by simp[As],Eg:=fun _=>⟨a,e.Eg (.inl rfl)⟩,Dz:=by simp[As],one:=by simp[As]}⟩
 ·have a:=CN (c 0 6 rfl);exact⟨b,GD a (by omega) (by omega) (by omega) (by omega) (fun _=>⟨a,e.Eg (.inr rfl)⟩) (by omega)⟩
 ·have a:=CN (c 0 6 rfl);have g:=Js b.bytes xb;exact⟨b,{kind:=by simp[As],nn:=a,data:=by simp[As],bytes:=fun z f=>(by simp only[As,ai] at f;subst f;exact g),store:=by simp[As],send:=by simp[As],recv:=by simp[As],Ep:=by simp[As],event:=by simp[As],Eg:=by simp[As],Dz:=fun _=>⟨a,e.Dz (.inl rfl)⟩,one:=by simp[As]}⟩
 ·have a:=CN (c 0 6 rfl);exact⟨b,GD a (by omega) (by omega) (by omega) (by omega) (by omega) (fun _=>⟨a,e.Dz (.inr (.inl rfl))⟩)⟩
 ·have a:=CN (c 0 6 rfl);exact⟨b,GD a (by omega) (by omega) (by omega) (by omega) (by omega) (fun _=>⟨a,e.Dz (.inr (.inr rfl))⟩)⟩
 ·exact⟨b,{kind:=by simp[As],nn:=(by simp[As]),data:=by simp[As],bytes:=fun z f=>(by cases f),store:=by simp[As],send:=by simp[As],recv:=by simp[As],Ep:=by simp[As],event:=by simp[As],Eg:=by simp[As],Dz:=by simp[As],one:=by simp[As]}⟩
 ·have a:=IU (c 0 7 rfl);replace a:0≤xa∧xa<(n:Int):=a;exact⟨b.G3 ⟨a.1,Int.le_of_lt a.2⟩,FL _ _⟩
 ·have a:=IU (c 1 7 rfl);simp only[Dy] at a;simp only[As];split
  ·exact⟨b.G3 ⟨a.1,by omega⟩,FL _ _⟩
  ·exact⟨b,FL _ _⟩
 ·have a:=IU (c 2 7 rfl);simp only[Dy] at a;simp only[As];split
  ·exact⟨b.G3 ⟨a.1,by omega⟩,FL _ _⟩
  ·exact⟨b,FL _ _⟩
 ·have g:=Js b.bytes xa;have i:=Js b.bytes xb;simp only[As];split
  ·exact⟨b,JK _ _ _ _ (by decide)⟩
  ·refine⟨b.CB _ ⟨Int.ediv_nonneg g.1 i.1,Int.le_trans (Int.ediv_le_self _ g.1) g.2⟩,FL _ _⟩
 ·exact⟨b,JK _ _ _ _ (by decide)⟩
 ·have o:=b.pc;refine⟨b.G3 ⟨by omega,by omega⟩,{kind:=by simp[As],nn:=(by simp[As]),data:=by simp[As],bytes:=fun z f=>(by cases f),store:=by simp[As],send:=by simp[As],recv:=by simp[As],Ep:=by simp[As],event:=by simp[As],Eg:=by simp[As],Dz:=by simp[As],one:=by simp[As]}⟩
def Q8{a:List Ai}(e:∀ x∈a,JE d x)(b:Ed a.length s)(f:Bf mem):Ed a.length (FZ a s mem).1∧Cz d mem.length (FZ a s mem).2:=by
 unfold FZ;cases c:CM a s.pc with
 |none=>exact⟨b,JK _ _ _ _ (by decide)⟩
 |some x=>
  obtain⟨g,i,j,h⟩:=Ip c;obtain⟨op,xa,xb,xc⟩:=x;exact Uo g (e _ h) (b.G3 ⟨by omega,by omega⟩) (by show 1≤s.pc+1;omega) f
end
end Go.Proofs.YtiepijihpgijbaaGreatDoor
