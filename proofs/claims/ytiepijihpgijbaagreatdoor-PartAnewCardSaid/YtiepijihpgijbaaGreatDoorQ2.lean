import Derived.Deep.DeepCutAuto
import Derived.Test.YtiepijihpgijbaaGreatDoorQ1
set_option maxHeartbeats 4000000
set_option maxRecDepth 100000
set_option linter.all false
open Option renaming none→O,some→Z
open Go.Obj renaming cells→T
open Go.Value renaming int→I,pointer→G,slice→Y
open Go.IntKind renaming i64→J,u8→U
open Go renaming Value→aZ,World→a2,bodyPost_ret→bq,heap_alloc_new→bH,Calls→bI,cell_of_row→b0,results→b1,heap_setCell_same→b2,TypeId→cb
open Option.some renaming injEq→bl
open Go.RowKit.Below renaming heap_setCell→bm,refl→bw,heap_alloc→bJ
open Go.Value renaming bool→br,ownBlock→b5
open Go.Value.slice renaming injEq→bs
open List renaming length_cons→bK,getElem?_eq_getElem→b9
open Nat renaming lt_of_lt_of_le→bL,le_refl→bM,le_trans→cd
open And renaming intro→bR
open Go.World renaming frozen?→b3,setCell→b8
open Go.Obj.cells renaming injEq→b4
open Go.Addr.mk renaming injEq→b6
open Go.Region renaming wanted→b7
open Go.Builtin renaming append_→ca
namespace Go.Proofs.YtiepijihpgijbaaGreatDoor
open Go.RowKit Tryz
structure Upd(M:List Nat)(w w':a2):Prop where
 os:w'.os=w.os
 tape:w'.tape=w.tape
 output:w'.output=w.output
 size:w.heap.size≤w'.heap.size
 block:∀ k,k<w.heap.size→k∉M→w'.heap[k]? =w.heap[k]?
def Upd.refl(M:List Nat)(w:a2):Upd M w w:=⟨rfl,rfl,rfl,bM _,fun _ _ _=>rfl⟩
def Upd.trans{M:List Nat}{a b c:a2}(h:Upd M a b)(k:Upd M b c):Upd M a c:=
 ⟨k.os.trans h.os,k.tape.trans h.tape,k.output.trans h.output,cd h.size k.size,fun i d e=>(k.block i (bL d h.size) e).trans (h.block i d e)⟩
def Upd.below{M:List Nat}{w w':a2}(h:Bl w w'):Upd M w w':=⟨h.os,h.tape,h.output,h.size,fun k a _=>h.block k a⟩
def Upd.set{M:List Nat}{w:a2}{b:Nat}(a:b∈M)(o:Nat)(u:aZ):Upd M w (w.setCell ⟨b,o,O⟩ u):=
 ⟨rfl,rfl,rfl,by simp[b8],fun k _ c=>bm _ _ _ _ (by rintro rfl;exact c a)⟩
def Upd.drew{M:List Nat}{w w':a2}(h:Upd M w w'):Upd M w w'.drew:=⟨h.os,h.tape,h.output,h.size,h.block⟩
def Upd.drewN{M:List Nat}{w w':a2}(h:Upd M w w')(n:Nat):Upd M w (w'.drewN n):=⟨h.os,h.tape,h.output,h.size,h.block⟩
section
variable {w:a2} {g a b c d e:Nat} {u v x y z:aZ}
def Upd.s1:Upd [g] w (w.setCell ⟨g,a,O⟩ u):=.set (by simp) _ _
def Upd.s4:Upd [g] w ((((w.setCell ⟨g,a,O⟩ u).setCell ⟨g,b,O⟩ v).setCell ⟨g,c,O⟩ x).setCell ⟨g,d,O⟩ y):=((Upd.s1.trans .s1).trans .s1).trans .s1
def Upd.s5:Upd [g] w (((((w.setCell ⟨g,a,O⟩ u).setCell ⟨g,b,O⟩ v).setCell ⟨g,c,O⟩ x).setCell ⟨g,d,O⟩ y).setCell ⟨g,e,O⟩ z):=Upd.s4.trans .s1
end
def EX(w:a2)(g:Nat)(e d f h r2 r3:Int)(x:Ai)(j:aZ)(k a b:Int)(i:aZ):Prop:=
 w.heap[g]? =Z (T #[I J e,I J d,I U f,I U h,I U r2,I U r3,I U x.op,I J x.a,I J x.b,I J x.c,j,I U k,I J a,I J b,i] 189 (0,0))
section
variable {w:a2} {g:Nat} {pc left r0 r1 r2 r3:Int} {x:Ai} {vm vd:aZ} {k a b:Int}
def EX.lt(h:EX w g pc left r0 r1 r2 r3 x vm k a b vd):g<w.heap.size:=Aa h
def EX.cell(h:EX w g pc left r0 r1 r2 r3 x vm k a b vd)(o:Nat):w.cell? ⟨g,o,O⟩=(#[I J pc,I J left,I U r0,I U r1,I U r2,I U r3,I U x.op,I J x.a,I J x.b,I J x.c,vm,I U k,I J a,I J b,vd]:Array aZ)[o]?:=b0 w _ _ _ _ _ h
def EX.frozen(h:EX w g pc left r0 r1 r2 r3 x vm k a b vd)(o:Nat):w.frozen? ⟨g,o,O⟩=false:=by simp[b3,show w.heap[g]? =_ from h]
end
def CH{w:a2}{g:Nat}{a:Array aZ}{t:cb}(h:w.heap[g]? =Z (T a t (0,0)))(o:Nat)(v:aZ):(w.setCell ⟨g,o,O⟩ v).heap[g]? =Z (T (a.setIfInBounds o v) t (0,0)):=by
 have:=b2 w g o _ _ v h;simpa using this
def D3(w:a2)(g:Nat)(i:Int)(a:0≤i)(b:i≤3):
  bI prog 280 #[G (Z ⟨g,0,O⟩),I J i] w fun e w'=>e=.returned (G (Z ⟨g,2+i.toNat,O⟩))∧w=w':=by
 have c:i<4:=by omega
 go_enter func280,ntmps280;go_wp2;go_ret;exact⟨rfl,rfl⟩
def Ur(w:a2)(g:Nat)(i d j l r2 r3:Int)(x:Ai)(m s:aZ)(k a b f c:Int)(h:EX w g i d j l r2 r3 x m k a b s)(t:0≤f)(u:f≤255):
  bI prog 284 #[G (Z ⟨g,0,O⟩),I U f,I J c] w fun e w'=>e=.returned (.tuple #[])∧EX w' g i d j l r2 r3 x m 15 f c (Y O 0 0)∧Upd [g] w w':=by
 have n:=h.cell 11;have p:=h.cell 12;have q:=h.cell 13;have r:=h.cell 14;have f11:=h.frozen 11;have f12:=h.frozen 12;have f13:=h.frozen 13;have f14:=h.frozen 14;have v:=h.lt;simp at n p q r;have H:=HH h;clear h;go_enter func284,ntmps284;go_wp2
 go_end0
 refine⟨rfl,?_,Upd.s4⟩;exact(((CH H.o 11 _).trans rfl|>fun h=>CH h 12 _)|>fun h=>CH h 13 _)|>fun h=>CH h 14 _
def Gk(w:a2)(g:Nat)(l j m n r2 r3:Int)(x:Ai)(p v:aZ)(k a b:Int)(i:Int)(c:Option Addr)(f d:Nat)(h:EX w g l j m n r2 r3 x p k a b v):
  bI prog 282 #[G (Z ⟨g,0,O⟩),I U i,Y c f d] w fun e w'=>e=.returned (.tuple #[])∧EX w' g l j m n r2 r3 x p i x.a 0 (Y c f d)∧Upd [g] w w':=by
 have u:=h.cell 7;have q:=h.cell 11;have r:=h.cell 12;have s:=h.cell 13;have t:=h.cell 14;have f11:=h.frozen 11;have f12:=h.frozen 12;have f13:=h.frozen 13;have f14:=h.frozen 14;have y:=h.lt;simp at u q r s t;have H:=HH h;clear h;go_enter func282,ntmps282;go_wp2
 go_end0
 exact⟨rfl,(CH ((CH ((CH ((CH (H.o) 11 _)) 12 _)) 13 _)) 14 _),Upd.s4⟩
def Ub(w:a2)(g:Nat)(d c f i r2 r3:Int)(x:Ai)(j p:aZ)(k a b:Int)(h:EX w g d c f i r2 r3 x j k a b p):
  bI prog 262 #[G (Z ⟨g,0,O⟩)] w fun e w'=>e=.returned (.tuple #[])∧EX w' g d c f i r2 r3 x j 3 x.a 0 (Y O 0 0)∧Upd [g] w w':=by
 have n:=Gk w g d c f i r2 r3 x j p k a b 3 O 0 0 h;have r:=HH n;clear n h;go_enter func262,ntmps262;go_wp2_with fail;refine r.o.mono ?_;rintro e s ⟨rfl,m,l⟩;have q:=HH (bR m l);clear m l;go_wp2_with fail
 go_end0
 exact⟨rfl,q.o⟩
def Ul(w:a2)(g:Nat)(d c f i r2 r3:Int)(x:Ai)(j p:aZ)(k a b:Int)(h:EX w g d c f i r2 r3 x j k a b p):
  bI prog 263 #[G (Z ⟨g,0,O⟩)] w fun e w'=>e=.returned (.tuple #[])∧EX w' g d c f i r2 r3 x j 4 x.a 0 (Y O 0 0)∧Upd [g] w w':=by
 have n:=Gk w g d c f i r2 r3 x j p k a b 4 O 0 0 h;have r:=HH n;clear n h;go_enter func263,ntmps263;go_wp2_with fail;refine r.o.mono ?_;rintro e s ⟨rfl,m,l⟩;have q:=HH (bR m l);clear m l;go_wp2_with fail
 go_end0
 exact⟨rfl,q.o⟩
def Uf(w:a2)(g:Nat)(d c f i r2 r3:Int)(x:Ai)(j p:aZ)(k a b:Int)(h:EX w g d c f i r2 r3 x j k a b p):
  bI prog 264 #[G (Z ⟨g,0,O⟩)] w fun e w'=>e=.returned (.tuple #[])∧EX w' g d c f i r2 r3 x j 5 x.a 0 (Y O 0 0)∧Upd [g] w w':=by
 have n:=Gk w g d c f i r2 r3 x j p k a b 5 O 0 0 h;have r:=HH n;clear n h;go_enter func264,ntmps264;go_wp2_with fail;refine r.o.mono ?_;rintro e s ⟨rfl,m,l⟩;have q:=HH (bR m l);clear m l;go_wp2_with fail
 go_end0
 exact⟨rfl,q.o⟩
def Ua(w:a2)(g:Nat)(d c f i r2 r3:Int)(x:Ai)(j p:aZ)(k a b:Int)(h:EX w g d c f i r2 r3 x j k a b p):
  bI prog 265 #[G (Z ⟨g,0,O⟩)] w fun e w'=>e=.returned (.tuple #[])∧EX w' g d c f i r2 r3 x j 6 x.a 0 (Y O 0 0)∧Upd [g] w w':=by
 have n:=Gk w g d c f i r2 r3 x j p k a b 6 O 0 0 h;have r:=HH n;clear n h;go_enter func265,ntmps265;go_wp2_with fail;refine r.o.mono ?_;rintro e s ⟨rfl,m,l⟩;have q:=HH (bR m l);clear m l;go_wp2_with fail
 go_end0
 exact⟨rfl,q.o⟩
def TX(w:a2)(g:Nat)(d c f i r2 r3:Int)(x:Ai)(j p:aZ)(k a b:Int)(h:EX w g d c f i r2 r3 x j k a b p):
  bI prog 266 #[G (Z ⟨g,0,O⟩)] w fun e w'=>e=.returned (.tuple #[])∧EX w' g d c f i r2 r3 x j 7 x.a 0 (Y O 0 0)∧Upd [g] w w':=by
 have n:=Gk w g d c f i r2 r3 x j p k a b 7 O 0 0 h;have r:=HH n;clear n h;go_enter func266,ntmps266;go_wp2_with fail;refine r.o.mono ?_;rintro e s ⟨rfl,m,l⟩;have q:=HH (bR m l);clear m l;go_wp2_with fail
 go_end0
 exact⟨rfl,q.o⟩
def Uk(w:a2)(g:Nat)(d c f i r2 r3:Int)(x:Ai)(j p:aZ)(k a b:Int)(h:EX w g d c f i r2 r3 x j k a b p):
  bI prog 267 #[G (Z ⟨g,0,O⟩)] w fun e w'=>e=.returned (.tuple #[])∧EX w' g d c f i r2 r3 x j 8 x.a 0 (Y O 0 0)∧Upd [g] w w':=by
 have n:=Gk w g d c f i r2 r3 x j p k a b 8 O 0 0 h;have r:=HH n;clear n h;go_enter func267,ntmps267;go_wp2_with fail;refine r.o.mono ?_;rintro e s ⟨rfl,m,l⟩;have q:=HH (bR m l);clear m l;go_wp2_with fail
 go_end0
 exact⟨rfl,q.o⟩
def TP(w:a2)(g:Nat)(d c f i r2 r3:Int)(x:Ai)(j p:aZ)(k a b:Int)(h:EX w g d c f i r2 r3 x j k a b p):
  bI prog 269 #[G (Z ⟨g,0,O⟩)] w fun e w'=>e=.returned (.tuple #[])∧EX w' g d c f i r2 r3 x j 10 x.a 0 (Y O 0 0)∧Upd [g] w w':=by
 have n:=Gk w g d c f i r2 r3 x j p k a b 10 O 0 0 h;have r:=HH n;clear n h;go_enter func269,ntmps269;go_wp2_with fail;refine r.o.mono ?_;rintro e s ⟨rfl,m,l⟩;have q:=HH (bR m l);clear m l;go_wp2_with fail
 go_end0
 exact⟨rfl,q.o⟩
def TW(w:a2)(g:Nat)(d c f i r2 r3:Int)(x:Ai)(j p:aZ)(k a b:Int)(h:EX w g d c f i r2 r3 x j k a b p):
  bI prog 271 #[G (Z ⟨g,0,O⟩)] w fun e w'=>e=.returned (.tuple #[])∧EX w' g d c f i r2 r3 x j 12 x.a 0 (Y O 0 0)∧Upd [g] w w':=by
 have n:=Gk w g d c f i r2 r3 x j p k a b 12 O 0 0 h;have r:=HH n;clear n h;go_enter func271,ntmps271;go_wp2_with fail;refine r.o.mono ?_;rintro e s ⟨rfl,m,l⟩;have q:=HH (bR m l);clear m l;go_wp2_with fail
 go_end0
 exact⟨rfl,q.o⟩
def TM(w:a2)(g:Nat)(d c f i r2 r3:Int)(x:Ai)(j p:aZ)(k a b:Int)(h:EX w g d c f i r2 r3 x j k a b p):
  bI prog 272 #[G (Z ⟨g,0,O⟩)] w fun e w'=>e=.returned (.tuple #[])∧EX w' g d c f i r2 r3 x j 13 x.a 0 (Y O 0 0)∧Upd [g] w w':=by
 have n:=Gk w g d c f i r2 r3 x j p k a b 13 O 0 0 h;have r:=HH n;clear n h;go_enter func272,ntmps272;go_wp2_with fail;refine r.o.mono ?_;rintro e s ⟨rfl,m,l⟩;have q:=HH (bR m l);clear m l;go_wp2_with fail
 go_end0
 exact⟨rfl,q.o⟩
def TY(w:a2)(g:Nat)(d c f i r2 r3:Int)(x:Ai)(j q:aZ)(k a b:Int)(h:EX w g d c f i r2 r3 x j k a b q):
  bI prog 273 #[G (Z ⟨g,0,O⟩)] w fun e w'=>e=.returned (.tuple #[])∧EX w' g d c f i r2 r3 x j 14 0 0 (Y O 0 0)∧Upd [g] w w':=by
 have l:=h.cell 11;have m:=h.cell 12;have n:=h.cell 13;have p:=h.cell 14;have f11:=h.frozen 11;have f12:=h.frozen 12;have f13:=h.frozen 13;have f14:=h.frozen 14;have r:=h.lt;simp at l m n p;have H:=HH h;clear h;go_enter func273,ntmps273;go_wp2
 go_end0
 exact⟨rfl,(CH ((CH ((CH ((CH (H.o) 11 _)) 12 _)) 13 _)) 14 _),Upd.s4⟩
def TQ(w:a2)(g:Nat)(n c d f r2 r3:Int)(x:Ai)(j i:aZ)(k a b:Int)(h:EX w g n c d f r2 r3 x j k a b i):
  bI prog 274 #[G (Z ⟨g,0,O⟩)] w fun e w'=>e=.returned (.tuple #[])∧EX w' g x.a c d f r2 r3 x j k a b i∧Upd [g] w w':=by
 have l:=h.cell 0;have m:=h.cell 7;have f0:=h.frozen 0;have p:=h.lt;simp at l m;have H:=HH h;clear h;go_enter func274,ntmps274;go_wp2
 go_end0
 exact⟨rfl,(CH (H.o) 0 _),Upd.s1⟩
def Ug(w:a2)(g:Nat)(c d f i r2 r3:Int)(x:Ai)(j r:aZ)(k a b:Int)(h:EX w g c d f i r2 r3 x j k a b r)(t:1≤c)(u:c≤1000000):
  bI prog 279 #[G (Z ⟨g,0,O⟩)] w fun e w'=>e=.returned (.tuple #[])∧EX w' g (c-1) d f i r2 r3 x j 16 0 0 (Y O 0 0)∧Upd [g] w w':=by
 have l:=h.cell 0;have m:=h.cell 11;have n:=h.cell 12;have p:=h.cell 13;have q:=h.cell 14;have f0:=h.frozen 0;have f11:=h.frozen 11;have f12:=h.frozen 12;have f13:=h.frozen 13;have f14:=h.frozen 14;have s:=h.lt;simp at l m n p q;have H:=HH h;clear h;go_enter func279,ntmps279;go_wp2
 go_end0
 exact⟨rfl,(CH ((CH ((CH ((CH ((CH (H.o) 0 _)) 11 _)) 12 _)) 13 _)) 14 _),Upd.s5⟩
def Ao(w:a2)(g:Nat)(f e:Int)(R:List Int)(x:Ai)(i:aZ)(k a b:Int)(h:aZ):Prop:=∃ c d r2 r3,R=[c,d,r2,r3]∧EX w g f e c d r2 r3 x i k a b h
section
variable {w:a2} {g:Nat} {pc left:Int} {R:List Int} {x:Ai} {vm vd:aZ} {k a b:Int}
def Ao.CB(h:Ao w g pc left R x vm k a b vd)(i:Int)(c:0≤i)(d:i≤3):w.cell? ⟨g,2+i.toNat,O⟩=Z (I U (R.getD i.toNat 0)):=by
 obtain⟨e,f,r2,r3,rfl,h⟩:=h;rw[h.cell];rcases(show i=0∨i=1∨i=2∨i=3 by omega) with rfl|rfl|rfl|rfl<;>rfl
def Ao.I5(h:Ao w g pc left R x vm k a b vd)(i v:Int)(c:0≤i)(d:i≤3):Ao (w.setCell ⟨g,2+i.toNat,O⟩ (I U v)) g pc left (R.set i.toNat v) x vm k a b vd:=by
 obtain⟨e,f,r2,r3,rfl,h⟩:=h;have:=CH h (2+i.toNat) (I U v);rcases(show i=0∨i=1∨i=2∨i=3 by omega) with rfl|rfl|rfl|rfl
 ·exact⟨_,_,_,_,rfl,this⟩
 ·exact⟨_,_,_,_,rfl,this⟩
 ·exact⟨_,_,_,_,rfl,this⟩
 ·exact⟨_,_,_,_,rfl,this⟩
def Ao.frozen(h:Ao w g pc left R x vm k a b vd)(o:Nat):w.frozen? ⟨g,o,O⟩=false:=by
 obtain⟨_,_,_,_,_,h⟩:=h;exact h.frozen o
def Ao.lt(h:Ao w g pc left R x vm k a b vd):g<w.heap.size:=by
 obtain⟨_,_,_,_,_,h⟩:=h;exact h.lt
end
def Ao.cell{w:a2}{g:Nat}{e d:Int}{R:List Int}{x:Ai}{f i:aZ}{k a b:Int}(h:Ao w g e d R x f k a b i):
  w.cell? ⟨g,0,O⟩=Z (I J e)∧w.cell? ⟨g,1,O⟩=Z (I J d)∧w.cell? ⟨g,7,O⟩=Z (I J x.a)∧w.cell? ⟨g,8,O⟩=Z (I J x.b)∧w.cell? ⟨g,9,O⟩=Z (I J x.c)∧w.cell? ⟨g,10,O⟩=Z f:=by
 obtain⟨_,_,_,_,_,h⟩:=h;exact⟨h.cell 0,h.cell 1,h.cell 7,h.cell 8,h.cell 9,h.cell 10⟩
def Ao.drew{w:a2}{g:Nat}{d c:Int}{R:List Int}{x:Ai}{f e:aZ}{k a b:Int}(h:Ao w g d c R x f k a b e):Ao w.drew g d c R x f k a b e:=h
def Ao.G3{w:a2}{g:Nat}{i c:Int}{R:List Int}{x:Ai}{f d:aZ}{k a b:Int}(h:Ao w g i c R x f k a b d)(v:Int):Ao (w.setCell ⟨g,0,O⟩ (I J v)) g v c R x f k a b d:=by
 obtain⟨_,_,_,_,e,h⟩:=h;exact⟨_,_,_,_,e,CH h 0 _⟩
def Ao.Ju{w:a2}{g:Nat}{c i:Int}{R:List Int}{x:Ai}{f d:aZ}{k a b:Int}(h:Ao w g c i R x f k a b d)(v:Int):Ao (w.setCell ⟨g,1,O⟩ (I J v)) g c v R x f k a b d:=by
 obtain⟨_,_,_,_,e,h⟩:=h;exact⟨_,_,_,_,e,CH h 1 _⟩
def Ao.below{w:a2}{g o:Nat}{d c:Int}{R:List Int}{x:Ai}{f e:aZ}{k a b:Int}(h:Ao w g d c R x f k a b e)(v:aZ):Upd [g] w (w.setCell ⟨g,o,O⟩ v):=have i:=h; .s1
def Un(w:a2)(g:Nat)(j i:Int)(R:List Int)(x:Ai)(m l:aZ)(k a b:Int)(h:Ao w g j i R x m k a b l)(c:0≤x.a)(d:x.a≤3):
  bI prog 275 #[G (Z ⟨g,0,O⟩)] w fun e w'=>e=.returned (.tuple #[])∧Ao w' g (if R.getD x.a.toNat 0=0 then x.b else j) i R x m k a b l∧Upd [g] w w':=by
 have n:=h.CB x.a c d;obtain⟨q,c1,s,t,u,r⟩:=h.cell;have f0:=h.frozen 0;have v:=h.lt;have H:=HH h;clear h;generalize R.getD x.a.toNat 0=z at n ⊢;by_cases f:z=0
 ·subst f;go_enter func275,ntmps275;go_wp2_with fail;refine(D3 w g x.a c d).mono ?_;rintro e p ⟨rfl,rfl⟩;go_wp2_with fail
  go_end0
  exact⟨rfl,H.o.G3 _,H.o.below _⟩
 ·have y:(z==0)=false:=by simpa using f
  go_enter func275,ntmps275;go_wp2_with fail;refine(D3 w g x.a c d).mono ?_;rintro e p ⟨rfl,rfl⟩;go_wp2_with fail
  go_end0
  exact⟨rfl,H.o,Upd.refl [g] w⟩
def Ao.fail{w:a2}{g:Nat}{i d:Int}{R:List Int}{x:Ai}{j l:aZ}{k a b:Int}(h:Ao w g i d R x j k a b l)(f c:Int)(p:0≤f)(q:f≤255):
  bI prog 284 #[G (Z ⟨g,0,O⟩),I U f,I J c] w fun e w'=>e=.returned (.tuple #[])∧Ao w' g i d R x j 15 f c (Y O 0 0)∧Upd [g] w w':=by
 obtain⟨r,s,r2,r3,rfl,h⟩:=h;exact(Ur w g i d r s r2 r3 x j l k a b f c h p q).mono fun e w' ⟨o,m,n⟩=>⟨o,⟨_,_,_,_,rfl,m⟩,n⟩
def Ao.Md{w:a2}{g:Nat}{l j:Int}{R:List Int}{x:Ai}{m n:aZ}{k a b:Int}(h:Ao w g l j R x m k a b n)(i:Int)(c:Option Addr)(f d:Nat):
  bI prog 282 #[G (Z ⟨g,0,O⟩),I U i,Y c f d] w fun e w'=>e=.returned (.tuple #[])∧Ao w' g l j R x m i x.a 0 (Y c f d)∧Upd [g] w w':=by
 obtain⟨r,s,r2,r3,rfl,h⟩:=h;exact(Gk w g l j r s r2 r3 x m n k a b i c f d h).mono fun e w' ⟨q,o,p⟩=>⟨q,⟨_,_,_,_,rfl,o⟩,p⟩
def TO(w:a2)(g:Nat)(i f:Int)(R:List Int)(x:Ai)(j n:aZ)(k a b:Int)(h:Ao w g i f R x j k a b n):
  bI prog 278 #[G (Z ⟨g,0,O⟩)] w fun e w'=>e=.returned (.tuple #[])∧Ao w' g i f R x j 15 3 x.a (Y O 0 0)∧Upd [g] w w':=by
 have m:=HH (h.fail 3 x.a (by decide) (by decide));obtain⟨p,c1,r,s,t,q⟩:=h.cell;have f0:=h.frozen 0;have u:=h.lt;have H:=HH h;clear h;go_enter func278,ntmps278;go_wp2_with fail;refine m.o.mono ?_;rintro e v ⟨rfl,d,c⟩;have l:=HH (bR d c);clear d c;go_wp2_with fail
 go_end0
 exact⟨rfl,l.o⟩
def Ud(w:a2)(g:Nat)(i f:Int)(R:List Int)(x:Ai)(l j:aZ)(k a b:Int)(h:Ao w g i f R x l k a b j)(c:0≤x.a)(d:x.a≤3):
  bI prog 257 #[G (Z ⟨g,0,O⟩)] w fun e w'=>e=.returned (.tuple #[])∧Ao w' g i f (R.set x.a.toNat (x.b%256)) x l k a b j∧Upd [g] w w':=by
 have s:=h.CB x.a c d;have t:=h.frozen (2+x.a.toNat);obtain⟨m,c1,p,q,r,n⟩:=h.cell;have f0:=h.frozen 0;have u:=h.lt;have H:=HH h;clear h;go_enter func257,ntmps257
 go_region_with ((go_at_call 280;refine(D3 _ g x.a c d).mono ?_;rintro e v ⟨rfl,rfl⟩))
 all_goals
  go_end0
  first
   |exact⟨rfl,H.o.I5 _ _ c d,H.o.below _⟩
   |exact⟨rfl,Ao.drew (H.o.I5 _ _ c d),(H.o.below _).drew⟩
   |exact⟨rfl,Ao.I5 (Ao.drew H.o) _ _ c d,(Upd.refl [g] w).drew.trans .s1⟩
def Sl.low{w:a2}{B sz n g o:Nat}{v u:aZ}{a:List aZ}(h:Sl w B sz v n a)(x:g<B):Sl (w.setCell ⟨g,o,O⟩ u) B sz v n a:=by
 obtain⟨c,cap,s,m,p,l,q⟩:=h;refine⟨c,cap,s,m,p,l,fun d=>?_⟩;obtain⟨b,t,f,e,i,k⟩:=q d;exact⟨b,t,f,e,by simpa[b8] using i,fun j u r=>(World.cell?_of_block (bm _ _ _ _ (by show b≠g;omega))).trans (k j u r)⟩
def KS(w:a2)(g o:Nat)(u:aZ):w.grownBy (w.setCell ⟨g,o,O⟩ u) (Z g):=⟨rfl,rfl,rfl,by simp[b8],fun k _ a=>bm _ _ _ _ (fun e=>a (by rw[e]))⟩
def Hv{w:a2}{B e s n g o:Nat}{v u:aZ}{a:List aZ}(h:w.ownsRow B e s v n a)(c:g<B):(w.setCell ⟨g,o,O⟩ u).ownsRow B e s v n a:=by
 refine h.kept (KS w g o u) ?_;cases b:v.ownBlock with
 |none=>exact .inl rfl
 |some k=>exact .inr (by have:=(h.lt k b).1;simp;omega)
def MR{w:a2}{B e s n g o t:Nat}{v u:aZ}{c:List aZ}{d:Array aZ}{f:Nat×Nat}(h:w.ownsRow B e s v n c)(i:w.heap[g]? =Z (T d t f))(j:t≠e):(w.setCell ⟨g,o,O⟩ u).ownsRow B e s v n c:=by
 refine h.kept (KS w g o u) ?_;rcases h.2 with ⟨rfl,_⟩|⟨m,k,l,rfl,_,a,_⟩
 ·exact .inl rfl
 ·right;intro b;simp only[b5,bl] at b;subst b;rw[i] at a;simp only[bl,b4] at a;exact j a.2.1
section
variable {w:a2} {B g o:Nat} {v u:aZ} {q:List (List Int)}
def A6.low(h:A6 w B v q)(a:g<B):A6 (w.setCell ⟨g,o,O⟩ u) B v q:=by
 obtain⟨vs,b,c⟩:=h;exact⟨vs,b.low a,fun i u x d e=>(c i u x d e).low a⟩
def Bk.low(h:Bk w B v q)(a:g<B):Bk (w.setCell ⟨g,o,O⟩ u) B v q:=by
 obtain⟨vs,b,c⟩:=h;exact⟨vs,Hv b a,fun i u x d e=>Hv (c i u x d e) a⟩
def Bk.oth{t:Nat}{b:Array aZ}{c:Nat×Nat}(h:Bk w B v q)(a:w.heap[g]? =Z (T b t c))(f:t≠34)(j:t≠5):Bk (w.setCell ⟨g,o,O⟩ u) B v q:=by
 obtain⟨vs,d,e⟩:=h;exact⟨vs,MR d a f,fun i u x k l=>MR (e i u x k l) a j⟩
end
def EM{a w:a2}(h:Below a.drew.heap.size a.drew w):Bl a w:=⟨h.os,h.tape,h.output,h.size,h.block⟩
def Rg(w:a2)(q:List (List Int))(l:List Wt)(n:Int)(e:Ending)(w':a2):Prop:=
 ∃ vq vw,e=.returned (.agg #[vq,vw,I J n])∧Bk w' w.heap.size vq q∧Aq w' w.heap.size vw l∧Bl w w'
def Aj{W:a2}{g:Nat}{x y z:aZ}{t:cb}(h:W.heap[g]? =Z (T #[x,y,z] t (0,0))):
  W.cell? ⟨g,0,O⟩=Z x∧W.cell? ⟨g,1,O⟩=Z y∧W.cell? ⟨g,2,O⟩=Z z∧W.frozen? ⟨g,0,O⟩=false∧W.frozen? ⟨g,1,O⟩=false∧W.frozen? ⟨g,2,O⟩=false:=by
 refine⟨?_,?_,?_,?_,?_,?_⟩
 ·rw[b0 _ _ _ _ _ _ h];rfl
 ·rw[b0 _ _ _ _ _ _ h];rfl
 ·rw[b0 _ _ _ _ _ _ h];rfl
 ·simp[b3,h]
 ·simp[b3,h]
 ·simp[b3,h]
def Fe(vq vw:aZ)(q:List (List Int))(l:List Wt)(n:Int)(w:a2)(z:A6 w 0 vq q)(m:Al w 0 vw l)(hl:l.length≤100000)(am:q.length≤100000)(F:∀ x∈q,x.length≤1000000):
  bI prog 93 #[.agg #[vq,vw,I J n]] w (Rg w q l n):=by
 obtain⟨h,r,j,rfl,ad⟩:=z.shape;clear ad;obtain⟨i,k,rfl,K,ae,af⟩:=m.open_;clear af;generalize H:l.length=s at m ⊢ K;have al:=HH H;clear H K ae;obtain⟨a,b⟩:=ex ((w.alloc (T #[Y h r j,Y i s k,I J n] 107)).alloc (T #[Y O 0 0,Y O 0 0,I J 0] 107));have S:Hq (A6 a 0 (Y h r j) q):=by subst b;exact(z.alloc _).alloc _
 have V:Hq (Al a 0 (Y i s k) l):=by subst b;exact(m.alloc _).alloc _
 have ao:a.heap.size=w.heap.size+2:=by subst b;simp
 have hA0:a.heap[w.heap.size]? =Z (T #[Y h r j,Y i s k,I J n] 107 (0,0)):=by subst b;exact(bJ _ _ _ (by simp)).trans (bH w _)
 have E:a.heap[w.heap.size+1]? =Z (T #[Y O 0 0,Y O 0 0,I J 0] 107 (0,0)):=by
  subst b;have:=bH (w.alloc (T #[Y h r j,Y i s k,I J n] 107)) (T #[Y O 0 0,Y O 0 0,I J 0] 107);simpa using this
 have M:Hq (Bl w a):=by subst b;exact((bw _ w).alloc (bM _) _).alloc (by simp) _
 obtain⟨A,R⟩:=H2 hA0 E;obtain⟨p0,p1,p2,p3,p4,p5⟩:=Aj hA0;have N:=HH F;clear z m hA0 E F;go_enter func93,ntmps93;go_upto_region 1 with (fail);rw[←b];clear b
 go_region_with (first
  |(go_at_call 129;(refine(SW _ q _ (by exact S.o) (by omega) N.o).mono ?_;rintro e f ⟨v2,rfl,u,d⟩;obtain⟨C,L,c2,rfl,ac⟩:=u.rd.shape;clear ac;have P:=HH u;replace d:Bl a f:=(by first|exact d|exact EM d);have g:=HH d;obtain⟨aE,aF,aG,aH,aI,aJ⟩:=Aj ((d.block _ (by omega)).trans A.o);have ag:a.heap.size≤f.heap.size:=d.size;clear u d))
  |(go_at_call 112;(refine(GK _ l _ (by exact V.o.below g.o) (by omega)).mono ?_;rintro e t ⟨v3,rfl,y,c⟩;obtain⟨D,c3,rfl⟩:=Bq y;have Q:=HH y;replace c:Bl f t:=(by first|exact c|exact EM c);have B:=HH c;obtain⟨aK,aL,aM,aN,aO,aP⟩:=Aj ((c.block _ (by omega)).trans ((g.o.block _ (by omega)).trans A.o));have an:f.heap.size≤t.heap.size:=c.size;obtain⟨ah,ai,aj,az,aA,aB⟩:=Aj ((c.block _ (by omega)).trans ((g.o.block _ (by omega)).trans R.o));clear y c)))
 all_goals
  go_wp2;refine bq (v:=.agg #[Y C L c2,Y D l.length c3,I J n]) (by simp[b1,results93,go_sem,ah,ai,aj]) rfl ?_;have W:Bk f a.heap.size (Y C L c2) q:=P.o;have h3:Aq t f.heap.size (Y D l.length c3) l:=Aq.Bw Q.o;have X:=W.below B.o;have hB:Bl w t:=M.o.trans ((g.o.trans (B.o.mono ag)).mono (by omega));refine⟨_,_,rfl,?_,?_,?_⟩
  ·exact(((((X.low (by omega)).low (by omega)).low (by omega)).low (by omega)).low (by omega)).mono (by omega)
  ·exact(((((h3.low (by omega)).low (by omega)).low (by omega)).low (by omega)).low (by omega)).mono (by omega)
  ·exact((((hB.setCell (p:=⟨w.heap.size,0,O⟩) (by show _≤w.heap.size;omega) _).setCell (p:=⟨w.heap.size,1,O⟩) (by show _≤w.heap.size;omega) _).setCell (p:=⟨w.heap.size+1,0,O⟩) (by show _≤w.heap.size+1;omega) _).setCell (p:=⟨w.heap.size+1,1,O⟩) (by show _≤w.heap.size+1;omega) _).setCell (p:=⟨w.heap.size+1,2,O⟩) (by show _≤w.heap.size+1;omega) _
def NF(g:Nat)(a:Array aZ)(p:List Int→Bool)(w:a2):Prop:=
 ∀ (W:a2) (u:aZ) (x:List Int),Bl w W→Af U W 0 u x→bI prog g (#[u]++a) W fun e w'=>e=.returned (.bool (p x))∧Bl w w'
def UU(v:aZ)(l:List (List Int))(g:Nat)(D:Array aZ)(p:List Int→Bool)(eg:∀ args w,(callFunc g args).run prog w=.ok (.enter g args) w)(w:a2)(h:A6 w 0 v l)(hl:l.length≤1000000)(y:NF g D p w):
  bI prog 167 #[v,.func (.func g) #[] D] w fun e w'=>e=.returned (I J (DL p l))∧Bl w w':=by
 obtain⟨vs,⟨W,q,rfl,ab,af,C,E⟩,t⟩:=h;obtain⟨H,K,F,L⟩:=H4 y E t C;clear y E t C;go_enter func167,ntmps167;go_wp2
 go_loopg [5,8] l.length (fun M _ V wr=>∃ k:Nat,k≤l.length∧l.length-k≤M∧V=I J k∧Hq (Bl w wr)∧Hq (∀ j (d:j<k) (u:j<l.length),p l[j]=false))
 case atStart=>exact⟨0,Nat.zero_le _,by omega,rfl,bw _ w,fun j d=>absurd d (Nat.not_lt_zero _)⟩
 case round=>
  obtain⟨k,hk,hg,rfl,f,A⟩:=hrel;by_cases x:k<l.length
  ·have Q:(k:Int)<(l.length:Int):=by omega
   obtain⟨b,ah,rfl,_,N,q⟩:=K.o (by omega);have P:k<vs.length:=by have:=L.o;omega
   have s:vs[k]? =Z vs[k]:=b9 P;have z:l[k]? =Z l[k]:=b9 x;have n:=q k _ s;have R:=(F.o k _ _ s z).below f.o;rw[←f.o.cell (p:=⟨b,_,O⟩) N] at n;obtain⟨X,mu,B,_,_,_⟩:=R.open_;rw[B] at n R;have a:=H.o wr _ l[k] f.o R;generalize S:l[k].length=nq at n a;clear S;clear q s z B R;cases c:p l[k] with
   |true=>
    rw[c] at a;obtain⟨i,m⟩:=H2 a c;clear a c;go_wp2_with (refine i.o.mono ?_;rintro e w' ⟨rfl,r⟩);go_ret;exact⟨EH (JY p l k x m.o A.o).symm,r⟩
   |false=>
    rw[c] at a;obtain⟨i,m⟩:=H2 a c;clear a c;go_wp2_with (refine i.o.mono ?_;rintro e w' ⟨rfl,r⟩)
    go_roundg (l.length-(k+1))
    case measure=>omega
    case rel=>
     refine⟨k+1,by omega,by omega,by go_num,r,fun j d u=>?_⟩;by_cases e:j=k
     ·subst e;exact m.o
     ·exact A.o j (by omega) u
  ·have Q:¬(k:Int)<(l.length:Int):=by omega
   go_wp2;go_ret;exact⟨EH (JZ p l (fun j d=>A.o j (by omega) d)).symm,f.o⟩
def Ss(v:aZ)(l:List (List Int))(g:Nat)(a:Array aZ)(p:List Int→Bool)(c:∀ args w,(callFunc g args).run prog w=.ok (.enter g args) w)(w:a2)(h:A6 w 0 v l)(i:l.length≤1000000)(d:NF g a p w):
  bI prog 133 #[v,.func (.func g) #[] a] w fun e w'=>e=.returned (.bool (l.any p))∧Bl w w':=by
 have b:=HH (UU v l g a p c w h i d);rw[←KI];generalize DL p l=q at b ⊢;clear h d c;go_enter func133,ntmps133;go_wp2_with (go_at_call 167;refine b.o.mono ?_;rintro e w' ⟨rfl,f⟩);go_ret;exact⟨rfl,f⟩
def JN(s:Int)(x:List Int):Bool:=decide ((x.length:Int)<1)||decide (s<(x.length:Int))
def Zv(u:aZ)(x:List Int)(g:Nat)(s:Int)(w W:a2)(d:w.cell? ⟨g,3,O⟩=Z (I J s))(f:g<w.heap.size)(a:Bl w W)(h:Af U W 0 u x):
  bI prog 132 #[u,G (Z ⟨g,0,O⟩)] W fun e w'=>e=.returned (.bool (JN s x))∧Bl w w':=by
 have j:W.cell? ⟨g,3,O⟩=Z (I J s):=(a.cell (p:=⟨g,3,O⟩) f).trans d;have k:g<W.heap.size:=bL f a.size;obtain⟨i,l,rfl,_,_,_⟩:=h.open_;have b:=HH a;clear a d h;unfold JN;generalize x.length=m;by_cases c:(m:Int)<1
 ·rw[decide_eq_true c];go_enter func132,ntmps132;go_wp2;go_ret;exact⟨rfl,b.o⟩
 ·rw[decide_eq_false c,Bool.false_or];go_enter func132,ntmps132;go_wp2;go_ret;exact⟨A8 (by first|rfl|simp),b.o⟩
def Zw(x:Wt)(w W:a2)(b:Bl w W):
  bI prog 135 #[.agg #[I J x.proc,I J x.prio,I U x.val]] W fun e w'=>e=.returned (.bool (x.val !=0))∧Bl w w':=by
 have a:=HH b;clear b;go_enter func135,ntmps135;go_wp2;go_ret;exact⟨rfl,a.o.alloc a.o.size _⟩
def Z4(x:Wt)(g:Nat)(q:Int)(w W:a2)(c:w.cell? ⟨g,0,O⟩=Z (I J q))(d:g<w.heap.size)(a:Bl w W):
  bI prog 181 #[.agg #[I J x.proc,I J x.prio,I U x.val],G (Z ⟨g,0,O⟩)] W fun e w'=>e=.returned (.bool (decide (x.proc=q)))∧Bl w w':=by
 have f:W.cell? ⟨g,0,O⟩=Z (I J q):=(a.cell (p:=⟨g,0,O⟩) d).trans c;have i:g<W.heap.size:=bL d a.size;have b:=HH a;clear a c;go_enter func181,ntmps181;go_wp2;go_ret;exact⟨A8 (by by_cases h:x.proc=q<;>simp[h]),b.o.alloc b.o.size _⟩
def N2(d:Option Addr)(i f:Nat)(vw:aZ)(l:List Wt)(n q:Int)(w:a2)(h:Al w 0 vw l)(E:l.length≤100000):
  bI prog 147 #[.agg #[Y d i f,vw,I J n],I J q] w fun e w'=>e=.returned (.bool (l.any fun x=>decide (x.proc=q)))∧Bl w w':=by
 obtain⟨m,p,rfl,B,F,_⟩:=h.open_;generalize A:l.length=v at h ⊢ B;obtain⟨a,b⟩:=ex ((w.alloc (T #[Y d i f,Y m v p,I J n] 107)).alloc (T #[I J q] 3));have D:a.heap.size=w.heap.size+2:=by subst b;simp
 have s:a.heap[w.heap.size+1]? =Z (T #[I J q] 3 (0,0)):=by
  subst b;have:=bH (w.alloc (T #[Y d i f,Y m v p,I J n] 107)) (T #[I J q] 3);simpa using this
 have g:Bl w a:=by subst b;exact((bw _ _).alloc (bM _) _).alloc (by simp) _
 have t:a.cell? ⟨w.heap.size+1,0,O⟩=Z (I J q):=by rw[b0 a _ _ _ _ _ s];rfl
 obtain⟨c,j,k⟩:=H3 (JS _ l _ #[G (Z ⟨w.heap.size+1,0,O⟩)] _ (Gn func181 (by kernel_rfl) rfl) a (h.below g) (by omega) (fun W x z=>Z4 x (w.heap.size+1) q a W t (by omega) z)) g b;have C:w.heap.size≤a.heap.size:=by omega
 clear g b D s t h A;generalize (l.any fun x=>decide (x.proc=q))=r at c ⊢;go_enter func147,ntmps147;go_wp2_with fail;rw[←k.o];refine c.o.mono ?_;rintro e H ⟨rfl,u⟩;have y:=HH (j.o.trans (u.mono C));clear u c k j;go_wp2_with fail;go_ret;exact⟨rfl,y.o⟩
def Fm(k s d r:Int):Bool:=k !=2||decide (s<1)||decide (64<s)||decide (d<1)||decide (16<d)||r !=0
def Ey(d n:Int)(a b:Nat)(o:Bool):Bool:=decide (d<(a:Int))||(decide (0<(a:Int)) && decide (0<(b:Int)))||decide (n<0)||decide (1073741824<n)||!o
def A6.C2{w:a2}{B:Nat}{v:aZ}{q:List (List Int)}(h:A6 w B v q):∃ a c,v=Y a q.length c:=by
 obtain⟨vs,⟨b,cap,d,_⟩,_⟩:=h;exact⟨b,cap,d⟩
def BP(k s d r:Int)(q:List (List Int))(l:List Wt)(n:Int):Bool:=!Fm k s d r && !Ey d n q.length l.length (decide (AY l)) && !q.any (JN s) && !l.any (fun x=>x.val !=0)
def Zr(nm:ByteArray)(k:Int)(o:Bool)(s d r n:Int)(vq vw:aZ)(q:List (List Int))(l:List Wt)(w:a2)(hq:A6 w 0 vq q)(hw:Al w 0 vw l)(aH:Ck l)(hl:l.length≤100000)(bc:q.length≤100000):
  bI prog 97 #[.agg #[.string nm,I U k,.bool o,I J s,I J d,I J r,vq,vw,I J n]] w fun e w'=>e=.returned (.bool (BP k s d r q l n))∧Bl w w':=by
 obtain⟨B,E,rfl⟩:=hq.C2;obtain⟨C,F,rfl,aT,aU,aV⟩:=hw.open_;clear aT aU aV;obtain⟨a,m⟩:=ex (w.alloc (T #[.string nm,I U k,.bool o,I J s,I J d,I J r,Y B q.length E,Y C l.length F,I J n] 167));have aM:Hq (A6 a 0 (Y B q.length E) q):=by subst m;exact hq.alloc _
 have ag:Hq (Al a 0 (Y C l.length F) l):=by subst m;exact hw.alloc _
 have ab:Hq (Bl w a):=by subst m;exact(bw _ w).alloc (bM _) _
 have be:a.heap.size=w.heap.size+1:=by subst m;simp
 have au:Hq (a.heap[w.heap.size]? =Z (T #[.string nm,I U k,.bool o,I J s,I J d,I J r,Y B q.length E,Y C l.length F,I J n] 167 (0,0))):=by subst m;exact bH w _
 have av:=HH aH;have aC:∀ W:a2,W.heap[w.heap.size]? =Z (T #[.string nm,I U k,.bool o,I J s,I J d,I J r,Y B q.length E,Y C l.length F,I J n] 167 (0,0))→W.cell? ⟨w.heap.size,1,O⟩=Z (I U k)∧W.cell? ⟨w.heap.size,3,O⟩=Z (I J s)∧W.cell? ⟨w.heap.size,4,O⟩=Z (I J d)∧W.cell? ⟨w.heap.size,5,O⟩=Z (I J r)∧
   W.cell? ⟨w.heap.size,6,O⟩=Z (Y B q.length E)∧W.cell? ⟨w.heap.size,7,O⟩=Z (Y C l.length F)∧W.cell? ⟨w.heap.size,8,O⟩=Z (I J n):=fun W h=>by
  refine⟨?_,?_,?_,?_,?_,?_,?_⟩<;>(rw[b0 _ _ _ _ _ _ h];rfl)
 have ad:=HH aC;clear hq hw aH aC;unfold BP;go_enter func97,ntmps97;go_upto_region 1 with (fail);rw[←m];clear m;obtain⟨c1,c3,c4,c5,c6,c7,c8⟩:=ad.o a au.o;have aI:w.heap.size<a.heap.size:=by omega
 go_cut [37] (fun a0 wx=>a0=.bool (Fm k s d r)∧a=wx)
 case first=>
  by_cases h0:k=2
  rotate_left
  ·have q0:(k !=2)=true:=by simp[h0]
   have c:=HH q0;go_wp2
   go_meet
   exact⟨congrArg br (show true=_ by unfold Fm;rw[c.o];rfl),rfl⟩
  ·have q0:(k !=2)=false:=by simp[h0]
   have c:=HH q0;clear h0;by_cases h1:s<1
   ·have g:=HH (decide_eq_true h1);go_wp2
    go_meet
    exact⟨congrArg br (show true=_ by unfold Fm;rw[c.o,g.o];rfl),rfl⟩
   ·have g:=HH (decide_eq_false h1);by_cases h2:64<s
    ·have t:=HH (decide_eq_true h2);go_wp2
     go_meet
     exact⟨congrArg br (show true=_ by unfold Fm;rw[c.o,g.o,t.o];rfl),rfl⟩
    ·have t:=HH (decide_eq_false h2);by_cases h3:d<1
     ·have v:=HH (decide_eq_true h3);go_wp2
      go_meet
      exact⟨congrArg br (show true=_ by unfold Fm;rw[c.o,g.o,t.o,v.o];rfl),rfl⟩
     ·have v:=HH (decide_eq_false h3);by_cases h4:16<d
      ·have P:=HH (decide_eq_true h4);go_wp2
       go_meet
       exact⟨congrArg br (show true=_ by unfold Fm;rw[c.o,g.o,t.o,v.o,P.o];rfl),rfl⟩
      ·have P:=HH (decide_eq_false h4);by_cases h5:r=0
       rotate_left
       ·have q5:(r !=0)=true:=by simp[h5]
        have E5:=HH q5;go_wp2
        go_meet
        exact⟨congrArg br (show true=_ by unfold Fm;rw[c.o,g.o,t.o,v.o,P.o,E5.o];rfl),rfl⟩
       ·have q5:(r !=0)=false:=by simp[h5]
        have E5:=HH q5;clear h5;go_wp2
        go_meet
        exact⟨congrArg br (show false=_ by unfold Fm;rw[c.o,g.o,t.o,v.o,P.o,E5.o];rfl),rfl⟩
 case rest=>
  obtain⟨rfl,rfl⟩:=hcut;cases R:Fm k s d r with
  |true=>
   have z:=HH R;clear R;go_wp2_with fail;go_ret;exact⟨A8 (by rw[z.o];rfl),ab.o⟩
  |false=>
   have z:=HH R;clear R;go_upto_region 3 with (fail)
   go_cut [78] (fun a1 wx=>a1=.bool (Ey d n q.length l.length (decide (AY l)))∧Bl a wx)
   case first=>
    by_cases hd:d<(q.length:Int)
    ·have D:=HH (decide_eq_true hd);go_wp2_with fail
     go_meet
     exact⟨congrArg br (show true=_ by unfold Ey;rw[D.o];rfl),bw _ _⟩
    ·have D:=HH (decide_eq_false hd);by_cases aE:0<(q.length:Int)
     ·have aW:0<q.length:=by omega
      have f:=HH (decide_eq_true aE);by_cases aG:0<(l.length:Int)
      ·have aY:0<l.length:=by omega
       have A:=HH (decide_eq_true aG);go_wp2_with fail
       go_meet
       exact⟨congrArg br (show true=_ by unfold Ey;rw[D.o,f.o,A.o];rfl),bw _ _⟩
      ·have aY:¬0<l.length:=by omega
       have A:=HH (decide_eq_false aG);by_cases L:n<0
       ·have b:=HH (decide_eq_true L);go_wp2_with fail
        go_meet
        exact⟨congrArg br (show true=_ by unfold Ey;rw[D.o,f.o,A.o,b.o];rfl),bw _ _⟩
       ·have b:=HH (decide_eq_false L);by_cases M:1073741824<n
        ·have j:=HH (decide_eq_true M);go_wp2_with fail
         go_meet
         exact⟨congrArg br (show true=_ by unfold Ey;rw[D.o,f.o,A.o,b.o,j.o];rfl),bw _ _⟩
        ·have j:=HH (decide_eq_false M);go_wp2_with fail;refine(Li _ l a ag.o av.o (by omega)).mono ?_;rintro e w1 ⟨rfl,H⟩;have i:=HH H;clear H;generalize N:decide (AY l)=od;have ae:=HH N;clear N;go_wp2_with fail
         go_meet
         exact⟨congrArg br (show(!od)=_ by unfold Ey;rw[D.o,f.o,A.o,b.o,j.o,ae.o];rfl),i.o⟩
     ·have aW:¬0<q.length:=by omega
      have f:=HH (decide_eq_false aE);by_cases L:n<0
      ·have b:=HH (decide_eq_true L);go_wp2_with fail
       go_meet
       exact⟨congrArg br (show true=_ by unfold Ey;rw[D.o,f.o,b.o];rfl),bw _ _⟩
      ·have b:=HH (decide_eq_false L);by_cases M:1073741824<n
       ·have j:=HH (decide_eq_true M);go_wp2_with fail
        go_meet
        exact⟨congrArg br (show true=_ by unfold Ey;rw[D.o,f.o,b.o,j.o];rfl),bw _ _⟩
       ·have j:=HH (decide_eq_false M);go_wp2_with fail;refine(Li _ l a ag.o av.o (by omega)).mono ?_;rintro e w1 ⟨rfl,H⟩;have i:=HH H;clear H;generalize N:decide (AY l)=od;have ae:=HH N;clear N;go_wp2_with fail
        go_meet
        exact⟨congrArg br (show(!od)=_ by unfold Ey;rw[D.o,f.o,b.o,j.o,ae.o];rfl),i.o⟩
   case rest=>
    obtain⟨rfl,p⟩:=hcut;have i:=HH (ab.o.trans (p.mono ab.o.size));have aj:=(p.block _ aI).trans au.o;obtain⟨d1,d3,d4,d5,d6,d7,d8⟩:=ad.o wc aj;have an:w.heap.size<wc.heap.size:=bL aI p.size;obtain⟨a3,aN,aO,aK⟩:=H4 p (aM.o.below p) (ag.o.below p) aj;clear p aj c1 c3 c4 c5 c6 c7 c8;cases S:Ey d n q.length l.length (decide (AY l)) with
    |true=>
     have Q:=HH S;clear S;go_wp2_with fail;go_ret;exact⟨A8 (by rw[z.o,Q.o];rfl),i.o⟩
    |false=>
     have Q:=HH S;clear S;have y:=HH (Ss _ q _ #[G (Z ⟨w.heap.size,0,O⟩)] (JN s) (Gn func132 (by kernel_rfl) rfl) wc aN.o (by omega) (fun W u x hW hu=>Zv u x w.heap.size s wc W d3 an hW hu));go_wp2_with fail;refine y.o.mono ?_;clear y;rintro e X ⟨rfl,K⟩;have ac:=HH (i.o.trans (K.mono i.o.size));obtain⟨e1,e3,e4,e5,e6,e7,e8⟩:=ad.o X ((K.block _ an).trans aK.o);have bd:w.heap.size<X.heap.size:=bL an K.size;have aP:=HH (aO.o.below K);clear K d1 d3 d4 d5 d6 d7 d8;cases V:q.any (JN s) with
     |true=>
      have af:=HH V;clear V;go_wp2_with fail;go_ret;exact⟨A8 (by rw[z.o,Q.o,af.o];rfl),ac.o⟩
     |false=>
      have af:=HH V;clear V;have y:=HH (JS _ l _ #[] _ (Gn func135 (by kernel_rfl) rfl) X aP.o (by omega) (fun W x hW=>Zw x X W hW));go_wp2_with fail;refine y.o.mono ?_;clear y;rintro e w3 ⟨rfl,aB⟩;have aJ:=HH (ac.o.trans (aB.mono ac.o.size));clear aB;generalize aF:(l.any fun x=>x.val !=0)=qq;have aL:=HH aF;clear aF;go_wp2_with fail;go_ret;exact⟨A8 (by rw[z.o,Q.o,af.o,aL.o];cases qq<;>rfl),aJ.o⟩
def DY(nm:ByteArray)(k:Int)(o:Bool)(s d r n:Int)(vq vw:aZ)(q:List (List Int))(l:List Wt)(w:a2)(h:A6 w 0 vq q)(i:Al w 0 vw l)(v:Ck l)(C:l.length≤100000)(H:q.length≤100000):
  bI prog 54 #[.agg #[.string nm,I U k,.bool o,I J s,I J d,I J r],.agg #[vq,vw,I J n]] w fun e w'=>e=.returned (.bool (BP k s d r q l n))∧Bl w w':=by
 obtain⟨y,K,A,rfl,D⟩:=h.shape;obtain⟨z,B,u,E,F,_⟩:=i.open_;obtain⟨L,t⟩:=ex l.length;rw[←t] at u;subst u;obtain⟨m,g⟩:=ex ((w.alloc (T #[.string nm,I U k,.bool o,I J s,I J d,I J r] 62)).alloc (T #[Y y K A,Y z L B,I J n] 107));have a:Bl w m:=by subst g;exact((bw _ w).alloc (bM _) _).alloc (by simp) _
 obtain⟨f,j,c⟩:=H3 (Zr nm k o s d r n _ _ q l m (h.below a) (i.below a) v C H) g a;clear h i v D t E F g a;generalize BP k s d r q l n=b at f ⊢;go_enter func54,ntmps54;go_wp2_with fail;rw[←j.o];refine f.o.mono ?_;rintro e M ⟨rfl,p⟩;have x:=HH (c.o.trans (p.mono c.o.size));clear p f j c;go_wp2_with fail;go_ret;exact⟨rfl,x.o⟩
def A6.head{w:a2}{B m d:Nat}{a:Option Addr}{x:List Int}{t k:List (List Int)}(h:A6 w B (Y a m d) k)(p:k=x::t):m=t.length+1∧1≤d∧∃ b c u,a=Z ⟨b,c,O⟩∧B≤b∧b<w.heap.size∧w.cell? ⟨b,c,O⟩=Z u∧Af U w B u x:=by
 subst p;obtain⟨vs,⟨q,cap,g,i,r,e,f⟩,o⟩:=h;simp only[bs,bK] at g;obtain⟨rfl,rfl,rfl⟩:=g;simp only[bK] at i e f;obtain⟨b,c,rfl,j,l,n⟩:=f (by omega)
 match vs,e with
 |u::us,_=>exact⟨rfl,by omega,b,c,u,rfl,j,l,n 0 _ rfl,o 0 _ _ rfl rfl⟩
def A6.tail{w:a2}{B b a m d:Nat}{x:List Int}{t k:List (List Int)}(h:A6 w B (Y (Z ⟨b,a,O⟩) m d) k)(s:k=x::t):A6 w B (Y (if d=1 then Z ⟨b,a,O⟩ else Z ⟨b,a+1,O⟩) (m-1) (d-1)) t:=by
 subst s;obtain⟨vs,⟨D,cap,g,l,H,c,f⟩,q⟩:=h;simp only[bs,bK] at g;obtain⟨rfl,rfl,rfl⟩:=g;simp only[bK] at l c f;obtain⟨E,K,e,n,o,p⟩:=f (by omega);simp only[bl,b6,and_true] at e;obtain⟨rfl,rfl⟩:=e;rw[Nat.add_sub_cancel]
 match vs,c with
 |u::us,c=>
  refine⟨us,⟨_,_,rfl,by omega,?_,by simp at c;omega,fun F=>?_⟩,fun i A C y z=>q (i+1) A C y z⟩
  ·intro h;split at h<;>cases h
  ·rw[if_neg (by omega)];refine⟨b,a+1,rfl,n,o,fun j v r=>?_⟩;have:=p (j+1) v r;rw[show a+1+j=a+(j+1) by omega];exact this
structure QM(w W:a2)(nm:ByteArray)(k:Int)(o:Bool)(s d r:Int)(vq0 vw0:aZ)(n0:Int)(g:Nat)(vq vw:aZ)(n:Int)(q:List (List Int))(l:List Wt):Prop where
 Bj:W.heap[w.heap.size]? =Z (T #[.string nm,I U k,.bool o,I J s,I J d,I J r] 62 (0,0))
 arg:W.heap[w.heap.size+1]? =Z (T #[vq0,vw0,I J n0] 107 (0,0))
 res:W.heap[w.heap.size+1+1]? =Z (T #[Y O 0 0,Y O 0 0,I J 0] 107 (0,0))
 ge:w.heap.size+3≤g
 obj:W.heap[g]? =Z (T #[vq,vw,I J n] 107 (0,0))
 oq:Bk W (w.heap.size+3) vq q
 fr:Aq W (w.heap.size+3) vw l
 ap:∀ a m c,vw=Y (Z a) m c→0<m→a.block≠g
 bel:Bl w W
def W3(w:a2)(nm:ByteArray)(k:Int)(o:Bool)(s d r:Int)(vq vw:aZ)(n:Int):a2:=
 ((w.alloc (T #[.string nm,I U k,.bool o,I J s,I J d,I J r] 62)).alloc (T #[vq,vw,I J n] 107)).alloc (T #[Y O 0 0,Y O 0 0,I J 0] 107)
section
variable {w W W':a2} {nm:ByteArray} {k:Int} {o:Bool} {s d r:Int} {vq0 vw0:aZ} {n0:Int} {g:Nat} {vq vw:aZ} {n:Int} {q:List (List Int)} {l:List Wt}
def Cj:(W3 w nm k o s d r vq vw n).heap.size=w.heap.size+3:=by simp[W3]
def Cd:Bl w (W3 w nm k o s d r vq vw n):=(((bw _ w).alloc (bM _) _).alloc (by simp) _).alloc (by simp;omega) _
def FG:(W3 w nm k o s d r vq vw n).heap[w.heap.size]? =Z (T #[.string nm,I U k,.bool o,I J s,I J d,I J r] 62 (0,0)):=
 (bJ _ _ _ (by simp;omega)).trans ((bJ _ _ _ (by simp)).trans (bH w _))
def FF:(W3 w nm k o s d r vq vw n).heap[w.heap.size+1]? =Z (T #[vq,vw,I J n] 107 (0,0)):=by
 refine(bJ _ _ _ (by simp)).trans ?_;have:=bH (w.alloc (T #[.string nm,I U k,.bool o,I J s,I J d,I J r] 62)) (T #[vq,vw,I J n] 107);simpa using this
def QP:(W3 w nm k o s d r vq vw n).heap[w.heap.size+1+1]? =Z (T #[Y O 0 0,Y O 0 0,I J 0] 107 (0,0)):=by
 have:=bH ((w.alloc (T #[.string nm,I U k,.bool o,I J s,I J d,I J r] 62)).alloc (T #[vq,vw,I J n] 107)) (T #[Y O 0 0,Y O 0 0,I J 0] 107);simpa[W3] using this
def Cy{W:a2}{g:Nat}{a b c d e f:aZ}{t:cb}(h:W.heap[g]? =Z (T #[a,b,c,d,e,f] t (0,0))):
  W.cell? ⟨g,0,O⟩=Z a∧W.cell? ⟨g,1,O⟩=Z b∧W.cell? ⟨g,2,O⟩=Z c∧W.cell? ⟨g,3,O⟩=Z d∧W.cell? ⟨g,4,O⟩=Z e∧W.cell? ⟨g,5,O⟩=Z f:=by
 refine⟨?_,?_,?_,?_,?_,?_⟩<;>(rw[b0 _ _ _ _ _ _ h];rfl)
def QM.next(h:QM w W nm k o s d r vq0 vw0 n0 g vq vw n q l)(a:Bl W W'):QM w W' nm k o s d r vq0 vw0 n0 g vq vw n q l:=
 ⟨(a.block _ (Aa h.Bj)).trans h.Bj,(a.block _ (Aa h.arg)).trans h.arg,(a.block _ (Aa h.res)).trans h.res,h.ge,(a.block _ (Aa h.obj)).trans h.obj,h.oq.below a,h.fr.below a,h.ap,h.bel.trans (a.mono h.bel.size)⟩
def QM.new{b:a2}(j:Bk b (W3 w nm k o s d r vq0 vw0 n0).heap.size vq q)(f:Aq b (W3 w nm k o s d r vq0 vw0 n0).heap.size vw l)(e:Below (W3 w nm k o s d r vq0 vw0 n0).heap.size (W3 w nm k o s d r vq0 vw0 n0) b):
  QM w (b.alloc (T #[vq,vw,I J n] 107)) nm k o s d r vq0 vw0 n0 b.heap.size vq vw n q l:=by
 have u:=Cj (w:=w) (nm:=nm) (k:=k) (o:=o) (s:=s) (d:=d) (r:=r) (vq:=vq0) (vw:=vw0) (n:=n0);have h:=(Cd (w:=w) (nm:=nm) (k:=k) (o:=o) (s:=s) (d:=d) (r:=r) (vq:=vq0) (vw:=vw0) (n:=n0)).trans (e.mono (by omega));have v:=e.size;have i:Bl b (b.alloc (T #[vq,vw,I J n] 107)):=(bw _ _).alloc (bM _) _;rw[u] at j f;refine⟨(bJ _ _ _ (by omega)).trans ((e.block _ (by omega)).trans FG),(bJ _ _ _ (by omega)).trans ((e.block _ (by omega)).trans FF),(bJ _ _ _ (by omega)).trans ((e.block _ (by omega)).trans QP),by omega,bH b _,j.below i,f.below i,fun a m c t p=>Nat.ne_of_lt (Mp f t p).2,h.alloc h.size _⟩
def set3{W:a2}{g:Nat}{a b c:aZ}{t:cb}(h:W.heap[g]? =Z (T #[a,b,c] t (0,0)))(x:aZ):
  (W.setCell ⟨g,0,O⟩ x).heap[g]? =Z (T #[x,b,c] t (0,0))∧(W.setCell ⟨g,1,O⟩ x).heap[g]? =Z (T #[a,x,c] t (0,0))∧(W.setCell ⟨g,2,O⟩ x).heap[g]? =Z (T #[a,b,x] t (0,0)):=by
 have e:=b2 W g 0 _ _ x h;have f:=b2 W g 1 _ _ x h;have i:=b2 W g 2 _ _ x h;simp at e f i;exact⟨e,f,i⟩
def QM.set{W':a2}{u:aZ}{j:Nat}{e b:aZ}{f:Int}{i:List (List Int)}{l':List Wt}(h:QM w W nm k o s d r vq0 vw0 n0 g vq vw n q l)(t:W'=W.setCell ⟨g,j,O⟩ u)(z:W'.heap[g]? =Z (T #[e,b,I J f] 107 (0,0)))
  (A:Bk W' (w.heap.size+3) e i) (x:Aq W' (w.heap.size+3) b l') (v:∀ a m c,b=Y (Z a) m c→0<m→a.block≠g):QM w W' nm k o s d r vq0 vw0 n0 g e b f i l':=by
 have y:=h.ge;subst t;exact⟨(bm _ _ _ _ (by show w.heap.size≠g;omega)).trans h.Bj,(bm _ _ _ _ (by show w.heap.size+1≠g;omega)).trans h.arg,(bm _ _ _ _ (by show w.heap.size+1+1≠g;omega)).trans h.res,y,z,A,x,v,h.bel.setCell (p:=⟨g,j,O⟩) (by show _≤g;omega) u⟩
def Mn{j:Nat}{u:aZ}(h:Aq W (w.heap.size+3) vw l)(b:∀ a m c,vw=Y (Z a) m c→0<m→a.block≠g):Aq (W.setCell ⟨g,j,O⟩ u) (w.heap.size+3) vw l:=h.JW (KS W g j u) b
def QM.Na{u:aZ}{l':List Wt}(h:QM w W nm k o s d r vq0 vw0 n0 g vq vw n q l)(e:Aq W (w.heap.size+3) u l')(b:∀ a m c,u=Y (Z a) m c→0<m→a.block≠g):QM w (W.setCell ⟨g,1,O⟩ u) nm k o s d r vq0 vw0 n0 g vq u n q l':=
 h.set rfl (set3 h.obj u).2.1 (h.oq.oth h.obj (by decide) (by decide)) (Mn e b) b
def QM.PV(h:QM w W nm k o s d r vq0 vw0 n0 g vq vw n q l)(a:Int):QM w (W.setCell ⟨g,2,O⟩ (I J a)) nm k o s d r vq0 vw0 n0 g vq vw a q l:=
 h.set rfl (set3 h.obj _).2.2 (h.oq.oth h.obj (by decide) (by decide)) (Mn h.fr h.ap) h.ap
def DK(w W:a2)(x y z:aZ):a2:=((W.setCell ⟨w.heap.size+1+1,0,O⟩ x).setCell ⟨w.heap.size+1+1,1,O⟩ y).setCell ⟨w.heap.size+1+1,2,O⟩ z
def LY(h:Bl w W)(x y z:aZ):Bl w (DK w W x y z):=
 ((h.setCell (p:=⟨w.heap.size+1+1,0,O⟩) (by show _≤w.heap.size+1+1;omega) x).setCell (p:=⟨w.heap.size+1+1,1,O⟩) (by show _≤w.heap.size+1+1;omega) y).setCell (p:=⟨w.heap.size+1+1,2,O⟩) (by show _≤w.heap.size+1+1;omega) z
def QM.last(h:QM w W nm k o s d r vq0 vw0 n0 g vq vw n q l)(x y z:aZ):A6 (DK w W x y z) w.heap.size vq q∧Aq (DK w W x y z) w.heap.size vw l∧Bl w (DK w W x y z):=
 ⟨(((h.oq.rd.low (by omega)).low (by omega)).low (by omega)).mono (by omega),(((h.fr.low (by omega)).low (by omega)).low (by omega)).mono (by omega),LY h.bel x y z⟩
end
def LJ(w:a2)(q:List (List Int))(l:List Wt)(n:Int)(x y:aZ)(e:Ending)(w':a2):Prop:=
 ∃ vq vw,e=.returned (.tuple #[.agg #[vq,vw,I J n],x,y])∧A6 w' w.heap.size vq q∧Aq w' w.heap.size vw l∧Bl w w'
def Rn(w:a2)(q:List (List Int))(l:List Wt)(n:Int)(x:List Int)(y:aZ)(e:Ending)(w':a2):Prop:=
 ∃ vq vw a,e=.returned (.tuple #[.agg #[vq,vw,I J n],a,y])∧A6 w' w.heap.size vq q∧Aq w' w.heap.size vw l∧Af U w' w.heap.size a x∧Bl w w'
def NN(w:a2)(q:List (List Int))(l:List Wt)(n:Int)(x:List Int)(z y:aZ)(e:Ending)(w':a2):Prop:=
 ∃ vq vw a,e=.returned (.tuple #[.agg #[vq,vw,I J n],a,z,y])∧A6 w' w.heap.size vq q∧Aq w' w.heap.size vw l∧Af U w' w.heap.size a x∧Bl w w'
def sendQ(k s d r:Int)(q:List (List Int))(l:List Wt)(n:Int)(x:List Int):List (List Int)×List Wt×Int×Int×Int:=
 if BP k s d r q l n=false∨x=[] then(q,l,n,-1,2) else if s<(x.length:Int) then(q,l,n,-1,3) else match l with
  |y::m=>(q,m,n,y.proc,0)
  | []=>if(q.length:Int)=d then(q,[],if n<1073741824 then n+1 else 1073741824,-1,4) else(q++ [x],[],n,-1,0)
def Fh(k s d r:Int)(q:List (List Int))(l:List Wt)(n:Int):List (List Int)×List Int×Int:=
 if BP k s d r q l n=false then(q,[],2) else match q with
  |x::t=>(t,x,0)
  | []=>([],[],6)
def recvQ(k s d r:Int)(q:List (List Int))(l:List Wt)(n p u:Int):List (List Int)×List Wt×List Int×Bool×Int:=
 if BP k s d r q l n=false∨Cw l p=false then(q,l,[],false,2) else match q with
  |x::t=>(t,l,x,true,0)
  | []=>([],Cl l ⟨p,u,0⟩,[],false,0)
section
variable {w W W':a2} {nm:ByteArray} {k:Int} {o:Bool} {s d r:Int} {vq0 vw0:aZ} {n0:Int} {g:Nat} {vq vw:aZ} {n:Int} {q:List (List Int)} {l:List Wt}
def QM.leave{v:aZ}{m:List Wt}(h:QM w W nm k o s d r vq0 vw0 n0 g vq vw n q l)(b:W'.ownsRow W.heap.size 161 3 v m.length (cellsW m))(e:Bl W W'):QM w (W'.setCell ⟨g,1,O⟩ v) nm k o s d r vq0 vw0 n0 g vq v n q m:=by
 have j:=Aa h.obj;have i:=h.ge;refine(h.next e).Na ((Aq.Bw b).mono (by omega)) (fun a m c f p=>?_);subst f;have:=(b.lt a.block rfl).1;omega
def QM.Xy{b j m c:Nat}(h:QM w W nm k o s d r vq0 vw0 n0 g (Y (Z ⟨b,j,O⟩) m c) vw n q l):¬(b=g):=by
 intro e;obtain⟨vs,i,_⟩:=h.oq;rcases i.2 with ⟨a,_⟩|⟨u,p,t,a,_,f,_⟩
 ·cases a
 ·simp only[bs,bl,b6] at a;obtain⟨⟨rfl,_⟩,_⟩:=a;subst e;have:=h.obj;rw[f] at this;simp only[bl,b4] at this;exact absurd this.2.1 (by decide)
def QM.take{b v m c:Nat}{x:List Int}{t:List (List Int)}(h:QM w W nm k o s d r vq0 vw0 n0 g (Y (Z ⟨b,v,O⟩) m c) vw n q l)(A:q=x::t)(a e f i:aZ):
  A6 (DK w (W.setCell ⟨g,0,O⟩ a) e f i) w.heap.size (Y (if c=1 then Z ⟨b,v,O⟩ else Z ⟨b,v+1,O⟩) (m-1) (c-1)) t∧Aq (DK w (W.setCell ⟨g,0,O⟩ a) e f i) w.heap.size vw l∧
  Bl w (DK w (W.setCell ⟨g,0,O⟩ a) e f i)∧∀ u,W.cell? ⟨b,v,O⟩=Z u→Af U (DK w (W.setCell ⟨g,0,O⟩ a) e f i) w.heap.size u x:=by
 have R:=h.ge;have K:Bk (DK w (W.setCell ⟨g,0,O⟩ a) e f i) (w.heap.size+3) (Y (Z ⟨b,v,O⟩) m c) q:=(((h.oq.oth h.obj (by decide) (by decide)).low (by omega)).low (by omega)).low (by omega);refine⟨(K.rd.tail A).mono (by omega),((((Mn h.fr h.ap).low (by omega)).low (by omega)).low (by omega)).mono (by omega),LY (h.bel.setCell (p:=⟨g,0,O⟩) (by show _≤g;omega) a) _ _ _,fun u M=>?_⟩;obtain⟨vs,j,F⟩:=h.oq;have L:=Sl.Bw j;subst A
 match vs,j with
 | [],j=>have:=j.1;simp at this
 |u0::us,j=>
  obtain⟨N,Q,B,_,_,_,H⟩:=L;obtain⟨P,S,z,_,_,E⟩:=H (by simp);simp only[bs] at B;obtain⟨rfl,_,_⟩:=B;simp only[bl,b6,and_true] at z;obtain⟨rfl,rfl⟩:=z;have y:=E 0 u0 rfl;rw[Nat.add_zero,M] at y;simp only[bl] at y;subst y;have C:C5 W (w.heap.size+3) u x:=F 0 u x rfl rfl;have D:C5 (DK w (W.setCell ⟨g,0,O⟩ a) e f i) (w.heap.size+3) u x:=Hv (Hv (Hv (MR C h.obj (by decide)) (by omega)) (by omega)) (by omega);exact D.rd.mono (by omega)
end
def QD(nm:ByteArray)(k:Int)(o:Bool)(s d r n:Int)(vq vw:aZ)(q:List (List Int))(l:List Wt)(w:a2)(hq:A6 w 0 vq q)(hw:Al w 0 vw l)(aP:Ck l)(hl:l.length≤90000)(bg:q.length≤90000)(hm:∀ x∈q,x.length≤1000000):
  bI prog 148 #[.agg #[.string nm,I U k,.bool o,I J s,I J d,I J r],.agg #[vq,vw,I J n]] w (Rn w (Fh k s d r q l n).1 l n (Fh k s d r q l n).2.1 (I J (Fh k s d r q l n).2.2)):=by
 obtain⟨aq,cq,rfl⟩:=hq.C2;obtain⟨aw,cw,rfl,a4,a5,a6⟩:=hw.open_;clear a4 a5 a6;obtain⟨ac,ad,al,HM⟩:=H4 hq hw aP hm;have aD:W3 w nm k o s d r (Y aq q.length cq) (Y aw l.length cw) n=((w.alloc (T #[.string nm,I U k,.bool o,I J s,I J d,I J r] 62)).alloc (T #[Y aq q.length cq,Y aw l.length cw,I J n] 107)).alloc (T #[Y O 0 0,Y O 0 0,I J 0] 107):=rfl;have ae:=HH aD;clear hq hw aP hm aD;have a9:(BP k s d r q l n=false∧Fh k s d r q l n=(q,[],2))∨(BP k s d r q l n=true∧q=[]∧Fh k s d r q l n=(q,[],6))∨(BP k s d r q l n=true∧∃ x t,q=x::t∧Fh k s d r q l n=(t,x,0)):=by
  unfold Fh;cases BP k s d r q l n
  ·simp
  ·cases q with
   |nil=>simp
   |cons x t=>exact .inr (.inr ⟨rfl,x,t,rfl,rfl⟩)
 rcases a9 with ⟨P,Q⟩|⟨P,D,Q⟩|⟨P,x,t,D,Q⟩
 ·rw[Q];clear Q;have K1:=HH P;clear P;go_enter func148,ntmps148;go_wp2_with fail;rw[←ae.o];refine(Fe _ _ q l n _ (ac.o.below Cd) (ad.o.below Cd) (by omega) (by omega) HM.o).mono ?_;rintro e g ⟨aX,aY,rfl,C,B,i⟩;obtain⟨a1,c1,rfl⟩:=C.rd.C2;obtain⟨A,c2,rfl⟩:=Bc B;obtain⟨R,S,V,W,X,p5⟩:=Cy ((i.block _ (by rw[Cj];omega)).trans FG);obtain⟨g0,F,H,K,L,M⟩:=Aj ((i.block _ (by rw[Cj];omega)).trans FF);have aO:w.heap.size+3≤g.heap.size:=by have:=i.size;rw[Cj] at this;exact this
  have aJ:w.heap.size<g.heap.size:=by omega
  have aE:w.heap.size+1<g.heap.size:=by omega
  have aL:w.heap.size+1+1<g.heap.size:=by omega
  have h:=HH (QM.new (n:=n) C B i);clear C B i ae;go_wp2_with fail;obtain⟨W1,N⟩:=ex (g.alloc (T #[Y a1 q.length c1,Y A l.length c2,I J n] 107));rw[←N] at h ⊢;clear N R S V W X p5 g0 F H K L M;have p:=DY nm k o s d r n _ _ q l W1 (ac.o.below h.o.bel) (ad.o.below h.o.bel) al.o (by omega) (by omega);rw[K1.o] at p;refine p.mono ?_;clear p;rintro e w2 ⟨rfl,E⟩;have f:=HH (h.o.next E);clear E h;obtain⟨R,S,V,W,X,p5⟩:=Cy f.o.Bj;obtain⟨g0,F,H,K,L,M⟩:=Aj f.o.arg;obtain⟨r0,r1,r2,r3,r4,r5⟩:=Aj f.o.res;obtain⟨o0,o1,o2,o3,o4,o5⟩:=Aj f.o.obj;have aI:=Aa f.o.obj;have aK:=Aa f.o.Bj;have aF:=Aa f.o.arg;have aM:=Aa f.o.res;go_wp2_with fail;refine bq (v:=.tuple #[.agg #[Y a1 q.length c1,Y A l.length c2,I J n],Y O 0 0,I J 2]) (by simp[b1,results148,go_sem,r0,r1,r2]) rfl ?_;exact⟨_,_,_,rfl,(f.o.last _ _ _).1,(f.o.last _ _ _).2.1,Af.nil _ _ _,(f.o.last _ _ _).2.2⟩
 ·rw[Q];clear Q;have K1:=HH P;clear P;have a7:(q.length==0)=true:=by rw[D];rfl
  have a8:((q.length:Int)==0)=true:=by rw[D];rfl
  clear D;go_enter func148,ntmps148;go_wp2_with fail;rw[←ae.o];refine(Fe _ _ q l n _ (ac.o.below Cd) (ad.o.below Cd) (by omega) (by omega) HM.o).mono ?_;rintro e g ⟨aX,aY,rfl,C,B,i⟩;obtain⟨a1,c1,rfl⟩:=C.rd.C2;obtain⟨A,c2,rfl⟩:=Bc B;obtain⟨R,S,V,W,X,p5⟩:=Cy ((i.block _ (by rw[Cj];omega)).trans FG);obtain⟨g0,F,H,K,L,M⟩:=Aj ((i.block _ (by rw[Cj];omega)).trans FF);have aO:w.heap.size+3≤g.heap.size:=by have:=i.size;rw[Cj] at this;exact this
  have aJ:w.heap.size<g.heap.size:=by omega
  have aE:w.heap.size+1<g.heap.size:=by omega
  have aL:w.heap.size+1+1<g.heap.size:=by omega
  have h:=HH (QM.new (n:=n) C B i);clear C B i ae;go_wp2_with fail;obtain⟨W1,N⟩:=ex (g.alloc (T #[Y a1 q.length c1,Y A l.length c2,I J n] 107));rw[←N] at h ⊢;clear N R S V W X p5 g0 F H K L M;have p:=DY nm k o s d r n _ _ q l W1 (ac.o.below h.o.bel) (ad.o.below h.o.bel) al.o (by omega) (by omega);rw[K1.o] at p;refine p.mono ?_;clear p;rintro e w2 ⟨rfl,E⟩;have f:=HH (h.o.next E);clear E h;obtain⟨R,S,V,W,X,p5⟩:=Cy f.o.Bj;obtain⟨g0,F,H,K,L,M⟩:=Aj f.o.arg;obtain⟨r0,r1,r2,r3,r4,r5⟩:=Aj f.o.res;obtain⟨o0,o1,o2,o3,o4,o5⟩:=Aj f.o.obj;have aI:=Aa f.o.obj;have aK:=Aa f.o.Bj;have aF:=Aa f.o.arg;have aM:=Aa f.o.res;go_wp2_with fail;refine bq (v:=.tuple #[.agg #[Y a1 q.length c1,Y A l.length c2,I J n],Y O 0 0,I J 6]) (by simp[b1,results148,go_sem,r0,r1,r2]) rfl ?_;exact⟨_,_,_,rfl,(f.o.last _ _ _).1,(f.o.last _ _ _).2.1,Af.nil _ _ _,(f.o.last _ _ _).2.2⟩
 ·rw[Q];clear Q;have K1:=HH P;clear P;have a7:(q.length==0)=false:=by rw[D];rfl
  have a8:((q.length:Int)==0)=false:=by rw[D];simp;omega
  have bf:0<q.length:=by rw[D];simp
  have KQ:=HH D;clear D;go_enter func148,ntmps148;go_wp2_with fail;rw[←ae.o];refine(Fe _ _ q l n _ (ac.o.below Cd) (ad.o.below Cd) (by omega) (by omega) HM.o).mono ?_;rintro e g ⟨aX,aY,rfl,C,B,i⟩;obtain⟨a1,c1,rfl⟩:=C.rd.C2;obtain⟨A,c2,rfl⟩:=Bc B;obtain⟨R,S,V,W,X,p5⟩:=Cy ((i.block _ (by rw[Cj];omega)).trans FG);obtain⟨g0,F,H,K,L,M⟩:=Aj ((i.block _ (by rw[Cj];omega)).trans FF);have aO:w.heap.size+3≤g.heap.size:=by have:=i.size;rw[Cj] at this;exact this
  have aJ:w.heap.size<g.heap.size:=by omega
  have aE:w.heap.size+1<g.heap.size:=by omega
  have aL:w.heap.size+1+1<g.heap.size:=by omega
  have h:=HH (QM.new (n:=n) C B i);clear C B i ae;go_wp2_with fail;obtain⟨W1,N⟩:=ex (g.alloc (T #[Y a1 q.length c1,Y A l.length c2,I J n] 107));rw[←N] at h ⊢;clear N R S V W X p5 g0 F H K L M;have p:=DY nm k o s d r n _ _ q l W1 (ac.o.below h.o.bel) (ad.o.below h.o.bel) al.o (by omega) (by omega);rw[K1.o] at p;refine p.mono ?_;clear p;rintro e w2 ⟨rfl,E⟩;have f:=HH (h.o.next E);clear E h;obtain⟨R,S,V,W,X,p5⟩:=Cy f.o.Bj;obtain⟨g0,F,H,K,L,M⟩:=Aj f.o.arg;obtain⟨r0,r1,r2,r3,r4,r5⟩:=Aj f.o.res;obtain⟨o0,o1,o2,o3,o4,o5⟩:=Aj f.o.obj;have aI:=Aa f.o.obj;have aK:=Aa f.o.Bj;have aF:=Aa f.o.arg;have aM:=Aa f.o.res;obtain⟨a3,bd,b,af,u,rfl,ba,bc,a0,aN⟩:=f.o.oq.rd.head KQ.o;obtain⟨au,mu,cu,rfl⟩:∃ a m c,u=Y a m c:=by obtain⟨a,c,p,_⟩:=aN.open_;exact⟨a,_,c,p⟩
  have bb:¬(b=g.heap.size):=f.o.Xy;have CU:=HH a0;clear a3 aN;by_cases aG:c1=1
  ·subst aG;have TT:=HH (fun tv x y z=>f.o.take KQ.o tv x y z);clear f;go_wp2_with fail;refine bq (v:=.tuple #[.agg #[Y (Z ⟨b,af,O⟩) (q.length-1) 0,Y A l.length c2,I J n],Y au mu cu,I J 0]) (by simp[b1,results148,go_sem,r0,r1,r2]) rfl ?_;have j:=TT.o (Y (Z ⟨b,af,O⟩) (q.length-1) 0) (Y (Z ⟨b,af,O⟩) (q.length-1) 0) (Y A l.length c2) (I J n)
   first|rw[if_pos rfl] at j|rw[if_pos trivial] at j
   exact⟨_,_,_,rfl,j.1,j.2.1,j.2.2.2 _ CU.o,j.2.2.1⟩
  ·have TT:=HH (fun tv x y z=>f.o.take KQ.o tv x y z);clear f;go_wp2_with fail;refine bq (v:=.tuple #[.agg #[Y (Z ⟨b,af+1,O⟩) (q.length-1) (c1-1),Y A l.length c2,I J n],Y au mu cu,I J 0]) (by simp[b1,results148,go_sem,r0,r1,r2]) rfl ?_;have j:=TT.o (Y (Z ⟨b,af+1,O⟩) (q.length-1) (c1-1)) (Y (Z ⟨b,af+1,O⟩) (q.length-1) (c1-1)) (Y A l.length c2) (I J n)
   first|rw[if_neg aG] at j|rw[if_pos trivial] at j
   exact⟨_,_,_,rfl,j.1,j.2.1,j.2.2.2 _ CU.o,j.2.2.1⟩
def Zu{k s d r n:Int}{q:List (List Int)}{l:List Wt}(h:BP k s d r q l n=true):0≤n∧n≤1073741824:=by
 simp only[BP,Ey,Bool.and_eq_true,Bool.not_eq_true',Bool.or_eq_false_iff,decide_eq_false_iff_not] at h;omega
def Al.UP{w:a2}{B m d:Nat}{a:Option Addr}{x:Wt}{l k:List Wt}(h:Al w B (Y a m d) k)(n:k=x::l):∃ b f,a=Z ⟨b,f,O⟩∧b<w.heap.size∧w.cell? ⟨b,f,O⟩=Z (I J x.proc):=by
 subst n;obtain⟨p,cap,e,q,r,s,c⟩:=h;simp only[bs,bK] at e;obtain⟨rfl,rfl,rfl⟩:=e;simp only[bK] at c;obtain⟨g,o,rfl,t,i,j⟩:=c (by omega);exact⟨g,o,rfl,i,j 0 _ rfl⟩
def Aq.empty{w w':a2}{B:Nat}{v:aZ}{l:List Wt}(h:Aq w B v l)(k:l=[]):Aq w' B v l:=by
 subst k;obtain⟨⟨e,cap,b,g,i,j,_⟩,m⟩:=h;refine⟨⟨e,cap,b,g,i,j,fun f=>absurd f (by simp)⟩,fun a n c d o=>?_⟩;rw[b] at d;simp only[bs,List.length_nil] at d;omega
def YX{P:Program}{ops:Array Oper}{o:Oper}{a:Act}{w:a2}{K:Act→a2→Prop}{Q:Exit→Act→a2→Prop}{E:Prop}
  (e:o.guard=O) (d x:Operand) (t:cb) (f:o.op=.call {callee:=.builtin .append,args:=#[d,x],argTypes:=#[t,t]})
  (v u:aZ) (c:a.eval d=v) (i:a.eval x=u) {b:aZ} {w':a2} (g:(ca #[t,t] o.type #[v,u]).run P w=.ok b w') (hK:K (a.put o.dst b) w'):
  if b7 o (yielded ops a.tmps)=true then Oper.wp P o a w K Q else E:=by
 have h:b7 o (yielded ops a.tmps)=true:=by simp[b7,e]
 rw[if_pos h];unfold Oper.wp execOp;simp only[f,resolve,invoke,builtin,Sem.run_bind,Sem.run_pure,Result.andThen_ok,List.map_toArray,List.map_cons,List.map_nil,c,i,g];exact hK
section
variable {w W W':a2} {nm:ByteArray} {k:Int} {o:Bool} {s d r:Int} {vq0 vw0:aZ} {n0:Int} {g:Nat} {vq vw:aZ} {n:Int} {q:List (List Int)} {l:List Wt}
def QM.Pe(h:QM w W nm k o s d r vq0 vw0 n0 g vq vw n q l)(x y z:aZ):A6 (DK w W.drew x y z) w.heap.size vq q∧Aq (DK w W.drew x y z) w.heap.size vw l∧Bl w (DK w W.drew x y z):=by
 obtain⟨b,c,a⟩:=h.last x y z;exact⟨b,c,⟨a.os,a.tape,a.output,a.size,a.block⟩⟩
def Xx{t:Nat}{c:Array aZ}{f:Nat×Nat}{B e s n g:Nat}{v:aZ}{m:List aZ}(i:W.heap[g]? =Z (T c t f))(h:W.ownsRow B e s v n m)(j:t≠e):Z g≠v.ownBlock:=by
 intro a;rcases h.2 with ⟨rfl,_⟩|⟨x,p,u,rfl,_,b,_⟩
 ·simp[b5] at a
 ·simp only[b5,bl] at a;subst a;rw[i] at b;simp only[bl,b4] at b;exact j b.2.1
def QM.append{a:Option Addr}{m c:Nat}{x:List Int}(h:QM w W nm k o s d r vq0 vw0 n0 g vq vw n q l)(V:l=[])(hx:C5 W (w.heap.size+3) (Y a m c) x)(am:q.length≤90000):
  ∃ f v,(ca #[35,35] 35 #[vq,Y (Z ⟨W.heap.size,0,O⟩) 1 1]).run prog (W.alloc (T #[Y a m c] 34))=.ok f v∧(∃ a m c,f=Y a m c)∧
   v.heap[g]? =Z (T #[vq,vw,I J n] 107 (0,0))∧v.heap[w.heap.size+1+1]? =Z (T #[Y O 0 0,Y O 0 0,I J 0] 107 (0,0))∧
   QM w (v.setCell ⟨g,0,O⟩ f) nm k o s d r vq0 vw0 n0 g f vw n (q++ [x]) l:=by
 obtain⟨vs,X,S⟩:=h.oq;obtain⟨i0,R,ag,ah,ai⟩:=info_parts Mz;have C:Bl W (W.alloc (T #[Y a m c] 34)):=(bw _ _).alloc (bM _) _;have F:=CA X C;have Q:=h.ge;have al:=Aa h.obj;have an:(W.alloc (T #[Y a m c] 34)).heap.size=W.heap.size+1:=by simp
 obtain⟨f,v,ab,M,A,_⟩:=run_append_own (P:=prog) (W.alloc (T #[Y a m c] 34)) (w.heap.size+3) 35 35 34 i0 (Y O 0 0) 1 24 underlying35 R ag ah ai rfl (by decide) vq q.length vs F ⟨W.heap.size,0,O⟩ 1 1 [Y a m c] rfl
  (by
   intro j u E
   match j,E with
   |0,E=>
    simp at E;subst E;rw[Cu,b0 _ _ _ _ _ _ (bH W _)];rfl)
  (by intro u H;simp at H;subst H;rfl) (by unfold maxLen;omega) (by omega) (by omega)
 have D:∀ {b:Nat} {K:Array aZ} {t:cb},W.heap[b]? =Z (T K t (0,0))→t≠34→v.heap[b]? =Z (T K t (0,0)):=fun {b K t} z ht=>
  (A.block b (by have:=Aa z;omega) (Xx ((C.block b (Aa z)).trans z) F ht)).trans ((C.block b (Aa z)).trans z)
 have aa:Bk v (w.heap.size+3) f (q++ [x]):=Bk.snoc F (fun i u y H hy=>(S i u y H hy).below C) (hx.below C) A M;have L:=D h.obj (by decide);have N:Bl w v:=by
  have B:=h.bel.alloc h.bel.size (T #[Y a m c] 34);refine⟨A.os.trans B.os,A.tape.trans B.tape,A.output.trans B.output,cd B.size A.size,fun b z=>?_⟩;have ak:=h.bel.size;refine(A.block b (by omega) (fun e=>?_)).trans (B.block b z);have:=(F.lt b e.symm).1;omega
 refine⟨f,v,ab,?_,L,D h.res (by decide),?_⟩
 ·obtain⟨a,c,hv⟩:=Bq M;exact⟨a,_,c,hv⟩
 ·exact⟨(bm _ _ _ _ (by show w.heap.size≠g;omega)).trans (D h.Bj (by decide)),(bm _ _ _ _ (by show w.heap.size+1≠g;omega)).trans (D h.arg (by decide)),(bm _ _ _ _ (by show w.heap.size+1+1≠g;omega)).trans (D h.res (by decide)),Q,(set3 L f).1,aa.oth L (by decide) (by decide),h.fr.empty V,h.ap,N.setCell (p:=⟨g,0,O⟩) (by show _≤g;omega) f⟩
end
def Qq(nm:ByteArray)(k:Int)(o:Bool)(s d r n:Int)(vx:aZ)(x:List Int)(vq vw:aZ)(q:List (List Int))(l:List Wt)(w:a2)(hq:A6 w 0 vq q)(hw:Al w 0 vw l)(bj:Ck l)(hl:l.length≤90000)(bV:q.length≤90000)(hm:∀ x∈q,x.length≤1000000)(hx:Af U w 0 vx x)(bZ:x.length≤1000000):
  bI prog 49 #[.agg #[.string nm,I U k,.bool o,I J s,I J d,I J r],.agg #[vq,vw,I J n],vx] w (LJ w (sendQ k s d r q l n x).1 (sendQ k s d r q l n x).2.1 (sendQ k s d r q l n x).2.2.1 (I J (sendQ k s d r q l n x).2.2.2.1) (I J (sendQ k s d r q l n x).2.2.2.2)):=by
 obtain⟨aq,cq,rfl⟩:=hq.C2;obtain⟨aw,cw,rfl,bA,bB,bC⟩:=hw.open_;clear bA bB bC;obtain⟨ax,cx,rfl,bE,bF,bG⟩:=hx.open_;clear bE bF bG;have bo:=HH hx;clear hx;obtain⟨aa,X,am,HM⟩:=H4 hq hw bj hm;have a9:W3 w nm k o s d r (Y aq q.length cq) (Y aw l.length cw) n=((w.alloc (T #[.string nm,I U k,.bool o,I J s,I J d,I J r] 62)).alloc (T #[Y aq q.length cq,Y aw l.length cw,I J n] 107)).alloc (T #[Y O 0 0,Y O 0 0,I J 0] 107):=rfl;have ab:=HH a9;clear hq hw bj hm a9;have bD:(BP k s d r q l n=false∧sendQ k s d r q l n x=(q,l,n,-1,2))∨(BP k s d r q l n=true∧x=[]∧sendQ k s d r q l n x=(q,l,n,-1,2))∨(BP k s d r q l n=true∧x≠ []∧s<(x.length:Int)∧sendQ k s d r q l n x=(q,l,n,-1,3))∨
   (BP k s d r q l n=true∧x≠ []∧¬s<(x.length:Int)∧∃ y m,l=y::m∧sendQ k s d r q l n x=(q,m,n,y.proc,0))∨(BP k s d r q l n=true∧x≠ []∧¬s<(x.length:Int)∧l=[]∧(q.length:Int)=d∧sendQ k s d r q l n x=(q,l,if n<1073741824 then n+1 else 1073741824,-1,4))∨
   (BP k s d r q l n=true∧x≠ []∧¬s<(x.length:Int)∧l=[]∧¬(q.length:Int)=d∧sendQ k s d r q l n x=(q++ [x],l,n,-1,0)):=by
  unfold sendQ;cases BP k s d r q l n
  ·simp
  ·by_cases h1:x=[]
   ·simp[h1]
   ·by_cases h2:s<(x.length:Int)
    ·simp[h1,h2]
    ·cases l with
     |cons y m=>exact .inr (.inr (.inr (.inl ⟨rfl,h1,h2,y,m,rfl,by simp[h1,h2]⟩)))
     |nil=>
      by_cases h3:(q.length:Int)=d
      ·exact .inr (.inr (.inr (.inr (.inl ⟨rfl,h1,h2,rfl,h3,by simp[h1,h2,h3]⟩))))
      ·exact .inr (.inr (.inr (.inr (.inr ⟨rfl,h1,h2,rfl,h3,by simp[h1,h2,h3]⟩))))
 rcases bD with ⟨V,W⟩|⟨V,S,W⟩|⟨V,S,ks,W⟩|⟨V,S,ks,y,m,kl,W⟩|⟨V,S,ks,kl,kd,W⟩|⟨V,S,ks,kl,kd,W⟩
 ·rw[W];clear W;have K1:=HH V;clear V;go_enter func49,ntmps49;go_wp2_with fail;rw[←ab.o];refine(Fe _ _ q l n _ (aa.o.below Cd) (X.o.below Cd) (by omega) (by omega) HM.o).mono ?_;rintro e f ⟨aJ,aK,rfl,t,j,h⟩;obtain⟨z,c1,rfl⟩:=t.rd.C2;obtain⟨R,c2,rfl⟩:=Bc j;obtain⟨K,L,M,N,P,Q⟩:=Cy ((h.block _ (by rw[Cj];omega)).trans FG);obtain⟨g0,B,C,D,E,F⟩:=Aj ((h.block _ (by rw[Cj];omega)).trans FF);have aC:w.heap.size+3≤f.heap.size:=by have:=h.size;rw[Cj] at this;exact this
  have ay:w.heap.size<f.heap.size:=by omega
  have ar:w.heap.size+1<f.heap.size:=by omega
  have aA:w.heap.size+1+1<f.heap.size:=by omega
  have g:=HH (QM.new (n:=n) t j h);clear t j h ab;go_wp2_with fail;obtain⟨W1,H⟩:=ex (f.alloc (T #[Y z q.length c1,Y R l.length c2,I J n] 107));rw[←H] at g ⊢;clear H K L M N P Q g0 B C D E F;have i:=DY nm k o s d r n _ _ q l W1 (aa.o.below g.o.bel) (X.o.below g.o.bel) am.o (by omega) (by omega);rw[K1.o] at i;refine i.mono ?_;clear i;rintro e w2 ⟨rfl,A⟩;have c:=HH (g.o.next A);clear A g;obtain⟨K,L,M,N,P,Q⟩:=Cy c.o.Bj;obtain⟨g0,B,C,D,E,F⟩:=Aj c.o.arg;obtain⟨r0,r1,r2,r3,r4,r5⟩:=Aj c.o.res;obtain⟨o0,o1,o2,o3,o4,o5⟩:=Aj c.o.obj;have av:=Aa c.o.obj;have az:=Aa c.o.Bj;have au:=Aa c.o.arg;have aB:=Aa c.o.res;go_wp2_with fail;refine bq (v:=.tuple #[.agg #[Y z q.length c1,Y R l.length c2,I J n],I J (-1),I J 2]) (by simp[b1,results49,go_sem,r0,r1,r2]) rfl ?_;exact⟨_,_,rfl,c.o.last _ _ _⟩
 ·rw[W];clear W;have K1:=HH V;clear V;have aQ:(x.length==0)=true:=by rw[S];rfl
  have aR:((x.length:Int)==0)=true:=by rw[S];rfl
  clear S;go_enter func49,ntmps49;go_wp2_with fail;rw[←ab.o];refine(Fe _ _ q l n _ (aa.o.below Cd) (X.o.below Cd) (by omega) (by omega) HM.o).mono ?_;rintro e f ⟨aJ,aK,rfl,t,j,h⟩;obtain⟨z,c1,rfl⟩:=t.rd.C2;obtain⟨R,c2,rfl⟩:=Bc j;obtain⟨K,L,M,N,P,Q⟩:=Cy ((h.block _ (by rw[Cj];omega)).trans FG);obtain⟨g0,B,C,D,E,F⟩:=Aj ((h.block _ (by rw[Cj];omega)).trans FF);have aC:w.heap.size+3≤f.heap.size:=by have:=h.size;rw[Cj] at this;exact this
  have ay:w.heap.size<f.heap.size:=by omega
  have ar:w.heap.size+1<f.heap.size:=by omega
  have aA:w.heap.size+1+1<f.heap.size:=by omega
  have g:=HH (QM.new (n:=n) t j h);clear t j h ab;go_wp2_with fail;obtain⟨W1,H⟩:=ex (f.alloc (T #[Y z q.length c1,Y R l.length c2,I J n] 107));rw[←H] at g ⊢;clear H K L M N P Q g0 B C D E F;have i:=DY nm k o s d r n _ _ q l W1 (aa.o.below g.o.bel) (X.o.below g.o.bel) am.o (by omega) (by omega);rw[K1.o] at i;refine i.mono ?_;clear i;rintro e w2 ⟨rfl,A⟩;have c:=HH (g.o.next A);clear A g;obtain⟨K,L,M,N,P,Q⟩:=Cy c.o.Bj;obtain⟨g0,B,C,D,E,F⟩:=Aj c.o.arg;obtain⟨r0,r1,r2,r3,r4,r5⟩:=Aj c.o.res;obtain⟨o0,o1,o2,o3,o4,o5⟩:=Aj c.o.obj;have av:=Aa c.o.obj;have az:=Aa c.o.Bj;have au:=Aa c.o.arg;have aB:=Aa c.o.res;go_wp2_with fail;refine bq (v:=.tuple #[.agg #[Y z q.length c1,Y R l.length c2,I J n],I J (-1),I J 2]) (by simp[b1,results49,go_sem,r0,r1,r2]) rfl ?_;exact⟨_,_,rfl,c.o.last _ _ _⟩
 ·rw[W];clear W;have K1:=HH V;clear V;have aQ:(x.length==0)=false:=by simp;exact S
  have aR:((x.length:Int)==0)=false:=by simp;exact S
  clear S;go_enter func49,ntmps49;go_wp2_with fail;rw[←ab.o];refine(Fe _ _ q l n _ (aa.o.below Cd) (X.o.below Cd) (by omega) (by omega) HM.o).mono ?_;rintro e f ⟨aJ,aK,rfl,t,j,h⟩;obtain⟨z,c1,rfl⟩:=t.rd.C2;obtain⟨R,c2,rfl⟩:=Bc j;obtain⟨K,L,M,N,P,Q⟩:=Cy ((h.block _ (by rw[Cj];omega)).trans FG);obtain⟨g0,B,C,D,E,F⟩:=Aj ((h.block _ (by rw[Cj];omega)).trans FF);have aC:w.heap.size+3≤f.heap.size:=by have:=h.size;rw[Cj] at this;exact this
  have ay:w.heap.size<f.heap.size:=by omega
  have ar:w.heap.size+1<f.heap.size:=by omega
  have aA:w.heap.size+1+1<f.heap.size:=by omega
  have g:=HH (QM.new (n:=n) t j h);clear t j h ab;go_wp2_with fail;obtain⟨W1,H⟩:=ex (f.alloc (T #[Y z q.length c1,Y R l.length c2,I J n] 107));rw[←H] at g ⊢;clear H K L M N P Q g0 B C D E F;have i:=DY nm k o s d r n _ _ q l W1 (aa.o.below g.o.bel) (X.o.below g.o.bel) am.o (by omega) (by omega);rw[K1.o] at i;refine i.mono ?_;clear i;rintro e w2 ⟨rfl,A⟩;have c:=HH (g.o.next A);clear A g;obtain⟨K,L,M,N,P,Q⟩:=Cy c.o.Bj;obtain⟨g0,B,C,D,E,F⟩:=Aj c.o.arg;obtain⟨r0,r1,r2,r3,r4,r5⟩:=Aj c.o.res;obtain⟨o0,o1,o2,o3,o4,o5⟩:=Aj c.o.obj;have av:=Aa c.o.obj;have az:=Aa c.o.Bj;have au:=Aa c.o.arg;have aB:=Aa c.o.res;go_wp2_with fail;refine bq (v:=.tuple #[.agg #[Y z q.length c1,Y R l.length c2,I J n],I J (-1),I J 3]) (by simp[b1,results49,go_sem,r0,r1,r2]) rfl ?_;exact⟨_,_,rfl,c.o.last _ _ _⟩
 ·rw[W];clear W;have K1:=HH V;clear V;have aQ:(x.length==0)=false:=by simp;exact S
  have aR:((x.length:Int)==0)=false:=by simp;exact S
  clear S;have KL:=HH kl;have be:0<l.length:=by rw[kl];simp
  have bf:(0:Int)<(l.length:Int):=by omega
  clear kl;go_enter func49,ntmps49;go_wp2_with fail;rw[←ab.o];refine(Fe _ _ q l n _ (aa.o.below Cd) (X.o.below Cd) (by omega) (by omega) HM.o).mono ?_;rintro e f ⟨aJ,aK,rfl,t,j,h⟩;obtain⟨z,c1,rfl⟩:=t.rd.C2;obtain⟨R,c2,rfl⟩:=Bc j;obtain⟨K,L,M,N,P,Q⟩:=Cy ((h.block _ (by rw[Cj];omega)).trans FG);obtain⟨g0,B,C,D,E,F⟩:=Aj ((h.block _ (by rw[Cj];omega)).trans FF);have aC:w.heap.size+3≤f.heap.size:=by have:=h.size;rw[Cj] at this;exact this
  have ay:w.heap.size<f.heap.size:=by omega
  have ar:w.heap.size+1<f.heap.size:=by omega
  have aA:w.heap.size+1+1<f.heap.size:=by omega
  have g:=HH (QM.new (n:=n) t j h);clear t j h ab;go_wp2_with fail;obtain⟨W1,H⟩:=ex (f.alloc (T #[Y z q.length c1,Y R l.length c2,I J n] 107));rw[←H] at g ⊢;clear H K L M N P Q g0 B C D E F;have i:=DY nm k o s d r n _ _ q l W1 (aa.o.below g.o.bel) (X.o.below g.o.bel) am.o (by omega) (by omega);rw[K1.o] at i;refine i.mono ?_;clear i;rintro e w2 ⟨rfl,A⟩;have c:=HH (g.o.next A);clear A g;obtain⟨K,L,M,N,P,Q⟩:=Cy c.o.Bj;obtain⟨g0,B,C,D,E,F⟩:=Aj c.o.arg;obtain⟨r0,r1,r2,r3,r4,r5⟩:=Aj c.o.res;obtain⟨o0,o1,o2,o3,o4,o5⟩:=Aj c.o.obj;have av:=Aa c.o.obj;have az:=Aa c.o.Bj;have au:=Aa c.o.arg;have aB:=Aa c.o.res;obtain⟨bz,bd,b,aS,rfl,bN,bQ,c0,bt,bu⟩:=c.o.fr.head KL.o;have bb:b≠f.heap.size:=c.o.ap _ _ _ rfl (by omega);obtain⟨b',bk,rfl,bx,e0⟩:=X.o.UP KL.o;have e1:w2.cell? ⟨b',bk,O⟩=Z (I J y.proc):=(c.o.bel.cell (p:=⟨b',bk,O⟩) bx).trans e0;have bO:¬(b'=f.heap.size):=by omega
  have bP:¬(b'=w.heap.size+1+1):=by omega
  have ak:b'<w2.heap.size:=by omega
  clear bz c0 bt bu e0;by_cases bc:c2=1
  ·subst bc;have T2:=HH (c.o.fr.tail KL.o);have M3:=HH (c.o.Na (u:=Y (Z ⟨b,aS,O⟩) (l.length-1) 0) (l':=m) (by have:=T2.o;first|rwa [if_pos rfl] at this|rwa [if_pos trivial] at this) (by intro a n cc i _;simp only[bs,bl] at i;rw[←i.1];exact bb))
   clear c T2;go_upto_region 8 with (fail)
   go_region
   all_goals
    go_wp2_with fail;refine bq (v:=.tuple #[.agg #[Y z q.length c1,Y (Z ⟨b,aS,O⟩) (l.length-1) 0,I J n],I J y.proc,I J 0]) (by simp[b1,results49,go_sem,r0,r1,r2]) rfl ?_
    first|exact⟨_,_,rfl,M3.o.last _ _ _⟩|exact⟨_,_,rfl,M3.o.Pe _ _ _⟩
  ·skip;have T2:=HH (c.o.fr.tail KL.o);have M3:=HH (c.o.Na (u:=Y (Z ⟨b,aS+3,O⟩) (l.length-1) (c2-1)) (l':=m) (by have:=T2.o;first|rwa [if_neg bc] at this|rwa [if_pos trivial] at this) (by intro a n cc i _;simp only[bs,bl] at i;rw[←i.1];exact bb))
   clear c T2;go_upto_region 8 with (fail)
   go_region
   all_goals
    go_wp2_with fail;refine bq (v:=.tuple #[.agg #[Y z q.length c1,Y (Z ⟨b,aS+3,O⟩) (l.length-1) (c2-1),I J n],I J y.proc,I J 0]) (by simp[b1,results49,go_sem,r0,r1,r2]) rfl ?_
    first|exact⟨_,_,rfl,M3.o.last _ _ _⟩|exact⟨_,_,rfl,M3.o.Pe _ _ _⟩
 ·rw[W];clear W;have K1:=HH V;clear V;have aQ:(x.length==0)=false:=by simp;exact S
  have aR:((x.length:Int)==0)=false:=by simp;exact S
  clear S;have KL:=HH kl;have be:¬(0<l.length):=by rw[kl];simp
  have bf:¬((0:Int)<(l.length:Int)):=by omega
  clear kl;have bd:((q.length:Int)==d)=true:=by simp[kd]
  clear kd;have aT:=Zu K1.o;have bT:0≤n:=aT.1;have bU:n≤1073741824:=aT.2;clear aT;by_cases bh:n<1073741824
  ·rw[if_pos bh];have bS:n+1≤1073741824:=by omega
   go_enter func49,ntmps49;go_wp2_with fail;rw[←ab.o];refine(Fe _ _ q l n _ (aa.o.below Cd) (X.o.below Cd) (by omega) (by omega) HM.o).mono ?_;rintro e f ⟨aJ,aK,rfl,t,j,h⟩;obtain⟨z,c1,rfl⟩:=t.rd.C2;obtain⟨R,c2,rfl⟩:=Bc j;obtain⟨K,L,M,N,P,Q⟩:=Cy ((h.block _ (by rw[Cj];omega)).trans FG);obtain⟨g0,B,C,D,E,F⟩:=Aj ((h.block _ (by rw[Cj];omega)).trans FF);have aC:w.heap.size+3≤f.heap.size:=by have:=h.size;rw[Cj] at this;exact this
   have ay:w.heap.size<f.heap.size:=by omega
   have ar:w.heap.size+1<f.heap.size:=by omega
   have aA:w.heap.size+1+1<f.heap.size:=by omega
   have g:=HH (QM.new (n:=n) t j h);clear t j h ab;go_wp2_with fail;obtain⟨W1,H⟩:=ex (f.alloc (T #[Y z q.length c1,Y R l.length c2,I J n] 107));rw[←H] at g ⊢;clear H K L M N P Q g0 B C D E F;have i:=DY nm k o s d r n _ _ q l W1 (aa.o.below g.o.bel) (X.o.below g.o.bel) am.o (by omega) (by omega);rw[K1.o] at i;refine i.mono ?_;clear i;rintro e w2 ⟨rfl,A⟩;have c:=HH (g.o.next A);clear A g;obtain⟨K,L,M,N,P,Q⟩:=Cy c.o.Bj;obtain⟨g0,B,C,D,E,F⟩:=Aj c.o.arg;obtain⟨r0,r1,r2,r3,r4,r5⟩:=Aj c.o.res;obtain⟨o0,o1,o2,o3,o4,o5⟩:=Aj c.o.obj;have av:=Aa c.o.obj;have az:=Aa c.o.Bj;have au:=Aa c.o.arg;have aB:=Aa c.o.res;have M3:=HH (c.o.PV (n+1));clear c;go_wp2_with fail;refine bq (v:=.tuple #[.agg #[Y z q.length c1,Y R l.length c2,I J (n+1)],I J (-1),I J 4]) (by simp[b1,results49,go_sem,r0,r1,r2]) rfl ?_;exact⟨_,_,rfl,M3.o.last _ _ _⟩
  ·rw[if_neg bh];obtain rfl:n=1073741824:=by omega
   go_enter func49,ntmps49;go_wp2_with fail;rw[←ab.o];refine(Fe _ _ q l _ _ (aa.o.below Cd) (X.o.below Cd) (by omega) (by omega) HM.o).mono ?_;rintro e f ⟨aJ,aK,rfl,t,j,h⟩;obtain⟨z,c1,rfl⟩:=t.rd.C2;obtain⟨R,c2,rfl⟩:=Bc j;obtain⟨K,L,M,N,P,Q⟩:=Cy ((h.block _ (by rw[Cj];omega)).trans FG);obtain⟨g0,B,C,D,E,F⟩:=Aj ((h.block _ (by rw[Cj];omega)).trans FF);have aC:w.heap.size+3≤f.heap.size:=by have:=h.size;rw[Cj] at this;exact this
   have ay:w.heap.size<f.heap.size:=by omega
   have ar:w.heap.size+1<f.heap.size:=by omega
   have aA:w.heap.size+1+1<f.heap.size:=by omega
   have g:=HH (QM.new (n:=1073741824) t j h);clear t j h ab;go_wp2_with fail;obtain⟨W1,H⟩:=ex (f.alloc (T #[Y z q.length c1,Y R l.length c2,I J 1073741824] 107));rw[←H] at g ⊢;clear H K L M N P Q g0 B C D E F;have i:=DY nm k o s d r 1073741824 _ _ q l W1 (aa.o.below g.o.bel) (X.o.below g.o.bel) am.o (by omega) (by omega);rw[K1.o] at i;refine i.mono ?_;clear i;rintro e w2 ⟨rfl,A⟩;have c:=HH (g.o.next A);clear A g;obtain⟨K,L,M,N,P,Q⟩:=Cy c.o.Bj;obtain⟨g0,B,C,D,E,F⟩:=Aj c.o.arg;obtain⟨r0,r1,r2,r3,r4,r5⟩:=Aj c.o.res;obtain⟨o0,o1,o2,o3,o4,o5⟩:=Aj c.o.obj;have av:=Aa c.o.obj;have az:=Aa c.o.Bj;have au:=Aa c.o.arg;have aB:=Aa c.o.res;have M3:=HH (c.o.PV (1073741824));clear c;go_wp2_with fail;refine bq (v:=.tuple #[.agg #[Y z q.length c1,Y R l.length c2,I J (1073741824)],I J (-1),I J 4]) (by simp[b1,results49,go_sem,r0,r1,r2]) rfl ?_;exact⟨_,_,rfl,M3.o.last _ _ _⟩
 ·rw[W];clear W;have K1:=HH V;clear V;have aQ:(x.length==0)=false:=by simp;exact S
  have aR:((x.length:Int)==0)=false:=by simp;exact S
  clear S;have KL:=HH kl;have be:¬(0<l.length):=by rw[kl];simp
  have bf:¬((0:Int)<(l.length:Int)):=by omega
  clear kl;have bd:((q.length:Int)==d)=false:=by simp[kd]
  clear kd;go_enter func49,ntmps49;go_wp2_with fail;rw[←ab.o];refine(Fe _ _ q l n _ (aa.o.below Cd) (X.o.below Cd) (by omega) (by omega) HM.o).mono ?_;rintro e f ⟨aJ,aK,rfl,t,j,h⟩;obtain⟨z,c1,rfl⟩:=t.rd.C2;obtain⟨R,c2,rfl⟩:=Bc j;obtain⟨K,L,M,N,P,Q⟩:=Cy ((h.block _ (by rw[Cj];omega)).trans FG);obtain⟨g0,B,C,D,E,F⟩:=Aj ((h.block _ (by rw[Cj];omega)).trans FF);have aC:w.heap.size+3≤f.heap.size:=by have:=h.size;rw[Cj] at this;exact this
  have ay:w.heap.size<f.heap.size:=by omega
  have ar:w.heap.size+1<f.heap.size:=by omega
  have aA:w.heap.size+1+1<f.heap.size:=by omega
  have g:=HH (QM.new (n:=n) t j h);clear t j h ab;go_wp2_with fail;obtain⟨W1,H⟩:=ex (f.alloc (T #[Y z q.length c1,Y R l.length c2,I J n] 107));rw[←H] at g ⊢;clear H K L M N P Q g0 B C D E F;have i:=DY nm k o s d r n _ _ q l W1 (aa.o.below g.o.bel) (X.o.below g.o.bel) am.o (by omega) (by omega);rw[K1.o] at i;refine i.mono ?_;clear i;rintro e w2 ⟨rfl,A⟩;have c:=HH (g.o.next A);clear A g;obtain⟨K,L,M,N,P,Q⟩:=Cy c.o.Bj;obtain⟨g0,B,C,D,E,F⟩:=Aj c.o.arg;obtain⟨r0,r1,r2,r3,r4,r5⟩:=Aj c.o.res;obtain⟨o0,o1,o2,o3,o4,o5⟩:=Aj c.o.obj;have av:=Aa c.o.obj;have az:=Aa c.o.Bj;have au:=Aa c.o.arg;have aB:=Aa c.o.res;have bp:=HH (bo.o.below c.o.bel);go_upto_region 12 with (fail)
  go_region_law (first
   |(refine YX rfl (.tmp 59) (.tmp 62) 35 rfl _ _ (by simp[Act.eval]) (by simp[Act.eval]) bn.o ?_)
   |(go_simp;go_at_call 27;(refine(Gj _ x _ (by exact bp.o) (by omega)).mono ?_;rintro e w3 ⟨v3,rfl,aN,ak⟩;replace ak:Bl w2 w3:=(by first|exact ak|exact EM ak);replace aN:C5 w3 w2.heap.size v3 x:=aN;obtain⟨a3,c3,rfl⟩:=Bq aN;obtain⟨v4,w4,ba,⟨a4,m4,c4,rfl⟩,aV,aW,bi⟩:=(c.o.next ak).append KL.o (aN.mono (by have:=c.o.ge;omega)) (by omega);have bn:=HH ba;have M4:=HH bi;obtain⟨s0,s1,s2,s3,s4,s5⟩:=Aj aV;obtain⟨t0,t1,t2,t3,t4,t5⟩:=Aj aW;obtain⟨u0,u1,u2,u3,u4,u5⟩:=Aj (c.o.next ak).obj;have bY:=Aa (c.o.next ak).obj;have bW:=Aa aV;have bX:=Aa aW;clear aN ak aV aW bi ba)))
  all_goals
   go_wp2_with fail;refine bq (v:=.tuple #[.agg #[Y a4 m4 c4,Y R l.length c2,I J n],I J (-1),I J 0]) (by simp[b1,results49,go_sem,t0,t1,t2]) rfl ?_;exact⟨_,_,rfl,M4.o.last _ _ _⟩
end Go.Proofs.YtiepijihpgijbaaGreatDoor
