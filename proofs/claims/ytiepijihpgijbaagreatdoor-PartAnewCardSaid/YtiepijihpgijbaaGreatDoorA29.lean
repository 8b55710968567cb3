import Derived.Test.YtiepijihpgijbaaGreatDoorQ24
set_option linter.all false
open Go.Value renaming int→I,slice→Y,pointer→G
open Go.IntKind renaming u8→U,i64→J
open Option renaming some→Z,none→O
open Nat renaming le_trans→aa,zero_le→ab
open Go.Instr renaming field→ac
open Go renaming Calls→ad,World→ae
open Go.RowKit renaming Below→af
open List renaming replicate→ag
namespace Go.Proofs.YtiepijihpgijbaaGreatDoor
open Go.RowKit Tryz
section
variable {B:Nat} {w w' w1 w2 w3:ae} {F F':Nat→Prop} {g:Nat} {d:Ad} {s s':Ae}
end
section
variable (m k:Int) (a1 a2 a3 a4 a5 a6 a7 a8:Option Addr) (n1 c1 n2 c2 n3 c3 n4 c4 n5 c5 n6 c6 n7 c7 n8 c8:Nat) (w:ae)
def cG:(ac 37 (.agg #[I U m,I J k,Y a1 n1 c1,Y a2 n2 c2,Y a3 n3 c3,Y a4 n4 c4,Y a5 n5 c5,Y a6 n6 c6,Y a7 n7 c7,Y a8 n8 c8]) 0).run prog w=.ok (I U m) w:=by
 simp[ac,asAgg,go_sem]
def cE:(ac 37 (.agg #[I U m,I J k,Y a1 n1 c1,Y a2 n2 c2,Y a3 n3 c3,Y a4 n4 c4,Y a5 n5 c5,Y a6 n6 c6,Y a7 n7 c7,Y a8 n8 c8]) 3).run prog w=.ok (Y a2 n2 c2) w:=by
 simp[ac,asAgg,go_sem]
def cH:(ac 37 (.agg #[I U m,I J k,Y a1 n1 c1,Y a2 n2 c2,Y a3 n3 c3,Y a4 n4 c4,Y a5 n5 c5,Y a6 n6 c6,Y a7 n7 c7,Y a8 n8 c8]) 7).run prog w=.ok (Y a6 n6 c6) w:=by
 simp[ac,asAgg,go_sem]
end
section
variable {B N:Nat} {w0 w w':ae} {g:Nat} {d:Ad} {s s':Ae}
def cD(h:Wd B N w0 w g d s)(b:Value)(a:List Int)(l:Af J w 0 b a):
  ad prog 11 #[G (Z ⟨g,0,O⟩),b] w fun e w'=>∃ v,e=.returned (.tuple #[v,.bool (decide ((Fl d a s).2.e=0))])∧Hh w' w.heap.size (Fl d a s).2 v∧Wd B N w0 w' g d (Fl d a s).1:=by
 obtain⟨F,c,f,i,j⟩:=h;refine(JL B w F g d s c b a l).mono ?_;rintro e w' ⟨v,k,m,n⟩;exact⟨v,k,m,Wd.op n f i j⟩
end
section
variable {d:Ad} {s:Ae} {p now:Int}
def bF:Br d 6 p s=(Hm d 4 s,0):=by
 unfold Br;rw[if_neg (by omega),if_neg (by omega),if_neg (by omega),if_neg (by omega),if_neg (by omega),if_neg (by omega),if_pos rfl]
def bH:Br d 4 p s=(Hm d 2 s,0):=by
 unfold Br;rw[if_neg (by omega),if_neg (by omega),if_neg (by omega),if_neg (by omega),if_pos rfl]
def bB:Br d 5 p s=(Hm d 1 {s with mem:=ag s.mem.length 0},0):=by
 unfold Br;rw[if_neg (by omega),if_neg (by omega),if_neg (by omega),if_neg (by omega),if_neg (by omega),if_pos rfl]
def bK(a:s.mode=4):(A3 d now s).2.ran=-1∧(A3 d now s).1.mode=4∧(A3 d now s).1.mem=s.mem∧(s.clock≤now→now≤1073741824→(A3 d now s).2.e=0∧(A3 d now s).1.clock=now+1):=by
 unfold A3;by_cases h:now<s.clock∨1073741824<now
 ·rw[if_pos h];exact⟨rfl,a,rfl,fun b c=>absurd h (by omega)⟩
 ·rw[if_neg h,if_pos a];exact⟨rfl,a,rfl,fun _ _=>⟨rfl,rfl⟩⟩
def bA(d:Ad)(c:Int):Ae:=Hm d 1 ⟨0,c,ag d.mem.toNat 0,[],[],[],[],[],[],[]⟩
def bE(a:s.mem.length=d.mem.toNat):(Br d 5 p s).1=bA d s.clock:=by
 rw[bB];show _=Hm d 1 _;rw[←a];rfl
end
def aX(B N:Nat)(w0:ae)(L H:Nat)(a:ae)(g:Nat)(d:Ad)(s:Ae)(w:ae):Prop:=∃ F,Lv B w F g d s∧(∀ b,F b→N≤b∧(b<L∨H≤b))∧af N w0 w∧N≤w.heap.size∧H≤w.heap.size∧∀ b,L≤b→b<H→w.heap[b]? =a.heap[b]?
section
variable {B N L H:Nat} {w0 wv w w':ae} {g:Nat} {d:Ad} {s s':Ae}
def aX.wd(h:aX B N w0 L H wv g d s w):Wd B N w0 w g d s:=by
 obtain⟨F,a,c,e,f,_⟩:=h;exact⟨F,a,fun b i=>(c b i).1,e,f⟩
def aX.below(h:aX B N w0 L H wv g d s w)(a:Bl w w'):aX B N w0 L H wv g d s w':=by
 obtain⟨F,i,j,k,c,e,l⟩:=h;exact⟨F,i.below a,j,k.trans (a.mono c),aa c a.size,aa e a.size,fun b m f=>(a.block b (Nat.lt_of_lt_of_le f e)).trans (l b m f)⟩
def aX.op{F:Nat→Prop}(h:Dr B w F g d s' w')(c:∀ b,F b→N≤b∧(b<L∨H≤b))(f:af N w0 w)(e:N≤w.heap.size)(i:H≤w.heap.size)(j:∀ b,L≤b→b<H→w.heap[b]? =wv.heap[b]?):aX B N w0 L H wv g d s' w':=
 ⟨_,h.1,fun b a=>by
  rcases a with a|a
  ·exact c b a
  ·omega,f.trans (h.2.low (fun b a=>(c b a).1) e),aa e h.2.size,aa i h.2.size,fun b k l=>(h.2.block b (by omega) fun m=>by have:=c b m;omega).trans (j b k l)⟩
def bN(h:Wd B N w0 w g d s):ad prog 10 #[G (Z ⟨g,0,O⟩)] w fun e w'=>NR w s e w'∧aX B N w0 w.heap.size w'.heap.size w' g d s w':=by
 obtain⟨F,c,i,j,f⟩:=h;refine(J3 c).mono ?_;rintro e w' h;have a:Bl w w':=by
  obtain⟨_,_,_,_,_,_,_,_,_,_,_,_,_,_,_,_,_,_,_,a⟩:=h;exact a
 exact⟨h,F,c.below a,fun b a=>⟨i b a,.inl (c.px.1 b a)⟩,j.trans (a.mono f),aa f a.size,Nat.le_refl _,fun _ _ _=>rfl⟩
def bG(h:aX B N w0 L H wv g d s w)(k p:Int):ad prog 16 #[G (Z ⟨g,0,O⟩),I U k,I J p] w fun e w'=>e=.returned (I J (Br d k p s).2)∧aX B N w0 L H wv g d (Br d k p s).1 w':=by
 obtain⟨F,a,b,c,f,i,j⟩:=h;refine(SH a k p).mono ?_;rintro e w' ⟨l,m⟩;exact⟨l,aX.op m b c f i j⟩
def bL(h:aX B N w0 L H wv g d s w)(now:Int):ad prog 17 #[G (Z ⟨g,0,O⟩),I J now] w fun e w'=>
  ∃ c f,e=.returned (.tuple #[.agg #[I J (A3 d now s).2.ran,I U (A3 d now s).2.act.kind,I J (A3 d now s).2.act.a,I J (A3 d now s).2.act.b,c,f],I J (A3 d now s).2.e])∧aX B N w0 L H wv g d (A3 d now s).1 w':=by
 obtain⟨F,i,j,k,l,m,n⟩:=h;refine(QF i now).mono ?_;rintro e w' ⟨c,f,o,q,r,p⟩;exact⟨c,f,o,aX.op p j k l m n⟩
def bJ(h:aX B N w0 L wv.heap.size wv g d s w){v:Value}{m:List Int}(c:Af U wv L v m):Af U w 0 v m:=by
 obtain⟨F,e,f,i,j,a,b⟩:=h;exact Sl.mono (No c a b) (ab _)
end
section
variable {B N L H gx gy:Nat} {w0 wv w w':ae} {g:Nat} {d:Ad} {s t:Ae}
def bU(h:aX B N w0 L H wv g d s w)(p:Int):ad prog 16 #[G (Z ⟨g,0,O⟩),I U 6,I J p] w fun e w'=>e=.returned (I J 0)∧∃ a:Ae,a.mode=4∧a.mem=s.mem∧a.clock=s.clock∧aX B N w0 L H wv g d a w':=by
 have k:=bG h 6 p;rw[bF] at k;exact k.mono fun e w' h=>⟨h.1,Hm d 4 s,rfl,rfl,rfl,h.2⟩
def bR(h:aX B N w0 L H wv g d s w)(p:Int):ad prog 16 #[G (Z ⟨g,0,O⟩),I U 4,I J p] w fun e w'=>e=.returned (I J 0)∧∃ a:Ae,a.mode=2∧a.mem=s.mem∧a.clock=s.clock∧aX B N w0 L H wv g d a w':=by
 have k:=bG h 4 p;rw[bH] at k;exact k.mono fun e w' h=>⟨h.1,Hm d 2 s,rfl,rfl,rfl,h.2⟩
def bO(h:Good d s):s.mem.length=d.mem.toNat:=by have:=h.ok.mem;omega
def bS(h:aX B N w0 L H wv g d s w)(p:Int):ad prog 16 #[G (Z ⟨g,0,O⟩),I U 5,I J p] w fun e w'=>e=.returned (I J 0)∧aX B N w0 L H wv g d (bA d s.clock) w':=by
 have k:=bG h 5 p;rw[bE (bO h.wd.good),bB] at k;exact k
def bY(h:aX B N w0 L H wv g d s w)(y:s.mode=4)(now:Int)(R:s.clock=now):ad prog 17 #[G (Z ⟨g,0,O⟩),I J now] w fun e w'=>
  ∃ k a b f P j i Q l n,e=.returned (.tuple #[.agg #[I J (-1),I U k,I J a,I J b,Y f P j,Y i Q l],I J n])∧(now≤1073741824∧n=0∨1073741824<now∧n=2)∧∃ c:Ae,c.mode=4∧c.mem=s.mem∧aX B N w0 L H wv g d c w':=by
 obtain⟨F,p,q,r,u,v,x⟩:=h;obtain⟨z,A,C,D⟩:=bK (d:=d) (now:=now) y;refine(QF p now).mono ?_;rintro e w' ⟨S,V,m,E,K,M⟩;obtain⟨f,j,rfl,_⟩:=E;obtain⟨i,l,rfl,_⟩:=K;rw[z] at m;refine⟨_,_,_,_,_,_,_,_,_,_,m,?_,_,A,C,aX.op M q r u v x⟩;by_cases o:now≤1073741824
 ·exact .inl ⟨o,(D (by omega) o).1⟩
 ·refine .inr ⟨by omega,?_⟩;unfold A3;rw[if_pos (.inr (by omega))]
def bX{A:Nat}(h:aX B N w0 L wv.heap.size wv g d s w){a b:Value}{m:List Int}(c:Af U w A a s.mem)(f:Af U wv L b m)(e:s.mem=m):ad prog 14 #[a,b] w fun e w'=>e=.returned (.bool true)∧Bl w w':=by
 have:=YI a b s.mem m w (Sl.mono c (ab _)) (bJ h f) (by have:=h.wd.good.ok.mem;have:=h.wd.good.ok.ok.mem;omega);rw[decide_eq_true e] at this;exact this
end
def aW(B N:Nat)(w0:ae)(e f:Nat)(d:Ad)(s t:Ae)(w:ae):Prop:=∃ a c,Lv B w a e d s∧Lv B w c f d t∧Ap a c∧(∀ b,a b→N≤b)∧(∀ b,c b→N≤b)∧af N w0 w∧N≤w.heap.size
def aY(B N L:Nat)(w0:ae)(e f:Nat)(d:Ad)(s t:Ae)(w:ae):Prop:=∃ a c,Lv B w a e d s∧Lv B w c f d t∧Ap a c∧(∀ b,a b→N≤b)∧(∀ b,c b→N≤b∧b<L)∧af N w0 w∧N≤w.heap.size
section
variable {B N L gx gy:Nat} {w0 w w':ae} {d:Ad} {s t t':Ae}
def aW.below(h:aW B N w0 gx gy d s t w)(a:Bl w w'):aW B N w0 gx gy d s t w':=by
 obtain⟨c,e,f,g,i,j,k,l,b⟩:=h;exact⟨c,e,f.below a,g.below a,i,j,k,l.trans (a.mono b),aa b a.size⟩
def aY.below(h:aY B N L w0 gx gy d s t w)(a:Bl w w'):aY B N L w0 gx gy d s t w':=by
 obtain⟨c,e,f,g,i,j,k,l,b⟩:=h;exact⟨c,e,f.below a,g.below a,i,j,k,l.trans (a.mono b),aa b a.size⟩
def aY.bel(h:aY B N L w0 gx gy d s t w):af N w0 w:=by
 obtain⟨b,c,e,f,g,i,j,a,k⟩:=h;exact a
def aW.bel(h:aW B N w0 gx gy d s t w):af N w0 w:=by
 obtain⟨b,c,e,f,g,i,j,a,k⟩:=h;exact a
def aW.aZ{a c:Nat→Prop}(f:Lv B w a gx d s)(h:Dr B w c gy d t' w')(m:∀ b,c b→B≤b)(g:Ap a c)(k:∀ b,a b→N≤b)(i:∀ b,c b→N≤b)(l:af N w0 w)(j:N≤w.heap.size):aW B N w0 gx gy d s t' w':=
 ⟨a,_,f.other h.2 m g,h.1,g.gr f.px.1,k,fun b e=>by
  rcases e with e|e
  ·exact i b e
  ·omega,l.trans (h.2.low i j),aa j h.2.size⟩
def bI(h:aW B N w0 gx gy d s t w)(k p:Int):ad prog 16 #[G (Z ⟨gy,0,O⟩),I U k,I J p] w fun e w'=>e=.returned (I J (Br d k p t).2)∧aW B N w0 gx gy d s (Br d k p t).1 w':=by
 obtain⟨n,o,b,a,c,f,g,i,j⟩:=h;refine(SH a k p).mono ?_;rintro e w' ⟨l,m⟩;exact⟨l,aW.aZ b m a.fb c f g i j⟩
def bM(h:aW B N w0 gx gy d s t w)(now:Int):ad prog 17 #[G (Z ⟨gy,0,O⟩),I J now] w fun e w'=>
  ∃ c f,e=.returned (.tuple #[.agg #[I J (A3 d now t).2.ran,I U (A3 d now t).2.act.kind,I J (A3 d now t).2.act.a,I J (A3 d now t).2.act.b,c,f],I J (A3 d now t).2.e])∧aW B N w0 gx gy d s (A3 d now t).1 w':=by
 obtain⟨q,r,i,g,j,k,l,m,n⟩:=h;refine(QF g now).mono ?_;rintro e w' ⟨c,f,o,u,v,p⟩;exact⟨c,f,o,aW.aZ i p g.fb j k l m n⟩
def aW.new{e:Ending}(h:Wd B N w0 w gx d s)(c:JD B w d e w')(m:E6 d=true):∃ gy,e=.returned (.tuple #[G (Z ⟨gy,0,O⟩),I J 0])∧aW B N w0 gx gy d s (DB d) w':=by
 obtain⟨F,g,k,l,f⟩:=h;obtain⟨a,c⟩:=c;rw[if_pos m] at c;obtain⟨gy,j,n,o,i⟩:=c;exact⟨gy,n,F,j,g.below a,o,fun b p q=>by have:=g.px.1 b p;have:=i b q;omega,k,fun b a=>aa f (i b a),l.trans (a.mono f),aa f a.size⟩
def bC(h:aW B N w0 gx gy d s t w)(i:Value)(f:List Int)(u:Af J w 0 i f):
  ad prog 11 #[G (Z ⟨gx,0,O⟩),i] w fun e w'=>∃ v,e=.returned (.tuple #[v,.bool (decide ((Fl d f s).2.e=0))])∧Hh w' w.heap.size (Fl d f s).2 v∧aY B N w.heap.size w0 gx gy d (Fl d f s).1 t w'∧w.heap.size≤w'.heap.size:=by
 obtain⟨n,o,j,g,k,l,p,q,m⟩:=h;refine(JL B w n gx d s j i f u).mono ?_;rintro e w' ⟨v,r,x,c⟩;refine⟨v,r,x,⟨_,o,c.1,g.other c.2 j.fb k.symm,(k.symm.gr g.px.1).symm,fun b a=>?_,fun b a=>⟨p b a,g.px.1 b a⟩,q.trans (c.2.low l m),aa m c.2.size⟩,c.2.size⟩;rcases a with a|a
 ·exact l b a
 ·omega
def bD(h:aY B N L w0 gx gy d s t w)(f:Value)(a:List Int)(u:Af J w 0 f a):
  ad prog 11 #[G (Z ⟨gy,0,O⟩),f] w fun e w'=>∃ v,e=.returned (.tuple #[v,.bool (decide ((Fl d a t).2.e=0))])∧Hh w' w.heap.size (Fl d a t).2 v∧aW B N w0 gx gy d s (Fl d a t).1 w'∧w.heap.size≤w'.heap.size∧∀ b,L≤b→b<w.heap.size→w'.heap[b]? =w.heap[b]?:=by
 obtain⟨z,j,k,g,l,m,i,n,o⟩:=h;refine(JL B w j gy d t g f a u).mono ?_;rintro e w' ⟨v,q,x,c⟩;exact⟨v,q,x,aW.aZ k c g.fb l m (fun b p=>(i b p).1) n o,c.2.size,fun b A y=>c.2.block b y fun r=>by have:=i b r;omega⟩
def bV(h:aW B N w0 gx gy d s t w)(p:Int):ad prog 16 #[G (Z ⟨gy,0,O⟩),I U 6,I J p] w fun e w'=>e=.returned (I J 0)∧∃ t':Ae,t'.mode=4∧t'.clock=t.clock∧aW B N w0 gx gy d s t' w':=by
 have k:=bI h 6 p;rw[bF] at k;exact k.mono fun e w' h=>⟨h.1,Hm d 4 t,rfl,rfl,h.2⟩
def aW.good(h:aW B N w0 gx gy d s t w):Good d t:=by
 obtain⟨b,c,e,a,f,g,i,j,k⟩:=h;exact a.good
def aW.bW(h:aW B N w0 gx gy d s t w):Good d s:=by
 obtain⟨b,c,a,e,f,g,i,j,k⟩:=h;exact a.good
def bT(h:aW B N w0 gx gy d s t w)(p c:Int)(a:t.clock=c):ad prog 16 #[G (Z ⟨gy,0,O⟩),I U 5,I J p] w fun e w'=>e=.returned (I J 0)∧aW B N w0 gx gy d s (bA d c) w':=by
 have k:=bI h 5 p;rw[bE (bO h.good),bB,a] at k;exact k
def bZ(h:aW B N w0 gx gy d s t w)(z:t.mode=4)(now:Int)(l:t.clock≤now)(n:now≤1073741824):ad prog 17 #[G (Z ⟨gy,0,O⟩),I J now] w fun e w'=>
  ∃ r k a b c E g f F i,e=.returned (.tuple #[.agg #[I J r,I U k,I J a,I J b,Y c E g,Y f F i],I J 0])∧∃ t':Ae,t'.clock=now+1∧aW B N w0 gx gy d s t' w':=by
 obtain⟨H,K,p,j,q,u,v,x,y⟩:=h;obtain⟨M,P,Q,o⟩:=bK (d:=d) (now:=now) z;refine(QF j now).mono ?_;rintro e w' ⟨R,S,m,A,C,D⟩;obtain⟨c,g,rfl,_⟩:=A;obtain⟨f,i,rfl,_⟩:=C;rw[(o l n).1] at m;exact⟨_,_,_,_,_,_,_,_,_,_,m,_,(o l n).2,aW.aZ p D j.fb q u v x y⟩
def b9(h:aW B N w0 gx gy d s t w):ad prog 10 #[G (Z ⟨gx,0,O⟩)] w (NR w s):=by
 obtain⟨b,c,a,e,f,g,i,j,k⟩:=h;exact J3 a
def cB(h:aW B N w0 gx gy d s t w):ad prog 10 #[G (Z ⟨gy,0,O⟩)] w (NR w t):=by
 obtain⟨b,c,e,a,f,g,i,j,k⟩:=h;exact J3 a
def bP(now:Int)(h:s.procs.length≤6):(A3 d now s).2.faults.length≤7:=by
 have a:∀ p:Ae,p.procs.length≤6→(CP now p).2.length≤6:=fun p b=>aa (KH now p.procs 0) b;have c:=a (Dl d now {s with clock:=now+1}) (by rw[Qm];exact h);unfold A3;split
 ·exact ab _
 ·split
  ·exact ab _
  ·split
   ·exact ab _
   ·simp only[];split
    ·show(CP now (Dl d now {s with clock:=now+1})).2.length≤7;omega
    ·split
     ·rw[List.length_append];show(CP now (Dl d now {s with clock:=now+1})).2.length+1≤7;omega
     ·show(CP now (Dl d now {s with clock:=now+1})).2.length≤7;omega
def bQ(b:List Int)(h:Good d s):(Fl d b s).2.faults.length≤7:=by
 have a:s.procs.length≤6:=by rw[h.ok.procs];exact h.ok.ok.procs
 unfold Fl;split
 ·exact ab _
 ·split
  ·exact ab _
  ·split
   ·exact ab _
   ·split
    ·exact ab _
    ·exact bP _ a
end
end Go.Proofs.YtiepijihpgijbaaGreatDoor
