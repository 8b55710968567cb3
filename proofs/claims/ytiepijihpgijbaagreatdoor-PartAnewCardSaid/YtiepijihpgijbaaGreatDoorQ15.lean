import Derived.Deep.CutBlock
import Derived.Test.YtiepijihpgijbaaGreatDoorQ10
set_option maxHeartbeats 20000000
set_option maxRecDepth 100000
set_option linter.all false
open Go.Value renaming pointer→G,int→I,slice→Y
open Option renaming some→Z,none→O
open Go.IntKind renaming i64→J,u8→U
open Go.Obj renaming cells→T
open Go.Value renaming pointer→ab
open Go renaming heap_alloc_new→ac,World→af
open Nat renaming le_refl→ad
open Go.RowKit.Below renaming refl→ae
namespace Go.Proofs.YtiepijihpgijbaaGreatDoor
open Go.RowKit Tryz
def A5(b a n:Int):Bool:=decide (b≤n) && decide (n≤a)
@[reducible] def Mb(a b:Nat):Value:=.func (.func 166) #[] #[G (Z ⟨a,0,O⟩),G (Z ⟨b,0,O⟩)]
def ZD(d h n:Int)(a b:Nat)(w:af)(i:w.cell? ⟨a,0,O⟩=Z (I J d))(j:w.cell? ⟨b,0,O⟩=Z (I J h)):
  Calls prog 166 #[I J n,G (Z ⟨a,0,O⟩),G (Z ⟨b,0,O⟩)] w fun e w'=>e=.returned (.bool (A5 d h n))∧w=w':=by
 by_cases g:d≤n
 ·have f:=decide_eq_true g;have c:=HH f;go_enter func166,ntmps166;go_wp2;go_ret;exact⟨A8 (by unfold A5;rw[c.o];rfl),rfl⟩
 ·have f:=decide_eq_false g;have c:=HH f;go_enter func166,ntmps166;go_wp2;go_ret;exact⟨A8 (by unfold A5;rw[c.o];rfl),rfl⟩
def ZE(b a:Int)(w:af):
  Calls prog 128 #[I J b,I J a] w fun e w'=>e=.returned (Mb w.heap.size (w.heap.size+1))∧w'=(w.alloc (T #[I J b] 3)).alloc (T #[I J a] 3):=by
 go_enter func128,ntmps128;go_wp2;go_ret;exact⟨by simp[Mb],rfl⟩
def Et(d c n:Int)(a b:Nat)(f:Bool){w:af}(i:A5 d c n=f)(g:w.cell? ⟨a,0,O⟩=Z (I J d))(h:w.cell? ⟨b,0,O⟩=Z (I J c)):
  Calls prog 166 #[I J n,G (Z ⟨a,0,O⟩),G (Z ⟨b,0,O⟩)] w fun e w'=>e=.returned (.bool f)∧w=w':=i ▸ ZD d c n a b w g h
def BX(w:af)(a:Nat)(n:Int):Prop:=w.heap[a]? =Z (T #[I J n] 3 (0,0))
def BX.cell{w:af}{a:Nat}{n:Int}(h:BX w a n):w.cell? ⟨a,0,O⟩=Z (I J n):=Cr h
def BX.below{w w':af}{a:Nat}{n:Int}(h:BX w a n)(b:Bl w w'):BX w' a n:=(b.block _ (Aa h)).trans h
def G7(c d:Int)(w:af):
  Calls prog 128 #[I J c,I J d] w fun e w'=>∃ a b,e=.returned (Mb a b)∧Bl w w'∧BX w' a c∧BX w' b d:=by
 refine(ZE c d w).mono ?_;rintro e w' ⟨rfl,rfl⟩;refine⟨_,_,rfl,((ae _ _).alloc (ad _) _).alloc (by simp) _,?_,?_⟩
 ·exact(((ae _ _).alloc (ad _) _:Below (w.alloc (T #[I J c] 3)).heap.size _ _).block _ (by simp)).trans (ac _ _)
 ·have:=ac (w.alloc (T #[I J c] 3)) (T #[I J d] 3);simpa[BX] using this
def Zq(nm:ByteArray)(k:Int)(o:Bool)(s d r g:Int)(K:Bool)(vq:Value)(q:List Int)(w:af)(h:Af U w 0 vq q)(aJ:q.length≤100000):
  Calls prog 96 #[.agg #[.string nm,I U k,.bool o,I J s,I J d,I J r,vq,I J g,.bool K]] w fun e w'=>e=.returned (.bool (DZ ⟨k,o,s,d,r⟩ ⟨q,g,K⟩))∧Bl w w':=by
 obtain⟨aq,cq,rfl,aQ,aR,aS⟩:=h.open_;clear aQ aR aS h;go_enter func96,ntmps96;go_upto_region 2 with (first|(go_at_call 128;refine(G7 _ _ _).mono ?_;rintro e Q ⟨t0,t1,rfl,ay,aK,aL⟩));have aX:=HH aJ;have aA:Q.heap[w.heap.size]? =Z (T #[.string nm,I U k,.bool o,I J s,I J d,I J r,Y aq q.length cq,I J g,.bool K] 165 (0,0)):=(ay.block _ (by simp)).trans (ac _ _);have L:Hq (Bl w Q):=((ae _ w).alloc (ad _) _).trans (ay.mono (by simp));have an:=Aa aA;obtain⟨M,W,X⟩:=H3 aA aK aL;clear aA ay aK aL aJ;obtain⟨-,c1,-,c3,c4,c5,c6,c7,c8⟩:=r9 M.o;by_cases hk:k=1
 rotate_left
 ·have q0:(k !=1)=true:=by simp[hk]
  have E0:=HH hk
  go_quiet (fail)
  go_wp2;go_ret;refine⟨A8 ?_,?_⟩
  ·simp[DZ,E0.o]
  ·exact JO L.o _
 have q0:(k !=1)=false:=by simp[hk]
 have E0:=HH hk;clear hk;by_cases hd:d=0
 rotate_left
 ·have q1:(d !=0)=true:=by simp[hd]
  have E1:=HH hd
  go_quiet (fail)
  go_wp2;go_ret;refine⟨A8 ?_,?_⟩
  ·simp[DZ,E1.o]
  ·exact JO L.o _
 have q1:(d !=0)=false:=by simp[hd]
 have E1:=HH hd;clear hd;have EQ:Hq (DZ ⟨k,o,s,d,r⟩ ⟨q,g,K⟩=(A5 1 64 s && A5 0 1073741824 r && (if K then A5 1 s q.length && A5 0 1073741824 g else(q.length==0 && g==0)))):=by
  show DZ ⟨k,o,s,d,r⟩ ⟨q,g,K⟩=_;simp[DZ,A5,E0.o,E1.o]
 go_cut [30] from 5 to 30 (fun aV wx=>aV=.bool (!(A5 1 64 s && A5 0 1073741824 r))∧Bl Q wx)
 case first=>
  cases hs:A5 1 64 s with
  |false=>
   have t:=HH hs
   first|go_region_with (first|(go_at_call 128;refine(G7 _ _ _).mono ?_;rintro e n ⟨a3,b3,rfl,b,v,z⟩;replace b:Bl Q n:=(by first|exact b|exact EM b);have j:=(b.block _ an).trans M.o;have aM:n.cell? ⟨w.heap.size,3,O⟩=Z (I J s):=Cr j;have aN:n.cell? ⟨w.heap.size,5,O⟩=Z (I J r):=Cr j;have u:=HH b;have S:=HH v;have V:=HH z;have aj:=HH (W.o.below b);have ak:=HH (X.o.below b);clear b v z j)|(first|(go_at_call_of 166 (ab (Z ⟨a3,0,O⟩));refine(Et _ _ _ _ _ _ hs (by exact S.o.cell) (by exact V.o.cell)).mono ?_;rintro e i ⟨rfl,rfl⟩)))|fail
   all_goals go_wp2_with fail
   all_goals go_meet
   all_goals exact⟨by rw[t.o];rfl,by first|exact u.o|exact u.o.drew⟩
  |true=>
   have t:=HH hs;cases hr:A5 0 1073741824 r with
   |false=>
    have ER:=HH hr
    first|go_region_with (first|(go_at_call 128;refine(G7 _ _ _).mono ?_;rintro e n ⟨a3,b3,rfl,b,v,z⟩;replace b:Bl Q n:=(by first|exact b|exact EM b);have j:=(b.block _ an).trans M.o;have aM:n.cell? ⟨w.heap.size,3,O⟩=Z (I J s):=Cr j;have aN:n.cell? ⟨w.heap.size,5,O⟩=Z (I J r):=Cr j;have u:=HH b;have S:=HH v;have V:=HH z;have aj:=HH (W.o.below b);have ak:=HH (X.o.below b);clear b v z j)|(first|(go_at_call_of 166 (ab (Z ⟨a3,0,O⟩));refine(Et _ _ _ _ _ _ hs (by exact S.o.cell) (by exact V.o.cell)).mono ?_;rintro e i ⟨rfl,rfl⟩)|(go_at_call_of 166 (ab (Z ⟨t0,0,O⟩));refine(Et _ _ _ _ _ _ hr (by exact aj.o.cell) (by exact ak.o.cell)).mono ?_;rintro e i ⟨rfl,rfl⟩)))|fail
    all_goals go_wp2_with fail
    all_goals go_meet
    all_goals exact⟨by rw[t.o,ER.o];rfl,by first|exact u.o|exact u.o.drew⟩
   |true=>
    have ER:=HH hr
    first|go_region_with (first|(go_at_call 128;refine(G7 _ _ _).mono ?_;rintro e n ⟨a3,b3,rfl,b,v,z⟩;replace b:Bl Q n:=(by first|exact b|exact EM b);have j:=(b.block _ an).trans M.o;have aM:n.cell? ⟨w.heap.size,3,O⟩=Z (I J s):=Cr j;have aN:n.cell? ⟨w.heap.size,5,O⟩=Z (I J r):=Cr j;have u:=HH b;have S:=HH v;have V:=HH z;have aj:=HH (W.o.below b);have ak:=HH (X.o.below b);clear b v z j)|(first|(go_at_call_of 166 (ab (Z ⟨a3,0,O⟩));refine(Et _ _ _ _ _ _ hs (by exact S.o.cell) (by exact V.o.cell)).mono ?_;rintro e i ⟨rfl,rfl⟩)|(go_at_call_of 166 (ab (Z ⟨t0,0,O⟩));refine(Et _ _ _ _ _ _ hr (by exact aj.o.cell) (by exact ak.o.cell)).mono ?_;rintro e i ⟨rfl,rfl⟩)))|fail
    all_goals go_wp2_with fail
    all_goals go_meet
    all_goals exact⟨by rw[t.o,ER.o];rfl,by first|exact u.o|exact u.o.drew⟩
 case rest=>
  obtain⟨rfl,P⟩:=hcut;cases az:(A5 1 64 s && A5 0 1073741824 r) with
  |false=>
   go_wp2;go_ret;exact⟨A8 (by rw[EQ.o,az];rfl),L.o.trans (P.mono L.o.size)⟩
  |true=>
   have aB:=(P.block _ an).trans M.o;have ao:=Aa aB;have aa:=HH aB;have p:Hq (Bl w wc):=L.o.trans (P.mono L.o.size);obtain⟨al,am,t⟩:=H3 (W.o.below P) (X.o.below P) az;clear az aB P c1 c3 c4 c5 c6 c7 c8 q0 q1 W X M;obtain⟨-,-,-,c3,-,-,c6,c7,c8⟩:=r9 aa.o;cases K with
   |false=>
    by_cases ap:q.length=0
    ·have g0:((q.length:Int)==0)=true:=by simp[ap]
     go_wp2;go_ret;refine⟨A8 ?_,p.o⟩;rw[EQ.o,t.o];simp[ap]
    ·have g0:((q.length:Int)==0)=false:=by simpa using ap
     go_wp2;go_ret;refine⟨A8 ?_,p.o⟩;rw[EQ.o,t.o];simp[ap]
   |true=>
    have EV:Hq (∀ x y:Bool,A5 1 s q.length=x→A5 0 1073741824 g=y→(x && y)=DZ ⟨k,o,s,d,r⟩ ⟨q,g,true⟩):=fun x y hx hy=>by rw[EQ.o,t.o,hx,hy];rfl
    go_upto_region 6 with (fail);cases N:A5 0 1073741824 g with
    |false=>
     have R:=HH N;cases h:A5 1 s q.length with
     |false=>
      have A:=HH h
      first|go_region_with (first|(go_at_call 128;refine(G7 _ _ _).mono ?_;rintro e f ⟨H,b5,rfl,a,l,m⟩;replace a:Bl wc f:=(by first|exact a|exact EM a);have c:=(a.block _ ao).trans aa.o;have aC:f.cell? ⟨w.heap.size,3,O⟩=Z (I J s):=Cr c;have aD:f.cell? ⟨w.heap.size,6,O⟩=Z (Y aq q.length cq):=Cr c;have aE:f.cell? ⟨w.heap.size,7,O⟩=Z (I J g):=Cr c;have C:=HH a;have B:=HH l;have D:=HH m;have E:=HH (al.o.below a);have F:=HH (am.o.below a);clear a l m c)|(first|(go_at_call_of 166 (ab (Z ⟨H,0,O⟩));refine(Et _ _ _ _ _ _ h (by exact B.o.cell) (by exact D.o.cell)).mono ?_;rintro e i ⟨rfl,rfl⟩)|(go_at_call_of 166 (ab (Z ⟨t0,0,O⟩));refine(Et _ _ _ _ _ _ N (by exact E.o.cell) (by exact F.o.cell)).mono ?_;rintro e i ⟨rfl,rfl⟩)))|fail
      all_goals go_wp2_with fail
      all_goals go_ret
      all_goals exact⟨A8 (EV.o false false A.o R.o),p.o.trans (C.o.mono p.o.size)⟩
     |true=>
      have A:=HH h
      first|go_region_with (first|(go_at_call 128;refine(G7 _ _ _).mono ?_;rintro e f ⟨H,b5,rfl,a,l,m⟩;replace a:Bl wc f:=(by first|exact a|exact EM a);have c:=(a.block _ ao).trans aa.o;have aC:f.cell? ⟨w.heap.size,3,O⟩=Z (I J s):=Cr c;have aD:f.cell? ⟨w.heap.size,6,O⟩=Z (Y aq q.length cq):=Cr c;have aE:f.cell? ⟨w.heap.size,7,O⟩=Z (I J g):=Cr c;have C:=HH a;have B:=HH l;have D:=HH m;have E:=HH (al.o.below a);have F:=HH (am.o.below a);clear a l m c)|(first|(go_at_call_of 166 (ab (Z ⟨H,0,O⟩));refine(Et _ _ _ _ _ _ h (by exact B.o.cell) (by exact D.o.cell)).mono ?_;rintro e i ⟨rfl,rfl⟩)|(go_at_call_of 166 (ab (Z ⟨t0,0,O⟩));refine(Et _ _ _ _ _ _ N (by exact E.o.cell) (by exact F.o.cell)).mono ?_;rintro e i ⟨rfl,rfl⟩)))|fail
      all_goals go_wp2_with fail
      all_goals go_ret
      all_goals exact⟨A8 (EV.o true false A.o R.o),p.o.trans (C.o.mono p.o.size)⟩
    |true=>
     have R:=HH N;cases h:A5 1 s q.length with
     |false=>
      have A:=HH h
      first|go_region_with (first|(go_at_call 128;refine(G7 _ _ _).mono ?_;rintro e f ⟨H,b5,rfl,a,l,m⟩;replace a:Bl wc f:=(by first|exact a|exact EM a);have c:=(a.block _ ao).trans aa.o;have aC:f.cell? ⟨w.heap.size,3,O⟩=Z (I J s):=Cr c;have aD:f.cell? ⟨w.heap.size,6,O⟩=Z (Y aq q.length cq):=Cr c;have aE:f.cell? ⟨w.heap.size,7,O⟩=Z (I J g):=Cr c;have C:=HH a;have B:=HH l;have D:=HH m;have E:=HH (al.o.below a);have F:=HH (am.o.below a);clear a l m c)|(first|(go_at_call_of 166 (ab (Z ⟨H,0,O⟩));refine(Et _ _ _ _ _ _ h (by exact B.o.cell) (by exact D.o.cell)).mono ?_;rintro e i ⟨rfl,rfl⟩)|(go_at_call_of 166 (ab (Z ⟨t0,0,O⟩));refine(Et _ _ _ _ _ _ N (by exact E.o.cell) (by exact F.o.cell)).mono ?_;rintro e i ⟨rfl,rfl⟩)))|fail
      all_goals go_wp2_with fail
      all_goals go_ret
      all_goals exact⟨A8 (EV.o false true A.o R.o),p.o.trans (C.o.mono p.o.size)⟩
     |true=>
      have A:=HH h
      first|go_region_with (first|(go_at_call 128;refine(G7 _ _ _).mono ?_;rintro e f ⟨H,b5,rfl,a,l,m⟩;replace a:Bl wc f:=(by first|exact a|exact EM a);have c:=(a.block _ ao).trans aa.o;have aC:f.cell? ⟨w.heap.size,3,O⟩=Z (I J s):=Cr c;have aD:f.cell? ⟨w.heap.size,6,O⟩=Z (Y aq q.length cq):=Cr c;have aE:f.cell? ⟨w.heap.size,7,O⟩=Z (I J g):=Cr c;have C:=HH a;have B:=HH l;have D:=HH m;have E:=HH (al.o.below a);have F:=HH (am.o.below a);clear a l m c)|(first|(go_at_call_of 166 (ab (Z ⟨H,0,O⟩));refine(Et _ _ _ _ _ _ h (by exact B.o.cell) (by exact D.o.cell)).mono ?_;rintro e i ⟨rfl,rfl⟩)|(go_at_call_of 166 (ab (Z ⟨t0,0,O⟩));refine(Et _ _ _ _ _ _ N (by exact E.o.cell) (by exact F.o.cell)).mono ?_;rintro e i ⟨rfl,rfl⟩)))|fail
      all_goals go_wp2_with fail
      all_goals go_ret
      all_goals exact⟨A8 (EV.o true true A.o R.o),p.o.trans (C.o.mono p.o.size)⟩
end Go.Proofs.YtiepijihpgijbaaGreatDoor
