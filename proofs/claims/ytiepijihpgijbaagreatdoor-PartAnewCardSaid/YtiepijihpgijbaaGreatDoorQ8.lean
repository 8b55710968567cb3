import Derived.ChangeAlike
import Derived.BigRegion
import Derived.Test.YtiepijihpgijbaaGreatDoorQ7
set_option maxHeartbeats 16000000
set_option maxRecDepth 100000
set_option linter.all false
open Go.Value renaming int→I
open Go.IntKind renaming i64→J,u8→U
open Option renaming some→Z,none→O
open Go.Obj renaming cells→T
open Go.World renaming cell?_setCell_same→a1
open Go renaming World→a2,bodyPost_ret→a3,Value→a4,results→a5,Calls→a7
open List renaming length_nil→a6
namespace Go.Proofs.YtiepijihpgijbaaGreatDoor
open Go.RowKit Tryz
def DE(s:St):a4:=.agg #[I J s.pc,I J s.left,I U (s.AG.getD 0 0),I U (s.AG.getD 1 0),I U (s.AG.getD 2 0),I U (s.AG.getD 3 0)]
def AV{x:Ai}{a:Int}(h:Bb x a=true)(i:Nat)(o:Int)(c:(opsOf x.op)[i]? =Z o):Aw o (Dy x i) a=true:=by
 cases b:Aw o (Dy x i) a with
 |true=>rfl
 |false=>
  rw[QI c b] at h;cases h
def C0{x a:Int}(h:Aw 2 x a=true):0≤x∧x≤3:=by
 simp[Aw,Cp,De] at h;exact h
def Ip{l:List Ai}{i:Int}{x:Ai}(h:CM l i=Z x):Bb x l.length=true∧0≤i∧i<(l.length:Int)∧x∈l:=by
 unfold CM at h;split at h
 ·cases h
 ·rename_i c;split at h
  ·cases h
  ·rename_i y a;have d:=(List.getElem?_eq_some_iff.1 a).1;split at h
   ·rename_i b;injection h with h;subst h;exact⟨b,by omega,by omega,List.mem_of_getElem? a⟩
   ·cases h
def Dd(x:Ai)(s:St)(data:List Int):St:=if x.op=8∨x.op=15∨x.op=17 then
   let a:=D2 s x.b (data.headD 0)
   if x.op=8 then D2 a x.c ((data.length:Int)%256) else a
  else s
def Mt{l:List Ai}{s:St}{data:List Int}(h:CM l (s.pc-1)=O):DS l s data=s:=by simp[DS,h]
def Mu{l:List Ai}{s:St}{data:List Int}{x:Ai}(h:CM l (s.pc-1)=Z x):DS l s data=Dd x s data:=by simp[DS,Dd,h]
def IP{w W:a2}(h:Bl w W)(o:Nat)(v:a4):Bl w (W.setCell ⟨w.heap.size,o,O⟩ v):=h.setCell (p:=⟨w.heap.size,o,O⟩) (Nat.le_refl _) _
def IQ{w W:a2}(h:Bl w W)(o:Nat)(v:a4):Bl w (W.setCell ⟨w.heap.size+1,o,O⟩ v):=h.setCell (p:=⟨w.heap.size+1,o,O⟩) (Nat.le_succ _) _
def IM{w W:a2}(h:Bl w W)(o:Obj):Bl w (W.alloc o):=h.alloc h.size _
def IN{w W:a2}(h:Bl w W):Bl w W.drew:=h.drew
def Hb(w:a2)(r:St)(e:Ending)(w':a2):Prop:=e=.returned (DE r)∧Bl w w'
def FQ(w:a2)(b a c d r2 r3:Int):a2:=(w.alloc (T #[I J b,I J a,I U c,I U d,I U r2,I U r3] 49)).alloc (T #[I J 0,I J 0,I U 0,I U 0,I U 0,I U 0] 49)
def EZ(w:a2)(b a c d r2 r3:Int):Bl w (FQ w b a c d r2 r3):=((Below.refl _ w).alloc (Nat.le_refl _) _).alloc (by simp) _
def UN(w:a2)(b a c d r2 r3:Int):(FQ w b a c d r2 r3).heap.size=w.heap.size+2:=by simp[FQ]
def IZ{w e:a2}{b a c d r2 r3:Int}(f:Below (FQ w b a c d r2 r3).heap.size (FQ w b a c d r2 r3) e):
  e.heap[w.heap.size]? =Z (T #[I J b,I J a,I U c,I U d,I U r2,I U r3] 49 (0,0))∧e.heap[w.heap.size+1]? =Z (T #[I J 0,I J 0,I U 0,I U 0,I U 0,I U 0] 49 (0,0))∧Hq (Bl w e):=by
 have g:=UN w b a c d r2 r3;refine⟨(f.block _ (by omega)).trans ((Below.heap_alloc _ _ _ (by simp)).trans (heap_alloc_new w _)),(f.block _ (by omega)).trans ?_,(EZ ..).trans (f.mono (by omega))⟩;have:=heap_alloc_new (w.alloc (T #[I J b,I J a,I U c,I U d,I U r2,I U r3] 49)) (T #[I J 0,I J 0,I U 0,I U 0,I U 0,I U 0] 49);rw[show (w.alloc (T #[I J b,I J a,I U c,I U d,I U r2,I U r3] 49)).heap.size=w.heap.size+1 by simp] at this;exact this
def UG(B:Nat)(i t:a4)(l:List Ai)(a d f g r2 r3:Int)(w:a2)(j:Gl B w)(h:DG w i l)(n:FJ l)(X:-1≤a)(aa:a≤1000000)(m:CM l (a-1)=O):
  a7 prog 130 #[i,.agg #[I J a,I J d,I U f,I U g,I U r2,I U r3],t] w (Hb w ⟨a,d,[f,g,r2,r3]⟩):=by
 have c:=Hl B i l (a-1) (FQ w a d f g r2 r3) (j.below (EZ ..)) (h.below (EZ ..)) n;obtain⟨D,E,rfl,_,_⟩:=h.open_;rw[m] at c;simp only[GH] at c;have r:=HH c;clear c m h n j;go_enter func130,ntmps130;go_wp2_with fail;refine r.o.mono ?_;rintro e p ⟨rfl,k⟩;obtain⟨g0,b,q⟩:=IZ k;have ab:w.heap.size<p.heap.size:=Aa g0;have s:w.heap.size+1<p.heap.size:=Aa b;obtain⟨y0,y1,y2,y3,y4,y5⟩:=r6 g0;obtain⟨u,x,y,z,A,C⟩:=r6 b;obtain⟨P,Q,R,S,V,W⟩:=f6 g0;obtain⟨F,H,K,L,M,N⟩:=f6 b;clear g0 b k;go_wp2_with fail;refine a3 (v:=DE ⟨a,d,[f,g,r2,r3]⟩) (by simp[a5,results130,go_sem,s,u,x,y,z,A,C,DE]) rfl ⟨rfl,?_⟩
 (repeat(first|with_reducible exact q.o|with_reducible refine IQ ?_ _ _|with_reducible refine IP ?_ _ _|with_reducible refine IM ?_ _|with_reducible refine IN ?_))
def UH(B:Nat)(m z:a4)(l:List Ai)(a d f g r2 r3:Int)(w:a2)(n:Gl B w)(h:DG w m l)(r:FJ l)(ah:-1≤a)(ai:a≤1000000)(x:Ai)(q:CM l (a-1)=Z x)(k:x.op≠8)(i:x.op≠15)(j:x.op≠17):
  a7 prog 130 #[m,.agg #[I J a,I J d,I U f,I U g,I U r2,I U r3],z] w (Hb w ⟨a,d,[f,g,r2,r3]⟩):=by
 have c:=Hl B m l (a-1) (FQ w a d f g r2 r3) (n.below (EZ ..)) (h.below (EZ ..)) r;obtain⟨K,L,rfl,_,_⟩:=h.open_;rw[q] at c;simp only[GH] at c;have u:=HH c;have P:(x.op==8)=false:=by simpa using k
 have M:(x.op==15)=false:=by simpa using i
 have N:(x.op==17)=false:=by simpa using j
 have n8:(x.op !=8)=true:=by simpa using k
 have ak:(x.op !=15)=true:=by simpa using i
 have al:(x.op !=17)=true:=by simpa using j
 clear c q h r n k i j;go_enter func130,ntmps130;go_wp2_with fail;refine u.o.mono ?_;rintro e s ⟨rfl,p⟩;obtain⟨g0,b,t⟩:=IZ p;have aj:w.heap.size<s.heap.size:=Aa g0;have y:w.heap.size+1<s.heap.size:=Aa b;obtain⟨y0,y1,y2,y3,y4,y5⟩:=r6 g0;obtain⟨A,C,D,E,F,H⟩:=r6 b;obtain⟨aa,ab,ad,ae,af,ag⟩:=f6 g0;obtain⟨Q,R,S,V,W,X⟩:=f6 b;clear g0 b p;go_wp2_with fail;refine a3 (v:=DE ⟨a,d,[f,g,r2,r3]⟩) (by simp[a5,results130,go_sem,y,A,C,D,E,F,H,DE]) rfl ⟨rfl,?_⟩
 (repeat(first|with_reducible exact t.o|with_reducible refine IQ ?_ _ _|with_reducible refine IP ?_ _ _|with_reducible refine IM ?_ _|with_reducible refine IN ?_))
def UE(B:Nat)(p z:a4)(l:List Ai)(a g i j r2 r3:Int)(w:a2)(q:Gl B w)(h:DG w p l)(u:FJ l)(ap:-1≤a)(aq:a≤1000000)(x:Ai)(k:CM l (a-1)=Z x)(n:x.op=15∨x.op=17)(t:Af U w 0 z []):
  a7 prog 130 #[p,.agg #[I J a,I J g,I U i,I U j,I U r2,I U r3],z] w (Hb w (Dd x ⟨a,g,[i,j,r2,r3]⟩ [])):=by
 have y:=(Ip k).1;have m:=C0 (AV y 1 2 (by rcases n with h|h<;>rw[h]<;>rfl));simp only[Dy] at m;have d:=Hl B p l (a-1) (FQ w a g i j r2 r3) (q.below (EZ ..)) (h.below (EZ ..)) u;obtain⟨V,X,rfl,_,_⟩:=h.open_;rw[k] at d;simp only[GH] at d;obtain⟨H,R,b,S⟩:=x;simp only at n m;obtain⟨W,cd,rfl,_,_,_⟩:=t.open_;simp only[a6];have D:=HH d;obtain⟨r,f⟩:=ex (Dd ⟨H,R,b,S⟩ ⟨a,g,[i,j,r2,r3]⟩ []);rw[←f];have f:=HH f;clear d k h u q t y;have F:b=0∨b=1∨b=2∨b=3:=by omega
 clear m;rcases n with rfl|rfl<;>rcases F with rfl|rfl|rfl|rfl
 all_goals
  go_enter func130,ntmps130;go_wp2_with fail;refine D.o.mono ?_;rintro e A ⟨rfl,s⟩;obtain⟨g0,c,C⟩:=IZ s;have ar:w.heap.size<A.heap.size:=Aa g0;have E:w.heap.size+1<A.heap.size:=Aa c;obtain⟨y0,y1,y2,y3,y4,y5⟩:=r6 g0;obtain⟨K,L,M,N,P,Q⟩:=r6 c;obtain⟨aj,ak,al,am,an,ao⟩:=f6 g0;obtain⟨ab,ae,af,ag,ah,ai⟩:=f6 c;clear g0 c s;go_wp2_with fail;refine a3 (v:=DE r) (by rw[f.o];simp[a5,results130,go_sem,E,K,L,M,N,P,Q,Dd,DE,D2]) rfl ⟨rfl,?_⟩
  (repeat(first|with_reducible exact C.o|with_reducible refine IQ ?_ _ _|with_reducible refine IP ?_ _ _|with_reducible refine IM ?_ _|with_reducible refine IN ?_))
def UD(B:Nat)(C S:a4)(l:List Ai)(a j n q r2 r3:Int)(w:a2)(F:Gl B w)(h:DG w C l)(N:FJ l)(aN:-1≤a)(aO:a≤1000000)(x:Ai)(z:Int)(m:List Int)(s:CM l (a-1)=Z x)(y:x.op=15∨x.op=17)(u:Af U w 0 S (z::m))(hm:m.length≤1000000):
  a7 prog 130 #[C,.agg #[I J a,I J j,I U n,I U q,I U r2,I U r3],S] w (Hb w (Dd x ⟨a,j,[n,q,r2,r3]⟩ (z::m))):=by
 have Q:=(Ip s).1;have t:=C0 (AV Q 1 2 (by rcases y with h|h<;>rw[h]<;>rfl));simp only[Dy] at t;have i:=Hl B C l (a-1) (FQ w a j n q r2 r3) (F.below (EZ ..)) (h.below (EZ ..)) N;obtain⟨ac,cc,rfl,_,_⟩:=h.open_;rw[s] at i;simp only[GH] at i;obtain⟨op,xa,f,xc⟩:=x;simp only at y t;obtain⟨k,b⟩:=ex (z::m);have aJ:k.length≤1000001:=by rw[b];simpa using hm
 have M:1≤k.length:=by rw[b];simp
 rw[←b] at u ⊢;obtain⟨ad,W,rfl,aH,_,P⟩:=u.open_;obtain⟨c,R,rfl,_,X,L⟩:=P M;have A:=L 0 M;have af:w.cell? ⟨c,R,O⟩=Z (I U z):=by
  have e:k[0]=z:=by simp[b]
  rw[e] at A;exact A
 have aK:(0:Int)<(k.length:Int):=by omega
 have aI:(0:Int)<(W:Int):=by omega
 have H:=HH b;have aL:c≠w.heap.size:=by omega
 have aM:c≠w.heap.size+1:=by omega
 have V:=HH i;obtain⟨r,d⟩:=ex (Dd ⟨op,xa,f,xc⟩ ⟨a,j,[n,q,r2,r3]⟩ k);rw[←d];rw[H.o] at d;have d:=HH d;clear i s h N F u Q L P A b;have ae:f=0∨f=1∨f=2∨f=3:=by omega
 clear t;rcases y with rfl|rfl<;>rcases ae with rfl|rfl|rfl|rfl
 all_goals
  go_enter func130,ntmps130;go_wp2_with fail;refine V.o.mono ?_;rintro e D ⟨rfl,K⟩;obtain⟨g0,g,E⟩:=IZ K;have aP:w.heap.size<D.heap.size:=Aa g0;have ab:w.heap.size+1<D.heap.size:=Aa g;obtain⟨y0,y1,y2,y3,y4,y5⟩:=r6 g0;obtain⟨x0,x1,x2,x3,x4,x5⟩:=r6 g;obtain⟨aA,aB,aC,aD,aE,aF⟩:=f6 g0;obtain⟨au,av,aw,ax,ay,az⟩:=f6 g;clear g0 g K;have yd:=(E.o.cell (p:=⟨c,R,O⟩) X).trans af;have aG:c<D.heap.size:=by omega
  go_wp2_with fail
  go_region
  all_goals go_wp2_with fail
  refine a3 (v:=DE r) (by rw[d.o];simp[a5,results130,go_sem,ab,x0,x1,x2,x3,x4,x5,Dd,DE,D2];try rw[H.o];try simp) rfl ⟨rfl,?_⟩
  (repeat(first|with_reducible exact E.o|with_reducible refine IQ ?_ _ _|with_reducible refine IP ?_ _ _|with_reducible refine IM ?_ _|with_reducible refine IN ?_))
def UC(B:Nat)(t C:a4)(l:List Ai)(a j k m r2 r3:Int)(w:a2)(u:Gl B w)(h:DG w t l)(A:FJ l)(aq:-1≤a)(ar:a≤1000000)(x:Ai)(n:CM l (a-1)=Z x)(g:x.op=8)(z:Af U w 0 C []):
  a7 prog 130 #[t,.agg #[I J a,I J j,I U k,I U m,I U r2,I U r3],C] w (Hb w (Dd x ⟨a,j,[k,m,r2,r3]⟩ [])):=by
 have s:=(Ip n).1;have p:=C0 (AV s 1 2 (by rw[g];rfl));simp only[Dy] at p;have q:=C0 (AV s 2 2 (by rw[g];rfl));simp only[Dy] at q;have f:=Hl B t l (a-1) (FQ w a j k m r2 r3) (u.below (EZ ..)) (h.below (EZ ..)) A;obtain⟨W,cc,rfl,_,_⟩:=h.open_;rw[n] at f;simp only[GH] at f;obtain⟨op,V,b,c⟩:=x;simp only at g p q;subst g;obtain⟨X,cd,rfl,_,_,_⟩:=z.open_;simp only[a6];have F:=HH f;obtain⟨r,i⟩:=ex (Dd ⟨8,V,b,c⟩ ⟨a,j,[k,m,r2,r3]⟩ []);rw[←i];have i:=HH i;clear f n h A u z s;have K:b=0∨b=1∨b=2∨b=3:=by omega
 have L:c=0∨c=1∨c=2∨c=3:=by omega
 clear q p;rcases K with rfl|rfl|rfl|rfl<;>rcases L with rfl|rfl|rfl|rfl
 all_goals
  go_enter func130,ntmps130;go_wp2_with fail;refine F.o.mono ?_;rintro e D ⟨rfl,y⟩;obtain⟨g0,d,E⟩:=IZ y;have au:w.heap.size<D.heap.size:=Aa g0;have H:w.heap.size+1<D.heap.size:=Aa d;obtain⟨y0,y1,y2,y3,y4,y5⟩:=r6 g0;obtain⟨M,N,P,Q,R,S⟩:=r6 d;obtain⟨ak,al,am,an,ao,ap⟩:=f6 g0;obtain⟨ae,af,ag,ah,ai,aj⟩:=f6 d;clear g0 d y;go_wp2_with fail;refine a3 (v:=DE r) (by rw[i.o];simp[a5,results130,go_sem,H,M,N,P,Q,R,S,Dd,DE,D2]) rfl ⟨rfl,?_⟩
  (repeat(first|with_reducible exact E.o|with_reducible refine IQ ?_ _ _|with_reducible refine IP ?_ _ _|with_reducible refine IM ?_ _|with_reducible refine IN ?_))
def UB(B:Nat)(L vd:a4)(l:List Ai)(c u y A r2 r3:Int)(w:a2)(N:Gl B w)(h:DG w L l)(V:FJ l)(aU:-1≤c)(aV:c≤1000000)(x:Ai)(z:Int)(m:List Int)(C:CM l (c-1)=Z x)(t:x.op=8)(F:Af U w 0 vd (z::m))(hm:m.length≤1000000):
  a7 prog 130 #[L,.agg #[I J c,I J u,I U y,I U A,I U r2,I U r3],vd] w (Hb w (Dd x ⟨c,u,[y,A,r2,r3]⟩ (z::m))):=by
 have H:=(Ip C).1;have D:=C0 (AV H 1 2 (by rw[t];rfl));simp only[Dy] at D;have E:=C0 (AV H 2 2 (by rw[t];rfl));simp only[Dy] at E;have s:=Hl B L l (c-1) (FQ w c u y A r2 r3) (N.below (EZ ..)) (h.below (EZ ..)) V;obtain⟨ac,cc,rfl,_,_⟩:=h.open_;rw[C] at s;simp only[GH] at s;obtain⟨op,xa,j,n⟩:=x;simp only at t D E;subst t;obtain⟨k,f⟩:=ex (z::m);have aQ:k.length≤1000001:=by rw[f];simpa using hm
 have S:1≤k.length:=by rw[f];simp
 rw[←f] at F ⊢;obtain⟨ad,cd,rfl,aO,_,W⟩:=F.open_;obtain⟨g,X,rfl,_,af,R⟩:=W S;have K:=R 0 S;have ak:w.cell? ⟨g,X,O⟩=Z (I U z):=by
  have e:k[0]=z:=by simp[f]
  rw[e] at K;exact K
 have aR:(0:Int)<(k.length:Int):=by omega
 have aP:(0:Int)<(cd:Int):=by omega
 have P:=HH f;have aS:g≠w.heap.size:=by omega
 have aT:g≠w.heap.size+1:=by omega
 have HA:=HH s;obtain⟨r,i⟩:=ex (Dd ⟨8,xa,j,n⟩ ⟨c,u,[y,A,r2,r3]⟩ k);rw[←i];rw[P.o] at i;have i:=HH i;clear s C h V N F H R W K f;have ai:j=0∨j=1∨j=2∨j=3:=by omega
 have aj:n=0∨n=1∨n=2∨n=3:=by omega
 clear E D;rcases ai with rfl|rfl|rfl|rfl<;>rcases aj with rfl|rfl|rfl|rfl
 all_goals
  go_enter func130,ntmps130;go_wp2_with fail;refine HA.o.mono ?_;rintro e d ⟨rfl,Q⟩;obtain⟨g0,q,M⟩:=IZ Q;have a0:w.heap.size<d.heap.size:=Aa g0;have ah:w.heap.size+1<d.heap.size:=Aa q;obtain⟨y0,y1,y2,y3,y4,y5⟩:=r6 g0;obtain⟨x0,x1,x2,x3,x4,x5⟩:=r6 q;obtain⟨aH,aI,aJ,aK,aL,aM⟩:=f6 g0;obtain⟨aB,aC,aD,aE,aF,aG⟩:=f6 q;clear g0 q Q;have yd:=(M.o.cell (p:=⟨g,X,O⟩) af).trans ak;have aN:g<d.heap.size:=by omega
  go_wp2_with fail;have aW:∀ a b,((d.setCell ⟨w.heap.size,2,O⟩ a).setCell ⟨w.heap.size,2,O⟩ b).cell? ⟨w.heap.size,2,O⟩=Z b:=fun a b=>a1 _ _ _ (a1 _ _ _ y2);have aX:∀ a b,((d.setCell ⟨w.heap.size,3,O⟩ a).setCell ⟨w.heap.size,3,O⟩ b).cell? ⟨w.heap.size,3,O⟩=Z b:=fun a b=>a1 _ _ _ (a1 _ _ _ y3);have aY:∀ a b,((d.setCell ⟨w.heap.size,4,O⟩ a).setCell ⟨w.heap.size,4,O⟩ b).cell? ⟨w.heap.size,4,O⟩=Z b:=fun a b=>a1 _ _ _ (a1 _ _ _ y4);have aZ:∀ a b,((d.setCell ⟨w.heap.size,5,O⟩ a).setCell ⟨w.heap.size,5,O⟩ b).cell? ⟨w.heap.size,5,O⟩=Z b:=fun a b=>a1 _ _ _ (a1 _ _ _ y5)
  go_region
  all_goals go_wp2_with fail
  refine a3 (v:=DE r) (by rw[i.o];simp[a5,results130,go_sem,ah,x0,x1,x2,x3,x4,x5,Dd,DE,D2];try rw[P.o];try simp) rfl ⟨rfl,?_⟩
  (repeat(first|with_reducible exact M.o|with_reducible refine IQ ?_ _ _|with_reducible refine IP ?_ _ _|with_reducible refine IM ?_ _|with_reducible refine IN ?_))
def UF(B:Nat)(k n:a4)(l:List Ai)(s:St)(data:List Int)(w:a2)(o:Gl B w)(h:DG w k l)(p:FJ l)(q:-1≤s.pc)(r:s.pc≤1000000)(D:s.AG.length=4)(u:Af U w 0 n data)(C:data.length≤1000000):
  a7 prog 130 #[k,DE s,n] w (Hb w (DS l s data)):=by
 obtain⟨g,i,R⟩:=s;obtain⟨e,f,r2,r3,rfl⟩:∃ e f r2 r3,R=[e,f,r2,r3]:=by
  match R,D with
  | [a,b,c,d],_=>exact⟨a,b,c,d,rfl⟩
 cases j:CM l (g-1) with
 |none=>
  rw[Mt (s:=⟨g,i,[e,f,r2,r3]⟩) j];exact UG B k n l g i e f r2 r3 w o h p q r j
 |some x=>
  rw[Mu (s:=⟨g,i,[e,f,r2,r3]⟩) j];by_cases t:x.op=8
  ·cases data with
   |nil=>exact UC B k n l g i e f r2 r3 w o h p q r x j t u
   |cons z m=>exact UB B k n l g i e f r2 r3 w o h p q r x z m j t u (by simp at C;omega)
  ·by_cases v:x.op=15∨x.op=17
   ·cases data with
    |nil=>exact UE B k n l g i e f r2 r3 w o h p q r x j v u
    |cons z m=>exact UD B k n l g i e f r2 r3 w o h p q r x z m j v u (by simp at C;omega)
   ·obtain⟨y,A⟩:=not_or.1 v;rw[show Dd x ⟨g,i,[e,f,r2,r3]⟩ data=⟨g,i,[e,f,r2,r3]⟩ by simp[Dd,t,y,A]];exact UH B k n l g i e f r2 r3 w o h p q r x j t y A
end Go.Proofs.YtiepijihpgijbaaGreatDoor
