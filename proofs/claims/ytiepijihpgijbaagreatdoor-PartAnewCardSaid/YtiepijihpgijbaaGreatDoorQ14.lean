import Derived.Test.YtiepijihpgijbaaGreatDoorQ13
set_option maxHeartbeats 8000000
set_option maxRecDepth 100000
set_option linter.all false
open Go.Value renaming pointer→G,int→I,slice→Y
open Option renaming some→Z,none→O
open Go.IntKind renaming i64→J,u8→U
open Go.Obj renaming cells→T
open List renaming getD_eq_getElem?_getD→ab,getElem?_eq_none→ad,setIfInBounds_toArray→au,range→av,getElem?_eq_getElem→aw,drop_succ_cons→ax,set_cons_zero→ay,set_cons_succ→az,foldl_append→aA,getElem_mem→aF,range_succ→aG,drop_zero→aJ,drop_nil→aN,mem_map→aO
open Go.RowKit.Below renaming refl→ao
open Go renaming Calls→ar
namespace Go.Proofs.YtiepijihpgijbaaGreatDoor
open Go.RowKit Tryz
def Ah.leave{d:Ad}{s:Ae}(h:Ah d s)(p:Int):Ah d (CX p s):=by
 refine⟨h.ok,h.procs,h.samples,by simpa[CX] using h.queues,by simpa[CX] using h.bufs,by simpa[CX] using h.boards,by simpa[CX] using h.semas,by simpa[CX] using h.events,h.mem,h.I0,h.pr,h.sa,fun x a=>?_,fun x a=>?_,fun x a=>?_,fun x a=>?_,fun x a=>?_,h.clock⟩
 all_goals (simp only[CX,aO] at a;obtain⟨y,b,rfl⟩:=a)
 ·have:=h.qu y b;exact {this with wait:=this.wait.leave p}
 ·have:=h.bu y b;exact {this with put:=this.put.leave p,get:=this.get.leave p,ID:=fun z c=>this.ID z (by simp only[AT.leave,leaveW,List.mem_filter] at c;exact c.1)}
 ·exact(h.bo y b).leave p
 ·exact(h.se y b).leave p
 ·exact(h.ev y b).leave p
def Nr(w:World)(D:Nat→Prop)(g:Nat)(d:Ad)(a:Hd)(s:Ae)(i:Nat)(t:Int)(h:PA w D g d a s)(ok:Ah d s)(L:∀ q,w.heap.size≤q→D q)(aY:0≤t)(aZ:t≤4294967296)(hi:i<s.procs.length):
  ar prog 42 #[G (Z ⟨g,0,O⟩),I J i,I J t] w fun e w'=>e=.returned (.tuple #[])∧PA w' D g d a (FD d i t s)∧Upd (Mut g a) w w':=by
 have hid:i<d.procs.length:=by have:=ok.procs;omega
 have aV:(i:Int)<(d.procs.length:Int):=by omega
 have aW:(i:Int)<(s.procs.length:Int):=by omega
 have am:=ok.ok.pc _ (aF hid);obtain⟨HC,aU,aC⟩:=H3 (Ph w D g d a s i h ok L) L am;clear h ok L am;go_enter func42,ntmps42;go_wp2_with (refine HC.o.mono ?_);rintro e m ⟨rfl,A,u1⟩;obtain⟨nm,v,ah,ai⟩:=A.Ay.el i hid;obtain⟨ac,cc,rfl,_,_⟩:=ai.1.open_;have aI:=A.GW (by omega);have aH:=A.Ay.cap;obtain⟨y0,y1,y2,y3,y4⟩:=RT ah;obtain⟨P1,U1⟩:=H2 A u1;clear A u1 ah ai HC;go_upto_region 2 with (fail);clear aI y0 y1 y2 y3 y4;obtain⟨n,E⟩:=ex (m.alloc (T #[.string nm,I J d.procs[i].prio,I J d.procs[i].period,I J d.procs[i].Cf,.slice ac d.procs[i].code.length cc] 68));rw[←E];have aa:Hq (Bl m n):=by
  rw[E];exact(ao _ m).alloc (Nat.le_refl _) _
 have H:n.heap[m.heap.size]? =Z (T #[.string nm,I J d.procs[i].prio,I J d.procs[i].period,I J d.procs[i].Cf,.slice ac d.procs[i].code.length cc] 68 (0,0)):=by
  rw[E];exact heap_alloc_new m _
 have Q:m.heap.size<n.heap.size:=Aa H;have u:=P1.o.below aa.o;have aj:=u.lt;have B:=u.FC (by show 0<s.procs.length;omega);have ae:=u.pr.cap;replace B:n.cell? ⟨g,10,O⟩=Z (Y (Z ⟨a.pr.b,0,O⟩) s.procs.length a.pr.c):=B;replace ae:s.procs.length≤a.pr.c:=ae;have qg:=qC B aj;have q2:=qC (show n.cell? ⟨m.heap.size,2,O⟩=_ from Cr H) Q;have q3:=qC (show n.cell? ⟨m.heap.size,3,O⟩=_ from Cr H) Q;have z:=aC.o;have X:Hq (∀ W,ar prog 70 #[I J t,I J d.procs[i].period] W fun e w'=>e=.returned (I J (afterI t d.procs[i].period))∧W=w'):=fun W=>LO W _ _ (by omega) (by omega) (by have:=z.period;omega) (by have:=z.period;omega);have V:Hq (∀ W,ar prog 70 #[I J t,I J d.procs[i].Cf] W fun e w'=>e=.returned (I J (afterI t d.procs[i].Cf))∧W=w'):=fun W=>LO W _ _ (by omega) (by omega) (by have:=z.Cf;omega) (by have:=z.Cf;omega);have H2:=HH u;obtain⟨r,R⟩:=ex (afterI t d.procs[i].period);obtain⟨p,P⟩:=ex (afterI t d.procs[i].Cf);rw[←R] at X;rw[←P] at V;have aD:Hq (FD d i t s={CX i s with procs:=(CX i s).procs.set i ⟨2,⟨0,0,[0,0,0,0]⟩,t,r,p,0,0⟩}):=by
  show _=_;simp only[FD];rw[getD_eq hid,R,P]
 clear E H u B z R P aj Q aH;refine AS 18 [17] [] [(10,fun v _=>v=I J p),(14,fun v _=>v=I J r)] ⟨Ch,Ch,trivial⟩ ?_
 iterate 10 (refine An rfl rfl rfl ?_;intro K hK;go_big_quiet_op;go_big_quiet_on)
 refine A9 rfl rfl (fun w' y hA=>?_) ?_
 ·refine AD (f:=70) (al:=[I J t,I J d.procs[i].Cf]) rfl rfl rfl Mg ?_;exact(V.o w').mono fun e w2 h=>⟨_,h.1,h.2 ▸ ao _ _,rfl⟩
 intro v w' y S;obtain rfl:=S;clear y w';simp only[Au,au,az,ay]
 iterate 3 (refine An rfl rfl rfl ?_;intro K hK;go_big_quiet_op;go_big_quiet_on)
 refine A9 rfl rfl (fun w' y hA=>?_) ?_
 ·refine AD (f:=70) (al:=[I J t,I J d.procs[i].period]) rfl rfl rfl Mg ?_;exact(X.o w').mono fun e w2 h=>⟨_,h.1,h.2 ▸ ao _ _,rfl⟩
 intro v w' y S;obtain rfl:=S;clear y w';simp only[Au,au,az,ay]
 iterate 2 (refine An rfl rfl rfl ?_;intro K hK;go_big_quiet_op;go_big_quiet_on)
 refine AH rfl ?_;refine AR ?_;intro j N aM;clear aM qg q2 q3;have C:=H2.o.below N;have l:∀ o,j.frozen? ⟨a.pr.b,o,O⟩=false:=C.pr.frozen (by show 0<s.procs.length;omega);obtain⟨q0,q1,q2,q3,aL,k⟩:=C.pr.el i hi;have z0:j.cell? ⟨a.pr.b,i*12,O⟩=Z _:=k 0 _ rfl;have f0:=l (i*12);have z1:j.cell? ⟨a.pr.b,i*12+1,O⟩=Z _:=k 1 _ rfl;have f1:=l (i*12+1);have z2:j.cell? ⟨a.pr.b,i*12+2,O⟩=Z _:=k 2 _ rfl;have f2:=l (i*12+2);have z3:j.cell? ⟨a.pr.b,i*12+3,O⟩=Z _:=k 3 _ rfl;have f3:=l (i*12+3);have z4:j.cell? ⟨a.pr.b,i*12+4,O⟩=Z _:=k 4 _ rfl;have f4:=l (i*12+4);have z5:j.cell? ⟨a.pr.b,i*12+5,O⟩=Z _:=k 5 _ rfl;have f5:=l (i*12+5);have z6:j.cell? ⟨a.pr.b,i*12+6,O⟩=Z _:=k 6 _ rfl;have f6:=l (i*12+6);have z7:j.cell? ⟨a.pr.b,i*12+7,O⟩=Z _:=k 7 _ rfl;have f7:=l (i*12+7);have z8:j.cell? ⟨a.pr.b,i*12+8,O⟩=Z _:=k 8 _ rfl;have f8:=l (i*12+8);have z9:j.cell? ⟨a.pr.b,i*12+9,O⟩=Z _:=k 9 _ rfl;have f9:=l (i*12+9);have ap:j.cell? ⟨a.pr.b,i*12+10,O⟩=Z _:=k 10 _ rfl;have f10:=l (i*12+10);have aq:j.cell? ⟨a.pr.b,i*12+11,O⟩=Z _:=k 11 _ rfl;have f11:=l (i*12+11);have F:=C.FY hi [(0,I U 2),(1,I J 0),(2,I J 0),(3,I U 0),(4,I U 0),(5,I U 0),(6,I U 0),(7,I J t),(8,I J r),(9,I J p),(10,I U 0),(11,I J 0)] rfl k (x:=⟨2,⟨0,0,[0,0,0,0]⟩,t,r,p,0,0⟩) fun w' aK aX=>⟨0,0,0,0,rfl,aK⟩;obtain⟨W3,M⟩:=ex ((((((((((((j.setCell ⟨a.pr.b,i*12,O⟩ (I U 2)).setCell ⟨a.pr.b,i*12+1,O⟩ (I J 0)).setCell ⟨a.pr.b,i*12+2,O⟩ (I J 0)).setCell ⟨a.pr.b,i*12+3,O⟩ (I U 0)).setCell ⟨a.pr.b,i*12+4,O⟩ (I U 0)).setCell ⟨a.pr.b,i*12+5,O⟩ (I U 0)).setCell ⟨a.pr.b,i*12+6,O⟩ (I U 0)).setCell ⟨a.pr.b,i*12+7,O⟩ (I J t)).setCell ⟨a.pr.b,i*12+8,O⟩ (I J r)).setCell ⟨a.pr.b,i*12+9,O⟩ (I J p)).setCell ⟨a.pr.b,i*12+10,O⟩ (I U 0)).setCell ⟨a.pr.b,i*12+11,O⟩ (I J 0));refine AI (w':=W3) (by rw[M];simp[execOp,go_sem,z0,f0,z1,f1,z2,f2,z3,f3,z4,f4,z5,f5,z6,f6,z7,f7,z8,f8,z9,f9,ap,f10,aq,f11]) ?_;unfold A7;have ag:W3=setsAt j a.pr.b (i*12) [(0,I U 2),(1,I J 0),(2,I J 0),(3,I U 0),(4,I U 0),(5,I U 0),(6,I U 0),(7,I J t),(8,I J r),(9,I J p),(10,I U 0),(11,I J 0)]:=M;rw[←ag] at F;have aB:=HH F.1;have aE:Hq (Upd (Mut g a) w W3):=((U1.o.trans (Upd.below aa.o)).trans (Upd.below N)).trans F.2;clear M ag F k aL l C N z0 f0 z1 f1 z2 f2 z3 f3 z4 f4 z5 f5 z6 f6 z7 f7 z8 f8 z9 f9 ap f10 aq f11;go_wp2_with fail
 go_end0
 rw[aD.o];exact⟨rfl,aB.o,aE.o⟩
def Ya(w:World)(D:Nat→Prop)(g:Nat)(d:Ad)(f:Hd)(s:Ae)(q:Nat)(h:PA w D g d f s)(ok:Ah d s)(b:w.heap[q]? =Z (T #[G (Z ⟨g,0,O⟩)] 29 (0,0)))(i:Nat)(a:i<s.procs.length):
  ar prog 73 #[I J i,G (Z ⟨q,0,O⟩)] w fun e w'=>e=.returned (.bool (decide ((s.procs.getD i default).status=2)))∧Bl w w':=by
 have B:(i:Int)<(s.procs.length:Int):=by omega
 have z:=h.FC (by omega);have cap:=h.pr.cap;obtain⟨C,E,r2,r3,j,F,k,n,p,r,t,u,v,x,y,l,m⟩:=h.Jl a;have A:w.cell? ⟨q,0,O⟩=Z (G (Z ⟨g,0,O⟩)):=Cr b;rw[getD_eq a];clear h ok j k n p r t u v x y l m b;have c:Hq ((s.procs[i].status==2)=decide (s.procs[i].status=2)):=rfl;go_enter func73,ntmps73;go_wp2_with fail;go_ret;exact⟨A8 c.o,ao _ _⟩
def Yb(w:World)(D:Nat→Prop)(g:Nat)(d:Ad)(f:Hd)(s:Ae)(q:Nat)(h:PA w D g d f s)(ok:Ah d s)(v:w.heap[q]? =Z (T #[G (Z ⟨g,0,O⟩)] 29 (0,0)))(i j:Nat)(H:i<s.procs.length)(L:j<s.procs.length):
  ar prog 74 #[I J i,I J j,G (Z ⟨q,0,O⟩)] w fun e w'=>e=.returned (.bool (EL d s i j))∧Bl w w':=by
 have al:(i:Int)<(s.procs.length:Int):=by omega
 have an:(j:Int)<(s.procs.length:Int):=by omega
 have hid:i<d.procs.length:=by have:=ok.procs;omega
 have M:j<d.procs.length:=by have:=ok.procs;omega
 have ak:(i:Int)<(d.procs.length:Int):=by omega
 have am:(j:Int)<(d.procs.length:Int):=by omega
 have z:=h.FC (by omega);have cap:=h.pr.cap;have y:=h.GW (by omega);have aj:=h.Ay.cap;have F:=h.lt;have N:=h.pr.lt;have E:=h.Ay.lt;obtain⟨_,_,_,_,_,_,_,_,_,_,_,_,x7,_⟩:=h.Jl H;obtain⟨_,_,_,_,_,_,_,_,_,_,_,_,y7,_⟩:=h.Jl L;obtain⟨_,_,B,_⟩:=h.Ay.el i hid;obtain⟨_,_,C,_⟩:=h.Ay.el j M;have A:w.cell? ⟨q,0,O⟩=Z (G (Z ⟨g,0,O⟩)):=Cr v;have ah:q<w.heap.size:=Aa v;have x1:w.cell? ⟨f.Ay.b,i*5+1,O⟩=Z (I J d.procs[i].prio):=B 1 _ rfl;have y1:w.cell? ⟨f.Ay.b,j*5+1,O⟩=Z (I J d.procs[j].prio):=C 1 _ rfl;have m:Hq (EL d s i j=if d.procs[i].prio≠d.procs[j].prio then decide (d.procs[j].prio<d.procs[i].prio) else decide (s.procs[i].since<s.procs[j].since)):=by
  show EL d s i j=_;rw[EL,getD_eq hid,getD_eq M,getD_eq H,getD_eq L]
 have P:=qC A ah;have q1:=qC y F;have q2:=qC z F;have q3:=qC x1 E;have q4:=qC y1 E;have q5:=qC x7 N;have q6:=qC y7 N;clear h ok z y x7 y7 x1 y1 A v B C;generalize d.procs[i].prio=n at*;generalize d.procs[j].prio=r at*;generalize s.procs[i].since=X at*;generalize s.procs[j].since=sj at*;go_enter func74,ntmps74;go_upto_region 1 with (fail);refine BQ 20 [] trivial ?_
 iterate 20 (refine AK rfl ?_;intro K hK;go_big_quiet_op;go_big_quiet_on)
 refine BN ?_;intro l a x;simp only[ax,aJ,aN];have t:=HH a;have R:∀ p:Ak l,p.W.cell? ⟨g,10,O⟩=Z (Y (Z ⟨f.pr.b,0,O⟩) s.procs.length f.pr.c):=fun p=>q2 ⟨p.W,a.trans (p.h.mono a.size)⟩;have Q:∀ p:Ak l,p.W.cell? ⟨q,0,O⟩=Z (G (Z ⟨g,0,O⟩)):=fun p=>P ⟨p.W,a.trans (p.h.mono a.size)⟩;have S:∀ p:Ak l,p.W.cell? ⟨f.pr.b,i*12+7,O⟩=Z (I J X):=fun p=>q5 ⟨p.W,a.trans (p.h.mono a.size)⟩;have V:∀ p:Ak l,p.W.cell? ⟨f.pr.b,j*12+7,O⟩=Z (I J sj):=fun p=>q6 ⟨p.W,a.trans (p.h.mono a.size)⟩;clear x P q1 q2 q3 q4 q5 q6 a;by_cases k:n=r
 ·have ag:(n==r)=true:=by simp[k]
  have u:Hq (EL d s i j=decide (X<sj)):=by
   show _=_;rw[m.o,if_neg (by simp[k])]
  clear k m;go_upto_region 4 with (fail);refine BQ 20 [] trivial ?_
  iterate 20 (refine AK rfl ?_;intro K hK;go_big_quiet_op;go_big_quiet_on)
  refine BN ?_;intro l a x;simp only[ax,aJ,aN];have af:=HH a;clear x a Q R S V;go_wp2_with fail;go_ret;exact⟨A8 u.o.symm,t.o.trans (af.o.mono t.o.size)⟩
 ·have ag:(n==r)=false:=by simp[k]
  have u:Hq (EL d s i j=decide (r<n)):=by
   show _=_;rw[m.o,if_pos k]
  clear k m Q R S V;go_wp2_with fail;go_ret;exact⟨A8 u.o.symm,t.o⟩
def MW{d:Ad}{s:Ae}:∀ k:Nat,-1≤(av k).foldl (CL d s) (-1)∧(av k).foldl (CL d s) (-1)<(k:Int)
 |0=>(show(-1:Int)≤ -1∧(-1:Int)<0 by decide)
 |k+1=>by
  have h:=MW (d:=d) (s:=s) k;rw[aG,aA];simp only[List.foldl_cons,List.foldl_nil];rw[CL];split<;>omega
def Uy(w:World)(D:Nat→Prop)(g:Nat)(d:Ad)(C:Hd)(s:Ae)(q:Nat)(h:PA w D g d C s)(ok:Ah d s)(r:w.heap[q]? =Z (T #[G (Z ⟨g,0,O⟩)] 29 (0,0)))(va:Option Addr)(vc:Nat):
  ar prog 72 #[Y va s.procs.length vc,.func (.func 73) #[] #[G (Z ⟨q,0,O⟩)],.func (.func 74) #[] #[G (Z ⟨q,0,O⟩)]] w fun e w'=>e=.returned (I J (Hw d s))∧Bl w w':=by
 have h6:s.procs.length≤6:=by have:=ok.procs;have:=ok.ok.procs;omega
 have K:Hq (∀ W,Bl w W→∀ i,i<s.procs.length→ar prog 73 #[I J i,G (Z ⟨q,0,O⟩)] W fun e w'=>e=.returned (.bool (decide ((s.procs.getD i default).status=2)))∧Bl W w'):=fun W b i F=>Ya W D g d C s q (h.below b) ok ((b.block _ (Aa r)).trans r) i F;have S:Hq (∀ W,Bl w W→∀ i j,i<s.procs.length→j<s.procs.length→ar prog 74 #[I J i,I J j,G (Z ⟨q,0,O⟩)] W fun e w'=>e=.returned (.bool (EL d s i j))∧Bl W w'):=fun W b i j F H=>Yb W D g d C s q (h.below b) ok ((b.block _ (Aa r)).trans r) i j F H;clear h ok r;go_enter func72,ntmps72;go_wp2_with fail
 go_loopw [7,8,11] (fun vb _ v wr=>∃ k:Nat,k≤s.procs.length∧v=I J k∧∃ a,vb=I J a∧Hq (a=(av k).foldl (CL d s) (-1)∧Bl w wr)) (fun _ _ v _=>s.procs.length-(intOf v).toNat)
 case atStart=>exact⟨0,Nat.zero_le _,rfl,-1,rfl,rfl,ao _ _⟩
 case round=>
  obtain⟨k,ag,rfl,a,rfl,A⟩:=hrel;by_cases X:k<s.procs.length
  ·have ah:(k:Int)<(s.procs.length:Int):=by omega
   obtain⟨B,P⟩:=A.o;have N:=MW (d:=d) (s:=s) k;rw[←B] at N;obtain⟨ae,af⟩:=N;have Q:(av (k+1)).foldl (CL d s) (-1)=CL d s a k:=by
    rw[aG,aA,←B];rfl
   obtain⟨x,c,z⟩:=H3 Q P X;clear B Q A P;by_cases t:(s.procs.getD k default).status=2
   ·have p:=HH t;have u:Hq (∀ W,Bl w W→ar prog 73 #[I J k,G (Z ⟨q,0,O⟩)] W fun e w'=>e=.returned (.bool true)∧Bl W w'):=fun W b=>by
     have:=K.o W b k z.o;rwa [decide_eq_true p.o] at this
    clear t;by_cases y:a<0
    ·have n:Hq (CL d s a k=(k:Int)):=by
      show CL d s a k=_;rw[CL,if_pos ⟨p.o,.inl y⟩]
     go_wp2_with fail;refine(u.o _ c.o).mono ?_;rintro e R ⟨rfl,f⟩;have l:=HH (c.o.trans (f.mono c.o.size));clear f;go_wp2_with fail
     go_roundw
     case rel=>exact⟨k+1,by omega,by go_num,_,rfl,by rw[x.o,n.o],l.o⟩
     case measure=>simp[intOf];omega
    ·obtain⟨j,rfl⟩:∃ j:Nat,a=(j:Int):=⟨a.toNat,by omega⟩;have ai:¬(j:Int)<0:=y;have H:j<s.procs.length:=by omega
     have n:Hq (CL d s (j:Int) k=if EL d s k j then(k:Int) else(j:Int)):=by
      show CL d s (j:Int) k=_;rw[CL,Int.toNat_natCast];by_cases m:EL d s k j=true
      ·rw[if_pos ⟨p.o,.inr m⟩,if_pos m]
      ·rw[if_neg (fun E=>E.2.elim y m),if_neg m]
     have V:Hq (∀ W,Bl w W→ar prog 74 #[I J k,I J j,G (Z ⟨q,0,O⟩)] W fun e w'=>e=.returned (.bool (EL d s k j))∧Bl W w'):=fun W b=>S.o W b k j z.o H
     clear y;go_wp2_with fail;refine(u.o _ c.o).mono ?_;rintro e R ⟨rfl,f⟩;have l:=HH (c.o.trans (f.mono c.o.size));clear f;go_wp2_with fail;refine(V.o _ l.o).mono ?_;rintro e w3 ⟨rfl,M⟩;have L:=HH (l.o.trans (M.mono l.o.size));clear M;cases m:EL d s k j with
     |true=>
      go_wp2_with fail
      go_roundw
      case rel=>exact⟨k+1,by omega,by go_num,_,rfl,by rw[x.o,n.o,m];rfl,L.o⟩
      case measure=>simp[intOf];omega
     |false=>
      go_wp2_with fail
      go_roundw
      case rel=>exact⟨k+1,by omega,by go_num,_,rfl,by rw[x.o,n.o,m];rfl,L.o⟩
      case measure=>simp[intOf];omega
   ·have p:=HH t;have u:Hq (∀ W,Bl w W→ar prog 73 #[I J k,G (Z ⟨q,0,O⟩)] W fun e w'=>e=.returned (.bool false)∧Bl W w'):=fun W b=>by
     have:=K.o W b k z.o;rwa [decide_eq_false p.o] at this
    have n:Hq (CL d s a k=a):=by
     show CL d s a k=_;rw[CL,if_neg (fun E=>t E.1)]
    clear t;go_wp2_with fail;refine(u.o _ c.o).mono ?_;rintro e R ⟨rfl,f⟩;have l:=HH (c.o.trans (f.mono c.o.size));clear f;go_wp2_with fail
    go_roundw
    case rel=>exact⟨k+1,by omega,by go_num,_,rfl,by rw[x.o,n.o],l.o⟩
    case measure=>simp[intOf];omega
  ·obtain rfl:k=s.procs.length:=by omega
   go_wp2_with fail;go_ret;exact⟨by rw[A.o.1];rfl,A.o.2⟩
def Yc(w:World)(D:Nat→Prop)(g:Nat)(d:Ad)(b:Hd)(s:Ae)(h:PA w D g d b s)(ok:Ah d s):
  ar prog 45 #[G (Z ⟨g,0,O⟩)] w fun e w'=>e=.returned (I J (Hw d s))∧Bl w w':=by
 have f:Bl w (w.alloc (T #[G (Z ⟨g,0,O⟩)] 29)):=(ao _ w).alloc (Nat.le_refl _) _;obtain⟨i,k⟩:=H2 (Uy (w.alloc (T #[G (Z ⟨g,0,O⟩)] 29)) D g d b s w.heap.size (h.below f) ok (heap_alloc_new w _) b.pr.a b.pr.c) f;have n:=h.lt;have m:w.cell? ⟨g,10,O⟩=Z (Y b.pr.a s.procs.length b.pr.c):=h.cell 10;clear h ok f;go_enter func45,ntmps45;go_wp2_with fail;refine i.o.mono ?_;rintro e p ⟨rfl,j⟩;have l:=HH (k.o.trans (j.mono (by simp)));clear j i;go_wp2_with fail;go_ret;exact⟨rfl,l.o⟩
section
variable {d:Ad} {s:Ae} {i:Nat} {now t:Int}
def OH{α:Type}(f:Nat→α→α)(l:List α)(k:Nat)(e:α):(l.mapIdx f).getD k e=if h:k<l.length then f k l[k] else e:=by
 rw[ab,List.getElem?_mapIdx];split
 ·rename_i h;rw[aw h];rfl
 ·rename_i h;rw[ad (by omega)];rfl
def Ah.clk(h:Ah d s){c:Int}(a:0≤c)(b:c≤1073741825):Ah d {s with clock:=c}:={h with clock:=⟨a,b⟩}
def Ah.mode(h:Ah d s)(m:Int):Ah d {s with mode:=m}:={h with}
def Rv{a n:Int}(b:-1≤a)(c:a≤1073741824)(e:0≤n)(f:n≤1073741824):-1≤afterI a n∧afterI a n≤4294967296:=by
 unfold afterI;split<;>omega
def D5.rel{x:BA}(ok:Ah d s)(f:i<d.procs.length)(h:D5 x)(c:0≤now)(j:now≤1073741824):D5 (Dg d now i x):=by
 unfold Dg;split
 ·rename_i k;have b:=ok.ok.pc _ (getD_mem (d:=default) f);have g:=h.release;have e:=h.ready c (show now≤4294967296 by omega);have a:=b.Cf;have l:=b.period;exact {e with release:=⟨by show-1≤x.release+_;omega,by show x.release+_≤_;omega⟩,deadline:=Rv g.1 (by omega) a.1 a.2}
 ·exact h
def Ah.release(h:Ah d s)(b:0≤now)(c:now≤1073741824):Ah d (Dl d now s):=
 have f:∀ x∈(Dl d now s).procs,D5 x:=fun x a=>by
  simp only[Dl,List.mem_mapIdx] at a;obtain⟨k,e,rfl⟩:=a;exact D5.rel h (by have:=h.procs;omega) (h.pr _ (aF e)) b c
 {h with procs:=(by simpa[Dl] using h.procs),pr:=f}
def Ah.late(h:Ah d s):Ah d (CP now s).1:=
 have b:∀ x∈(CP now s).1.procs,D5 x:=fun x a=>by
  simp only[CP,aO] at a;obtain⟨y,c,rfl⟩:=a;have:=h.pr y c;unfold CK;split
  ·exact {this with deadline:=(show(-1:Int)≤ -1∧(-1:Int)≤4294967296 by decide)}
  ·exact this
 {h with procs:=(by simpa[CP] using h.procs),pr:=b}
def Ah.start(h:Ah d s)(c:i<d.procs.length)(b:0≤t)(f:t≤1073741825):Ah d (FD d i t s):=by
 have a:=h.ok.pc _ (getD_mem (d:=default) c);have g:=a.Cf;have j:=a.period;refine(h.leave i).G4 i ⟨rfl,by intro z e;simp at e;omega,Ji.pc,Ji.left,⟨b,by show t≤_;omega⟩,?_,?_⟩
 ·show-1≤afterI t _∧afterI t _≤_;unfold afterI;split<;>omega
 ·show-1≤afterI t _∧afterI t _≤_;unfold afterI;split<;>omega
def Ah.Jx(h:Ah d s)(a:0≤t)(b:t≤1073741825):∀ k,k≤d.procs.length→Ah d (FE d t k s)
 |0,_=>h
 |k+1,c=>(Ah.Jx h a b k (by omega)).start (by omega) a b
def Q5:(FD d i t s).procs.length=s.procs.length:=by simp[FD,CX]
def Lz:∀ k,(FE d t k s).procs.length=s.procs.length
 |0=>rfl
 |k+1=>by rw[FE,Q5,Lz k]
def Qn(k:Nat):((Dl d now s).procs.getD k default).s=(s.procs.getD k default).s:=by
 simp only[Dl,OH];split
 ·rename_i h;rw[getD_eq h];unfold Dg;split<;>rfl
 ·rename_i h;rw[ab,ad (by omega)];rfl
def getD_map'{α:Type}(f:α→α)(l:List α)(k:Nat)(e:α):(l.map f).getD k e=if h:k<l.length then f l[k] else e:=by
 rw[ab,List.getElem?_map];split
 ·rename_i h;rw[aw h];rfl
 ·rename_i h;rw[ad (by omega)];rfl
def Pf(k:Nat):(((CP now s).1).procs.getD k default).s=(s.procs.getD k default).s:=by
 simp only[CP,getD_map'];split
 ·rename_i h;rw[getD_eq h];unfold CK;split<;>rfl
 ·rename_i h;rw[ab,ad (by omega)];rfl
def PK(d:Ad)(s:Ae):-1≤Hw d s∧Hw d s<(s.procs.length:Int):=MW _
end
end Go.Proofs.YtiepijihpgijbaaGreatDoor
