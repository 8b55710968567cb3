import Derived.Test.YtiepijihpgijbaaGreatDoorQ12
set_option maxHeartbeats 8000000
set_option maxRecDepth 100000
set_option linter.all false
open Go.Value renaming slice→Y,int→I,pointer→G
open Option renaming none→O,some→Z
open Go.IntKind renaming i64→J,u8→U
open Go.Obj renaming cells→T
open List renaming mem_singleton→ae,getElem_mem→af,getElem_set_self→aB,mem_cons_of_mem→bB,length_set→bK,ext_getElem→bN,mem_map→bP,length_append→bS,set_set→bT,nodup_cons→bV,append_nil→bW,setIfInBounds_toArray→bY,map_cons→bZ,set_cons_zero→b2,set_cons_succ→b4,length_cons→b8
open Nat renaming lt_of_lt_of_le→aH,zero_le→bI,le_trans→bJ,le_refl→b0,lt_of_le_of_lt→b6
open Go.RowKit renaming intOf→bL
open Bool renaming false_eq_true→bM,and_eq_true→bO,not_eq_true→bU
open Int renaming reduceEq→bQ,lt_or_le→b9
open Go.Value renaming slice→bR
open Go renaming World→bX,Calls→b5
open Go.IntKind renaming wrap_i64→b1
open Go.RowKit.Below renaming heap_alloc→b7,refl→ca
namespace Go.Proofs.YtiepijihpgijbaaGreatDoor
open Go.RowKit Tryz
def Tr:∀ k,1≤k→k<26→∀ args w,(callFunc (BZ k) args).run prog w=.ok (.enter (BZ k) args) w
 |1,_,_=>fun _ _=>by kernel_rfl
 |2,_,_=>fun _ _=>by kernel_rfl
 |3,_,_=>fun _ _=>by kernel_rfl
 |4,_,_=>fun _ _=>by kernel_rfl
 |5,_,_=>fun _ _=>by kernel_rfl
 |6,_,_=>fun _ _=>by kernel_rfl
 |7,_,_=>fun _ _=>by kernel_rfl
 |8,_,_=>fun _ _=>by kernel_rfl
 |9,_,_=>fun _ _=>by kernel_rfl
 |10,_,_=>fun _ _=>by kernel_rfl
 |11,_,_=>fun _ _=>by kernel_rfl
 |12,_,_=>fun _ _=>by kernel_rfl
 |13,_,_=>fun _ _=>by kernel_rfl
 |14,_,_=>fun _ _=>by kernel_rfl
 |15,_,_=>fun _ _=>by kernel_rfl
 |16,_,_=>fun _ _=>by kernel_rfl
 |17,_,_=>fun _ _=>by kernel_rfl
 |18,_,_=>fun _ _=>by kernel_rfl
 |19,_,_=>fun _ _=>by kernel_rfl
 |20,_,_=>fun _ _=>by kernel_rfl
 |21,_,_=>fun _ _=>by kernel_rfl
 |22,_,_=>fun _ _=>by kernel_rfl
 |23,_,_=>fun _ _=>by kernel_rfl
 |24,_,_=>fun _ _=>by kernel_rfl
 |25,_,_=>fun _ _=>by kernel_rfl
 |0,h,_=>absurd h (by decide)
 |k+26,_,h=>absurd h (by omega)
def VP:∀ k,1≤k→k<26→N8 k (BZ k)
 |1,_,_=>fun w g e a R i j l f b c d=>Vw w g e a R i j l f b c d
 |2,_,_=>fun w g e a R i j l f b c d=>V8 w g e a R i j l f b c d
 |3,_,_=>fun w g e a R i j l f b c d=>V9 w g e a R i j l f b c d
 |4,_,_=>fun w g e a R i j l f b c d=>VA w g e a R i j l f b c d
 |5,_,_=>fun w g e a R i j l f b c d=>VB w g e a R i j l f b c d
 |6,_,_=>fun w g e a R i j l f b c d=>VC w g e a R i j l f b c d
 |7,_,_=>fun w g e a R i j l f b c d=>VD w g e a R i j l f b c d
 |8,_,_=>fun w g e a R i j l f b c d=>VE w g e a R i j l f b c d
 |9,_,_=>fun w g e a R i j l f b c d=>VF w g e a R i j l f b c d
 |10,_,_=>fun w g e a R i j l f b c d=>Vm w g e a R i j l f b c d
 |11,_,_=>fun w g e a R i j l f b c d=>Vn w g e a R i j l f b c d
 |12,_,_=>fun w g e a R i j l f b c d=>Vo w g e a R i j l f b c d
 |13,_,_=>fun w g e a R i j l f b c d=>Vp w g e a R i j l f b c d
 |14,_,_=>fun w g e a R i j l f b c d=>Vq w g e a R i j l f b c d
 |15,_,_=>fun w g e a R i j l f b c d=>Vr w g e a R i j l f b c d
 |16,_,_=>fun w g e a R i j l f b c d=>Vs w g e a R i j l f b c d
 |17,_,_=>fun w g e a R i j l f b c d=>Vt w g e a R i j l f b c d
 |18,_,_=>fun w g e a R i j l f b c d=>Vu w g e a R i j l f b c d
 |19,_,_=>fun w g e a R i j l f b c d=>Vv w g e a R i j l f b c d
 |20,_,_=>fun w g e a R i j l f b c d=>Vx w g e a R i j l f b c d
 |21,_,_=>fun w g e a R i j l f b c d=>Vy w g e a R i j l f b c d
 |22,_,_=>fun w g e a R i j l f b c d=>Vz w g e a R i j l f b c d
 |23,_,_=>fun w g e a R i j l f b c d=>V5 w g e a R i j l f b c d
 |24,_,_=>fun w g e a R i j l f b c d=>V6 w g e a R i j l f b c d
 |25,_,_=>fun w g e a R i j l f b c d=>V7 w g e a R i j l f b c d
 |0,h,_=>absurd h (by decide)
 |k+26,_,h=>absurd h (by omega)
def YY(B:Nat)(o:Value)(l:List Ai)(s:St)(g:Option Addr)(i:Nat)(e:List Int)(w:bX)(u:Gl B w)(h:DG w o l)(y:FJ l)(D:-1≤s.pc)(p:s.pc≤1000000)(A:0≤s.left)(C:s.left≤2000)(H:s.AG.length=4)(v:∀ z∈s.AG,0≤z∧z≤255)(K:Cn w g e)(L:e.length≤i):
  b5 prog 75 #[o,DE s,Y g e.length i] w (LK w (FZ l s e)):=by
 obtain⟨t,F,R⟩:=s;obtain⟨m,n,r2,r3,rfl⟩:∃ m n r2 r3,R=[m,n,r2,r3]:=by
  match R,H with
  | [a,b,c,d],_=>exact⟨a,b,c,d,rfl⟩
 simp only at D p A C v;unfold FZ;cases f:CM l t with
 |none=>
  simp only[f];exact Za B o l t F m n r2 r3 g i e w u h y D p f
 |some x=>
  simp only[f];obtain⟨j,M,N,P⟩:=x;obtain⟨E,_⟩:=Ip f;have Q:1≤j∧j≤25:=by
   simp only[Bb,bO,decide_eq_true_eq] at E;exact E.1
  obtain⟨k,rfl⟩:∃ k:Nat,j=k:=⟨j.toNat,by omega⟩;have q:1≤k:=by omega
  have r:k<26:=by omega
  exact YZ B o l t F m n r2 r3 g i e w u h y p A C v K L k q r _ rfl (Tr k q r) M N P (VP k q r) f
section
variable {d:Ad} {s:Ae} {i:Nat} {now:Int} {a:Ac}
def Ah.YN(h:Ah d s)(k:Nat){v:Int}(b:0≤v∧v≤255):Ah d {s with mem:=s.mem.set k v}:={h with mem:=by simpa using h.mem,I0:=Le h.I0 k b}
def Ji:D5 EU:=⟨rfl,by intro z b;simp[EU] at b;omega,by decide,by decide,by decide,by decide,by decide⟩
def okSa_write{p:CV}{x:Ee}(h:K6 x){m:List Int}(f:m.length≤64∧Bf m):K6 (writeSa p x now m).1:=by
 unfold writeSa;split
 ·exact h
 ·split
  ·exact h
  ·rename_i e _;refine⟨f.1,f.2,?_⟩;simp only[not_or] at e;have b:=e.1;simp only[Bool.not_eq_false] at b;simp only[Ff,DZ,bO,decide_eq_true_eq] at b;have c:=b.1.2;have g:=b.2;refine⟨?_,g.2⟩;split at c
   ·simp only[bO,decide_eq_true_eq] at c;show 0≤now;omega
   ·simp only[bO,decide_eq_true_eq,beq_iff_eq] at c;show 0≤now;omega
def J5(h:Ah d s){l:List Int}{data:List Int}(b:Bf data)(e:0≤now)(f:now≤4294967296)(c:∀ z∈l,z<(s.procs.length:Int)):Ah d (wakeP d now data l s):=(Ah.IF b e f l h c).1
def Ah.act(h:Ah d s)(F:∀ x∈s.boards,0≤x.val∧x.val≤255)(y:i<s.procs.length)(g:Cz d s.mem.length a)(B:0≤now)(C:now≤4294967296):Ah d (actA d i now a s).1:=by
 have hid:i<d.procs.length:=by have:=h.procs;omega
 have w:(i:Int)<(d.procs.length:Int):=by omega
 have t:(0:Int)≤(i:Int):=by omega
 have A:=h.procs;unfold actA;split
 ·rename_i f;obtain⟨_,D⟩:=g.store f;exact h.YN _ (by omega)
 ·rename_i f;have o:=(g.send f).1;show Ah d (EJ d now a s);unfold EJ;split
  ·exact h.Nj _ (okSa_write (h.sa _ (getD_mem (by have:=h.samples;omega))) ⟨g.data,g.bytes⟩)
  ·exact h.Ko _ (FK.Ng (h.qu _ (getD_mem (by have:=h.queues;omega))) ⟨g.data,g.bytes⟩).1
 ·rename_i f;have o:=(g.recv f).1;unfold Fg;split
  ·have n:=FK.Ql (k:=(portA d a).kind) (s:=(portA d a).size) (d:=(portA d a).depth) (r:=(portA d a).At) (p:=i) (u:=prioA d i) (h.qu _ (getD_mem (l:=s.queues) (k:=a.a.toNat) (d:=default) (by have:=h.queues;omega))) t w;have E:=h.Ko a.a.toNat n.1;simp only[];split
   ·exact E.Fq y n.2.2
   ·exact E
  ·have n:=h.sa _ (getD_mem (l:=s.samples) (k:=a.a.toNat) (d:=default) (by have:=h.samples;omega));refine h.Fq y ?_;split
   ·unfold DN;split
    ·intro z e;cases e
    ·split
     ·intro z e;cases e
     ·exact n.bytes
   ·intro z e;cases e
 ·rename_i f;have o:=g.Ep (.inl f);exact h.Nk _ (waitS_w (h.se _ (getD_mem (by have:=h.semas;omega))) t w)
 ·rename_i f;have o:=g.Ep (.inr f);have m:=h.se _ (getD_mem (l:=s.semas) (k:=a.a.toNat) (d:=default) (by have:=h.semas;omega));refine J5 (h.Nk _ (Qx m)) (fun z e=>by cases e) B C (fun z e=>?_);simp only[ae] at e;subst e;have:=Qy (c:=(Ia a s).count) m;show _<(s.procs.length:Int);rw[A];exact this
 ·rename_i f;have o:=g.event (.inl f);have m:=h.ev _ (getD_mem (l:=s.events) (k:=a.a.toNat) (d:=default) (by have:=h.events;omega));have j:=Qc (u:=(EW a s).up) m;refine J5 (h.Lq _ j.1) (fun z e=>by cases e) B C (fun z e=>?_);show _<(s.procs.length:Int);rw[A];exact j.2.1 z e
 ·rename_i f;have o:=g.event (.inr (.inl f));have m:=h.ev _ (getD_mem (l:=s.events) (k:=a.a.toNat) (d:=default) (by have:=h.events;omega));exact h.Lq _ m
 ·rename_i f;have o:=g.event (.inr (.inr f));exact h.Lq _ (untilE_w (h.ev _ (getD_mem (l:=s.events) (k:=a.a.toNat) (d:=default) (by have:=h.events;omega))) t w)
 ·rename_i f;have o:=g.Eg (.inl f);have D:=h.bu _ (getD_mem (l:=s.bufs) (k:=a.a.toNat) (d:=default) (by have:=h.bufs;omega));have n:=g.one (.inl f);have j:=D.PU (q:=i) (r:=prioA d i) (v:=a.data.getD 0 0) t w (Mr g.bytes 0);refine J5 (h.Lp _ j.1) g.bytes B C (fun z e=>?_);simp only[ae] at e;subst e;show _<(s.procs.length:Int);rw[A];exact j.2
 ·rename_i f;have o:=g.Eg (.inr f);have D:=h.bu _ (getD_mem (l:=s.bufs) (k:=a.a.toNat) (d:=default) (by have:=h.bufs;omega));have j:=D.OG (q:=i) (r:=prioA d i) t w;have n:Ah d (wakeP d now [] [(getBu (buA a s).depth (buA a s).data (buA a s).put (buA a s).get i (prioA d i)).2.2.2.2.2.1] {s with bufs:=s.bufs.set a.a.toNat ⟨(buA a s).depth,(getBu (buA a s).depth (buA a s).data (buA a s).put (buA a s).get i (prioA d i)).1,(getBu (buA a s).depth (buA a s).data (buA a s).put (buA a s).get i (prioA d i)).2.1,(getBu (buA a s).depth (buA a s).data (buA a s).put (buA a s).get i (prioA d i)).2.2.1⟩}):=by
   refine J5 (h.Lp _ j.1) (fun z e=>by cases e) B C (fun z e=>?_);simp only[ae] at e;subst e;show _<(s.procs.length:Int);rw[A];exact j.2.1
  unfold Gt;simp only[];split
  ·refine n.Fq (by rw[N3];exact y) (fun z e=>?_);simp only[ae] at e;subst e;exact j.2.2
  ·exact n
 ·rename_i f;have o:=g.Dz (.inl f);have m:=h.bo _ (getD_mem (l:=s.boards) (k:=a.a.toNat) (d:=default) (by have:=h.boards;omega));have j:=Qt (b:=(boA a s).has) (x:=(boA a s).val) (v:=a.data.getD 0 0) m;refine J5 (h.Km _ j.1) g.bytes B C (fun z e=>?_);show _<(s.procs.length:Int);rw[A];exact j.2.1 z e
 ·rename_i f;have o:=g.Dz (.inr (.inl f));have m:=h.bo _ (getD_mem (l:=s.boards) (k:=a.a.toNat) (d:=default) (by have:=h.boards;omega));have n:=h.Km a.a.toNat (x:=⟨(boA a s).has,(boA a s).val,(lookBd (boA a s).has (boA a s).val (boA a s).wait i (prioA d i)).1⟩) (Pv m t w);unfold Gu;simp only[];split
  ·refine n.Fq y (fun z e=>?_);simp only[ae] at e;subst e;have H:=F _ (getD_mem (l:=s.boards) (k:=a.a.toNat) (d:=default) (by have:=h.boards;omega));unfold lookBd;split
   ·exact(show(0:Int)≤0∧(0:Int)≤255 by decide)
   ·split
    ·exact H
    ·exact(show(0:Int)≤0∧(0:Int)≤255 by decide)
  ·exact n
 ·rename_i f;have o:=g.Dz (.inr (.inr f));have m:=h.bo _ (getD_mem (l:=s.boards) (k:=a.a.toNat) (d:=default) (by have:=h.boards;omega));exact h.Km _ m
 ·rename_i f;unfold nextA;split
  ·exact h.G4 i Ji
  ·refine h.G4 i ?_;have:=h.at_ y;exact {this with deadline:=(show(-1:Int)≤ -1∧(-1:Int)≤4294967296 by decide)}
 ·exact h.G4 i Ji
 ·exact h
end
def upTo{α:Type}(f:Nat→α→α)(k:Nat)(l:List α):List α:=l.mapIdx fun i x=>if i<k then f i x else x
section
variable {α:Type} {f:Nat→α→α} {k:Nat} {l:List α}
def upTo_len:(upTo f k l).length=l.length:=by simp[upTo]
def IC:upTo f 0 l=l:=by
 refine bN upTo_len fun i a b=>?_
 simp[upTo]
def IB:upTo f l.length l=l.mapIdx f:=by
 refine bN (by simp[upTo]) fun i b a=>?_
 have:i<l.length:=by simpa using a
 simp[upTo,this]
def GX(h:k<l.length):(upTo f k l)[k]'(by rw[upTo_len];exact h)=l[k]:=by simp[upTo]
def If(h:k<l.length):(upTo f k l).set k (f k l[k])=upTo f (k+1) l:=by
 refine bN (by simp[upTo]) fun i b c=>?_
 rw[List.getElem_set];by_cases e:k=i
 ·subst e;simp[upTo]
 ·rw[if_neg e];simp only[upTo,List.getElem_mapIdx];by_cases a:i<k
  ·rw[if_pos a,if_pos (by omega)]
  ·rw[if_neg a,if_neg (by omega)]
def Je{β:Type}(g:α→β)(l:List α):(l.mapIdx fun _ x=>g x)=l.map g:=by
 refine bN (by simp) fun i a b=>?_
 simp
end
def Re(w:bX)(b o:Nat)(l:List Wt)(e:Ending)(w':bX):Prop:=e=.returned (.tuple #[])∧∃ a u,w'=a.setCell ⟨b,o,O⟩ u∧Bl w a∧Al a w.heap.size u l
def Tv:EG 69:=fun _ _=>by kernel_rfl
def Jd(w:bX)(a b:Nat)(v:Value)(l:List Wt)(i:Int)(q:Nat)(n:w.cell? ⟨a,b,O⟩=Z v)(m:a<w.heap.size)(x:w.frozen? ⟨a,b,O⟩=false)(y:w.cell? ⟨q,0,O⟩=Z (I J i))(R:q<w.heap.size)(r:Al w 0 v l)(hl:l.length≤1000):
  b5 prog 68 #[G (Z ⟨a,b,O⟩),G (Z ⟨q,0,O⟩)] w (Re w a b (leaveW l i)):=by
 obtain⟨s,t,rfl,_,_,_⟩:=r.open_;have F:Hq (∀ W,Bl w W→b5 prog 69 #[Y s l.length t,I J i] W fun e w'=>II W (leaveW l i) e w'):=fun W c=>WR _ _ i W (r.below c) (by omega);have X:=qC n m;have q2:=qC y R;obtain⟨H,L⟩:=H2 x n;clear n y r x;go_enter func68,ntmps68;refine AS 8 [7] [] [(5,(fun v w'=>∃ d c2,v=Y d (leaveW l i).length c2∧Al w' w.heap.size (Y d (leaveW l i).length c2) (leaveW l i)))] ⟨(fun v w1 w2 ⟨d,c2,e,h⟩ c=>⟨d,c2,e,h.below c⟩),trivial⟩ ?_
 iterate 5 (refine An rfl rfl rfl ?_;intro K hK;go_big_quiet_op;go_big_quiet_on)
 refine A9 rfl rfl (fun w' c hA=>?_) ?_
 ·refine AD (f:=69) (al:=[Y s l.length t,I J i]) rfl rfl rfl Tv ?_;exact(F.o w' c).mono fun e w2 h=>by
   obtain⟨u,P,A,N⟩:=h;obtain⟨d,c2,S⟩:=Bq A;subst S;exact⟨_,P,N,_,_,rfl,(Al.mono (B:=w'.heap.size) (Sl.Bw A) c.size)⟩
 intro v w' c V;obtain⟨d,c2,rfl,Q⟩:=V;clear c Q w';simp only[Au,bY,b4,b2]
 iterate 1 (refine An rfl rfl rfl ?_;intro K hK;go_big_quiet_op;go_big_quiet_on)
 refine AH rfl ?_;refine AR ?_;intro j g D;obtain⟨a3,c3,k,C⟩:=D 5 _ (by decide) rfl;injection k with k _ e4;subst k e4;have z:j.cell? ⟨a,b,O⟩=Z _:=(g.cell (p:=⟨a,b,O⟩) m).trans L.o;have f:j.frozen? ⟨a,b,O⟩=false:=(g.frozen (p:=⟨a,b,O⟩) m).trans H.o;refine AI (w':=j.setCell ⟨a,b,O⟩ (Y d (leaveW l i).length c2)) (by simp[execOp,go_sem,z,f]) ?_;unfold A7;obtain⟨E,M⟩:=H2 g C;clear g C D X q2;go_wp2_with fail
 go_end0
 exact⟨rfl,j,_,rfl,E.o,M.o⟩
def Ph(w:bX)(D:Nat→Prop)(g:Nat)(d:Ad)(j:Hd)(s:Ae)(i:Nat)(h:PA w D g d j s)(ok:Ah d s)(hD:∀ q,w.heap.size≤q→D q):
  b5 prog 41 #[G (Z ⟨g,0,O⟩),I J i] w fun e w'=>e=.returned (.tuple #[])∧PA w' D g d j (CX i s)∧Upd (Mut g j) w w':=by
 obtain⟨ak,OK,H⟩:=H3 hD ok h;have h6:=ok.ok.procs;have bz:=ok.procs;have bn:=ok.queues;have bl:=ok.bufs;have bk:=ok.boards;have bp:=ok.semas;have bm:=ok.events;have k1:=ok.ok.Ab;have k2:=ok.ok.bufs;have k3:=ok.ok.boards;have k4:=ok.ok.semas;have k5:=ok.ok.events;have ao:Hq (s.queues.length≤8∧s.bufs.length≤8∧s.boards.length≤8∧s.semas.length≤8∧s.events.length≤8):=⟨by omega,by omega,by omega,by omega,by omega⟩;have bC:=h.lt;obtain⟨W0,ap⟩:=ex (w.alloc (T #[I J i] 3));have aI:Bl w W0:=by
  rw[ap];exact(ca _ w).alloc (b0 _) _
 have aT:W0.heap[w.heap.size]? =Z (T #[I J i] 3 (0,0)):=by
  rw[ap];exact heap_alloc_new w _
 have aL:Hq (PA W0 D g d j s):=h.below aI;have a2:Hq (Upd (Mut g j) w W0):=.below aI;have aW:=HH aT;have al:Hq (w.heap.size∉Mut g j):=EF h (b0 _);have bx:Hq (∀ W D s o,PA W D g d j s→W.cell? ⟨g,o,O⟩=(CR d j s)[o]?):=fun W D s o h=>by rw[Cr h.blk]
 clear ok bn bl bk bp bm k1 k2 k3 k4 k5 aI aT hD;have c0:=H.o.cell 12;go_enter func41,ntmps41
 -- queues
 have bD:=ao.o.1;obtain⟨bq,ba⟩:=ex (bR j.qu.a s.queues.length j.qu.c);have B:w.cell? ⟨g,12,O⟩=Z (Y j.qu.a s.queues.length j.qu.c):=H.o.cell 12;clear c0 h;have a9:(w.alloc (T #[I J i] 3)).cell? ⟨g,12,O⟩=Z (Y j.qu.a s.queues.length j.qu.c):=by rw[←ap];exact aL.o.cell 12
 go_wp2_with fail;rw[←ap];clear B a9 ap;clear bq ba
 go_loopw [5,17] (fun _ v wr=>∃ k:Nat,k≤s.queues.length∧v=I J k∧Hq (PA wr D g d j {s with queues:=upTo (fun _=>AO.leave i) k s.queues}∧Upd (Mut g j) w wr∧wr.heap[w.heap.size]? =Z (T #[I J i] 3 (0,0)))) (fun _ v _=>s.queues.length-(bL v).toNat)
 case atStart=>exact⟨0,bI _,rfl,by rw[IC];exact aL.o,a2.o,aW.o⟩
 case round=>
  obtain⟨k,aD,rfl,A⟩:=hrel;by_cases y:k<s.queues.length
  ·have aE:(k:Int)<(s.queues.length:Int):=by omega
   obtain⟨m,t,l⟩:=A.o;have r:k<(upTo (fun _=>AO.leave i) k s.queues).length:=by rw[upTo_len];exact y
   have N:j.qu.b<wr.heap.size:=m.qu.lt;have B:=m.Ib (by show 0<(upTo (fun _=>AO.leave i) k s.queues).length;omega);have cap:=m.qu.cap;simp only[upTo_len] at B cap;obtain⟨v,u,n,z,R⟩:=m.qu.el k r;have C:=GX (f:=fun _=>AO.leave i) y;simp only[C] at n;have y1:wr.cell? ⟨j.qu.b,k*3+1,O⟩=Z u:=n 1 _ rfl;have L:=m.qu.frozen (by show 0<(upTo (fun _=>AO.leave i) k s.queues).length;omega);simp only[C] at R;obtain⟨V,HA,ag⟩:=H3 (Jd wr j.qu.b (k*3+1) u s.queues[k].wait i w.heap.size y1 N (L _) (by rw[Cr l];rfl) (Aa l) R.1 (by have:=((OK.o.qu _ (af y)).wait).len;omega)) (show PA wr D g d j {s with queues:=upTo (fun _=>AO.leave i) k s.queues}∧Upd (Mut g j) w wr∧wr.heap[w.heap.size]? =Z (T #[I J i] 3 (0,0)) from⟨m,t,l⟩) C;clear m t l n z R L y1 A C r N;go_wp2_with fail;refine V.o.mono ?_;rintro e w2 ⟨rfl,w1,u1,rfl,K,r1⟩;obtain⟨E,aj⟩:=H2 K r1;clear K r1 V B cap;go_wp2_with fail
   go_roundw
   case rel=>
    obtain⟨m,t,l⟩:=HA.o;have M:=m.below E.o;have r:k<(upTo (fun _=>AO.leave i) k s.queues).length:=by rw[upTo_len];exact y
    obtain⟨v,u,n,z,R⟩:=M.qu.el k r;have F:=M.Jv r [(1,u1)] rfl n (x:=AO.leave i s.queues[k]) fun w' P Q=>?el
    ·have S:=F.1;have ac:=F.2;rw[If (f:=fun _=>AO.leave i) y] at S;exact⟨k+1,by omega,by go_num,S,(t.trans (Upd.below E.o)).trans ac,((ac.block _ (aH (Aa l) E.o.size) al.o).trans (E.o.block _ (Aa l))).trans l⟩
    case el=>
     simp only[ag.o] at P z;exact⟨_,_,P,z.Ag Q,(Al.CZ aj.o fun q l _=>ak.o q (bJ t.size l)).Ag Q⟩
   case measure=>simp[bL];omega
  ·obtain rfl:k=s.queues.length:=by omega
   have X:Hq (PA wr D g d j {s with queues:=s.queues.map (AO.leave i)}):=by
    have:=A.o.1;rw[IB,Je] at this;exact this
   have ab:=HH A.o.2.1;have aa:=HH A.o.2.2;clear A;obtain⟨W1,aq⟩:=ex wr;have aM:Hq (PA W1 D g d j {s with queues:=s.queues.map (AO.leave i)}):=by rw[aq];exact X.o
   have a3:Hq (Upd (Mut g j) w W1):=by rw[aq];exact ab.o
   have aX:Hq (W1.heap[w.heap.size]? =Z (T #[I J i] 3 (0,0))):=by rw[aq];exact aa.o
   rw[←aq];clear X ab aa aq
   -- bufs
   have bE:=ao.o.2.1;obtain⟨br,bb⟩:=ex (bR j.bu.a s.bufs.length j.bu.c);have B:W1.cell? ⟨g,13,O⟩=Z (Y j.bu.a s.bufs.length j.bu.c):=aM.o.cell 13;go_wp2_with fail;clear B;clear br bb
   go_loopw [6,37] (fun _ v wr=>∃ k:Nat,k≤s.bufs.length∧v=I J k∧Hq (PA wr D g d j {s with queues:=s.queues.map (AO.leave i),bufs:=upTo (fun _=>AT.leave i) k s.bufs}∧Upd (Mut g j) w wr∧wr.heap[w.heap.size]? =Z (T #[I J i] 3 (0,0)))) (fun _ v _=>s.bufs.length-(bL v).toNat)
   case atStart=>exact⟨0,bI _,rfl,by rw[IC];exact aM.o,a3.o,aX.o⟩
   case round=>
    obtain⟨k,aD,rfl,A⟩:=hrel;by_cases y:k<s.bufs.length
    ·have aE:(k:Int)<(s.bufs.length:Int):=by omega
     obtain⟨m,t,l⟩:=A.o;have r:k<(upTo (fun _=>AT.leave i) k s.bufs).length:=by rw[upTo_len];exact y
     have N:j.bu.b<wr.heap.size:=m.bu.lt;have B:=m.I8 (by show 0<(upTo (fun _=>AT.leave i) k s.bufs).length;omega);have cap:=m.bu.cap;simp only[upTo_len] at B cap;obtain⟨v,p,gg,n,z,R,h3⟩:=m.bu.el k r;have C:=GX (f:=fun _=>AT.leave i) y;simp only[C] at n;have y2:wr.cell? ⟨j.bu.b,k*4+2,O⟩=Z p:=n 2 _ rfl;have y3:wr.cell? ⟨j.bu.b,k*4+3,O⟩=Z gg:=n 3 _ rfl;have L:=m.bu.frozen (by show 0<(upTo (fun _=>AT.leave i) k s.bufs).length;omega);simp only[C] at z R h3;obtain⟨V,HA,ag⟩:=H3 (Jd wr j.bu.b (k*4+2) p s.bufs[k].put i w.heap.size y2 N (L _) (by rw[Cr l];rfl) (Aa l) R.1 (by have:=(OK.o.bu _ (af y)).put.len;omega)) (show PA wr D g d j {s with queues:=s.queues.map (AO.leave i),bufs:=upTo (fun _=>AT.leave i) k s.bufs}∧Upd (Mut g j) w wr∧wr.heap[w.heap.size]? =Z (T #[I J i] 3 (0,0)) from⟨m,t,l⟩) C;clear m t l n z R h3 L y2 y3 A C r N;go_wp2_with fail;refine V.o.mono ?_;rintro e w2 ⟨rfl,w1,u1,aU,K,r1⟩;have aK:Hq (PA w2 D g d j {s with queues:=s.queues.map (AO.leave i),bufs:=(upTo (fun _=>AT.leave i) k s.bufs).set k ⟨s.bufs[k].depth,s.bufs[k].data,leaveW s.bufs[k].put i,s.bufs[k].get⟩}∧Upd (Mut g j) w w2∧w2.heap[w.heap.size]? =Z (T #[I J i] 3 (0,0))):=by
      obtain⟨m,t,l⟩:=HA.o;have M:=m.below K;have r:k<(upTo (fun _=>AT.leave i) k s.bufs).length:=by rw[upTo_len];exact y
      obtain⟨v,p,gg,n,z,R,h3⟩:=M.bu.el k r;have F:=M.Kr r [(2,u1)] rfl n (x:=⟨s.bufs[k].depth,s.bufs[k].data,leaveW s.bufs[k].put i,s.bufs[k].get⟩) fun w' P Q=>?el
      ·rw[aU];exact⟨F.1,(t.trans (Upd.below K)).trans F.2,((F.2.block _ (aH (Aa l) K.size) al.o).trans (K.block _ (Aa l))).trans l⟩
      case el=>
       simp only[ag.o] at P z h3;exact⟨_,_,_,P,z.Ag Q,(Al.CZ r1 fun q l _=>ak.o q (bJ t.size l)).Ag Q,h3.Ag Q⟩
     obtain⟨m,t,l⟩:=aK.o;have r:k<((upTo (fun _=>AT.leave i) k s.bufs).set k ⟨s.bufs[k].depth,s.bufs[k].data,leaveW s.bufs[k].put i,s.bufs[k].get⟩).length:=by rw[bK,upTo_len];exact y
     have N:j.bu.b<w2.heap.size:=m.bu.lt;have aR:=m.I8 (by show 0<((upTo (fun _=>AT.leave i) k s.bufs).set k ⟨s.bufs[k].depth,s.bufs[k].data,leaveW s.bufs[k].put i,s.bufs[k].get⟩).length;omega);simp only[upTo_len,bK] at aR;obtain⟨v,p,gg,n,z,R,h3⟩:=m.bu.el k r;simp only[aB] at n z R h3;have y3:w2.cell? ⟨j.bu.b,k*4+3,O⟩=Z gg:=n 3 _ rfl;have L:=m.bu.frozen (by show 0<((upTo (fun _=>AT.leave i) k s.bufs).set k ⟨s.bufs[k].depth,s.bufs[k].data,leaveW s.bufs[k].put i,s.bufs[k].get⟩).length;omega);have aJ:=HH (Jd w2 j.bu.b (k*4+3) gg s.bufs[k].get i w.heap.size y3 N (L _) (by rw[Cr l];rfl) (Aa l) h3.1 (by have:=(OK.o.bu _ (af y)).get.len;omega));clear m t l n z R h3 L y3 r N aU K r1 V B HA ag;go_wp2_with fail;refine aJ.o.mono ?_;rintro e w4 ⟨rfl,w3,u3,rfl,b3,r3⟩;obtain⟨ay,a1⟩:=H2 b3 r3;clear b3 r3 aJ aR cap;go_wp2_with fail
     go_roundw
     case rel=>
      obtain⟨m,t,l⟩:=aK.o;have M:=m.below ay.o;have r:k<((upTo (fun _=>AT.leave i) k s.bufs).set k ⟨s.bufs[k].depth,s.bufs[k].data,leaveW s.bufs[k].put i,s.bufs[k].get⟩).length:=by rw[bK,upTo_len];exact y
      obtain⟨v,p,gg,n,z,R,h3⟩:=M.bu.el k r;simp only[aB] at n z R h3;have F:=M.Kr r [(3,u3)] rfl n (x:=AT.leave i s.bufs[k]) fun w' P Q=>?el
      ·have S:=F.1;have ac:=F.2;simp only[bT] at S;rw[If (f:=fun _=>AT.leave i) y] at S;exact⟨k+1,by omega,by go_num,S,(t.trans (Upd.below ay.o)).trans ac,((ac.block _ (aH (Aa l) ay.o.size) al.o).trans (ay.o.block _ (Aa l))).trans l⟩
      case el=>exact⟨_,_,_,P,z.Ag Q,R.Ag Q,(Al.CZ a1.o fun q l _=>ak.o q (bJ t.size l)).Ag Q⟩
     case measure=>simp[bL];omega
    ·obtain rfl:k=s.bufs.length:=by omega
     have X:Hq (PA wr D g d j {s with queues:=s.queues.map (AO.leave i),bufs:=s.bufs.map (AT.leave i)}):=by
      have:=A.o.1;rw[IB,Je] at this;exact this
     have ab:=HH A.o.2.1;have aa:=HH A.o.2.2;clear A;obtain⟨W2,ar⟩:=ex wr;have aN:Hq (PA W2 D g d j {s with queues:=s.queues.map (AO.leave i),bufs:=s.bufs.map (AT.leave i)}):=by rw[ar];exact X.o
     have a4:Hq (Upd (Mut g j) w W2):=by rw[ar];exact ab.o
     have aY:Hq (W2.heap[w.heap.size]? =Z (T #[I J i] 3 (0,0))):=by rw[ar];exact aa.o
     rw[←ar];clear X ab aa ar
     -- boards
     have bF:=ao.o.2.2.1;obtain⟨bs,bc⟩:=ex (bR j.bo.a s.boards.length j.bo.c);have B:W2.cell? ⟨g,14,O⟩=Z (Y j.bo.a s.boards.length j.bo.c):=aN.o.cell 14;go_wp2_with fail;clear B;clear bs bc
     go_loopw [7,67] (fun _ v wr=>∃ k:Nat,k≤s.boards.length∧v=I J k∧Hq (PA wr D g d j {s with queues:=s.queues.map (AO.leave i),bufs:=s.bufs.map (AT.leave i),boards:=upTo (fun _=>BE.leave i) k s.boards}∧Upd (Mut g j) w wr∧wr.heap[w.heap.size]? =Z (T #[I J i] 3 (0,0)))) (fun _ v _=>s.boards.length-(bL v).toNat)
     case atStart=>exact⟨0,bI _,rfl,by rw[IC];exact aN.o,a4.o,aY.o⟩
     case round=>
      obtain⟨k,aD,rfl,A⟩:=hrel;by_cases y:k<s.boards.length
      ·have aE:(k:Int)<(s.boards.length:Int):=by omega
       obtain⟨m,t,l⟩:=A.o;have r:k<(upTo (fun _=>BE.leave i) k s.boards).length:=by rw[upTo_len];exact y
       have N:j.bo.b<wr.heap.size:=m.bo.lt;have B:=m.I7 (by show 0<(upTo (fun _=>BE.leave i) k s.boards).length;omega);have cap:=m.bo.cap;simp only[upTo_len] at B cap;obtain⟨v,n,z⟩:=m.bo.el k r;have C:=GX (f:=fun _=>BE.leave i) y;simp only[C] at n;have y2:wr.cell? ⟨j.bo.b,k*3+2,O⟩=Z v:=n 2 _ rfl;have L:=m.bo.frozen (by show 0<(upTo (fun _=>BE.leave i) k s.boards).length;omega);simp only[C] at z;obtain⟨V,HA,ag⟩:=H3 (Jd wr j.bo.b (k*3+2) v s.boards[k].wait i w.heap.size y2 N (L _) (by rw[Cr l];rfl) (Aa l) z.1 (by have:=(OK.o.bo _ (af y)).len;omega)) (show PA wr D g d j {s with queues:=s.queues.map (AO.leave i),bufs:=s.bufs.map (AT.leave i),boards:=upTo (fun _=>BE.leave i) k s.boards}∧Upd (Mut g j) w wr∧wr.heap[w.heap.size]? =Z (T #[I J i] 3 (0,0)) from⟨m,t,l⟩) C;clear m t l n z L y2 A C r N;go_wp2_with fail;refine V.o.mono ?_;rintro e w2 ⟨rfl,w1,u1,rfl,K,r1⟩;obtain⟨E,aj⟩:=H2 K r1;clear K r1 V B cap;go_wp2_with fail
       go_roundw
       case rel=>
        obtain⟨m,t,l⟩:=HA.o;have M:=m.below E.o;have r:k<(upTo (fun _=>BE.leave i) k s.boards).length:=by rw[upTo_len];exact y
        obtain⟨v,n,z⟩:=M.bo.el k r;have F:=M.Kq r [(2,u1)] rfl n (x:=BE.leave i s.boards[k]) fun w' P Q=>?el
        ·have S:=F.1;have ac:=F.2;rw[If (f:=fun _=>BE.leave i) y] at S;exact⟨k+1,by omega,by go_num,S,(t.trans (Upd.below E.o)).trans ac,((ac.block _ (aH (Aa l) E.o.size) al.o).trans (E.o.block _ (Aa l))).trans l⟩
        case el=>
         simp only[ag.o] at P;exact⟨_,P,(Al.CZ aj.o fun q l _=>ak.o q (bJ t.size l)).Ag Q⟩
       case measure=>simp[bL];omega
      ·obtain rfl:k=s.boards.length:=by omega
       have X:Hq (PA wr D g d j {s with queues:=s.queues.map (AO.leave i),bufs:=s.bufs.map (AT.leave i),boards:=s.boards.map (BE.leave i)}):=by
        have:=A.o.1;rw[IB,Je] at this;exact this
       have ab:=HH A.o.2.1;have aa:=HH A.o.2.2;clear A;obtain⟨W3,au⟩:=ex wr;have aO:Hq (PA W3 D g d j {s with queues:=s.queues.map (AO.leave i),bufs:=s.bufs.map (AT.leave i),boards:=s.boards.map (BE.leave i)}):=by rw[au];exact X.o
       have a5:Hq (Upd (Mut g j) w W3):=by rw[au];exact ab.o
       have aZ:Hq (W3.heap[w.heap.size]? =Z (T #[I J i] 3 (0,0))):=by rw[au];exact aa.o
       rw[←au];clear X ab aa au
       -- semas
       have bG:=ao.o.2.2.2.1;obtain⟨bt,bd⟩:=ex (bR j.se.a s.semas.length j.se.c);have B:W3.cell? ⟨g,15,O⟩=Z (Y j.se.a s.semas.length j.se.c):=aO.o.cell 15;go_wp2_with fail;clear B;clear bt bd
       go_loopw [8,87] (fun _ v wr=>∃ k:Nat,k≤s.semas.length∧v=I J k∧Hq (PA wr D g d j {s with queues:=s.queues.map (AO.leave i),bufs:=s.bufs.map (AT.leave i),boards:=s.boards.map (BE.leave i),semas:=upTo (fun _=>BU.leave i) k s.semas}∧Upd (Mut g j) w wr∧wr.heap[w.heap.size]? =Z (T #[I J i] 3 (0,0)))) (fun _ v _=>s.semas.length-(bL v).toNat)
       case atStart=>exact⟨0,bI _,rfl,by rw[IC];exact aO.o,a5.o,aZ.o⟩
       case round=>
        obtain⟨k,aD,rfl,A⟩:=hrel;by_cases y:k<s.semas.length
        ·have aE:(k:Int)<(s.semas.length:Int):=by omega
         obtain⟨m,t,l⟩:=A.o;have r:k<(upTo (fun _=>BU.leave i) k s.semas).length:=by rw[upTo_len];exact y
         have N:j.se.b<wr.heap.size:=m.se.lt;have B:=m.Lw (by show 0<(upTo (fun _=>BU.leave i) k s.semas).length;omega);have cap:=m.se.cap;simp only[upTo_len] at B cap;obtain⟨v,n,z⟩:=m.se.el k r;have C:=GX (f:=fun _=>BU.leave i) y;simp only[C] at n;have y1:wr.cell? ⟨j.se.b,k*2+1,O⟩=Z v:=n 1 _ rfl;have L:=m.se.frozen (by show 0<(upTo (fun _=>BU.leave i) k s.semas).length;omega);simp only[C] at z;obtain⟨V,HA,ag⟩:=H3 (Jd wr j.se.b (k*2+1) v s.semas[k].wait i w.heap.size y1 N (L _) (by rw[Cr l];rfl) (Aa l) z.1 (by have:=(OK.o.se _ (af y)).len;omega)) (show PA wr D g d j {s with queues:=s.queues.map (AO.leave i),bufs:=s.bufs.map (AT.leave i),boards:=s.boards.map (BE.leave i),semas:=upTo (fun _=>BU.leave i) k s.semas}∧Upd (Mut g j) w wr∧wr.heap[w.heap.size]? =Z (T #[I J i] 3 (0,0)) from⟨m,t,l⟩) C;clear m t l n z L y1 A C r N;go_wp2_with fail;refine V.o.mono ?_;rintro e w2 ⟨rfl,w1,u1,rfl,K,r1⟩;obtain⟨E,aj⟩:=H2 K r1;clear K r1 V B cap;go_wp2_with fail
         go_roundw
         case rel=>
          obtain⟨m,t,l⟩:=HA.o;have M:=m.below E.o;have r:k<(upTo (fun _=>BU.leave i) k s.semas).length:=by rw[upTo_len];exact y
          obtain⟨v,n,z⟩:=M.se.el k r;have F:=M.Nl r [(1,u1)] rfl n (x:=BU.leave i s.semas[k]) fun w' P Q=>?el
          ·have S:=F.1;have ac:=F.2;rw[If (f:=fun _=>BU.leave i) y] at S;exact⟨k+1,by omega,by go_num,S,(t.trans (Upd.below E.o)).trans ac,((ac.block _ (aH (Aa l) E.o.size) al.o).trans (E.o.block _ (Aa l))).trans l⟩
          case el=>
           simp only[ag.o] at P;exact⟨_,P,(Al.CZ aj.o fun q l _=>ak.o q (bJ t.size l)).Ag Q⟩
         case measure=>simp[bL];omega
        ·obtain rfl:k=s.semas.length:=by omega
         have X:Hq (PA wr D g d j {s with queues:=s.queues.map (AO.leave i),bufs:=s.bufs.map (AT.leave i),boards:=s.boards.map (BE.leave i),semas:=s.semas.map (BU.leave i)}):=by
          have:=A.o.1;rw[IB,Je] at this;exact this
         have ab:=HH A.o.2.1;have aa:=HH A.o.2.2;clear A;obtain⟨W4,av⟩:=ex wr;have aP:Hq (PA W4 D g d j {s with queues:=s.queues.map (AO.leave i),bufs:=s.bufs.map (AT.leave i),boards:=s.boards.map (BE.leave i),semas:=s.semas.map (BU.leave i)}):=by rw[av];exact X.o
         have a6:Hq (Upd (Mut g j) w W4):=by rw[av];exact ab.o
         have a0:Hq (W4.heap[w.heap.size]? =Z (T #[I J i] 3 (0,0))):=by rw[av];exact aa.o
         rw[←av];clear X ab aa av
         -- events
         have bH:=ao.o.2.2.2.2;obtain⟨bw,be⟩:=ex (bR j.ev.a s.events.length j.ev.c);have B:W4.cell? ⟨g,16,O⟩=Z (Y j.ev.a s.events.length j.ev.c):=aP.o.cell 16;go_wp2_with fail;clear B;clear bw be
         go_loopw [9,107] (fun _ v wr=>∃ k:Nat,k≤s.events.length∧v=I J k∧Hq (PA wr D g d j {s with queues:=s.queues.map (AO.leave i),bufs:=s.bufs.map (AT.leave i),boards:=s.boards.map (BE.leave i),semas:=s.semas.map (BU.leave i),events:=upTo (fun _=>C3.leave i) k s.events}∧Upd (Mut g j) w wr∧wr.heap[w.heap.size]? =Z (T #[I J i] 3 (0,0)))) (fun _ v _=>s.events.length-(bL v).toNat)
         case atStart=>exact⟨0,bI _,rfl,by rw[IC];exact aP.o,a6.o,a0.o⟩
         case round=>
          obtain⟨k,aD,rfl,A⟩:=hrel;by_cases y:k<s.events.length
          ·have aE:(k:Int)<(s.events.length:Int):=by omega
           obtain⟨m,t,l⟩:=A.o;have r:k<(upTo (fun _=>C3.leave i) k s.events).length:=by rw[upTo_len];exact y
           have N:j.ev.b<wr.heap.size:=m.ev.lt;have B:=m.Ku (by show 0<(upTo (fun _=>C3.leave i) k s.events).length;omega);have cap:=m.ev.cap;simp only[upTo_len] at B cap;obtain⟨v,n,z⟩:=m.ev.el k r;have C:=GX (f:=fun _=>C3.leave i) y;simp only[C] at n;have y1:wr.cell? ⟨j.ev.b,k*2+1,O⟩=Z v:=n 1 _ rfl;have L:=m.ev.frozen (by show 0<(upTo (fun _=>C3.leave i) k s.events).length;omega);simp only[C] at z;obtain⟨V,HA,ag⟩:=H3 (Jd wr j.ev.b (k*2+1) v s.events[k].wait i w.heap.size y1 N (L _) (by rw[Cr l];rfl) (Aa l) z.1 (by have:=(OK.o.ev _ (af y)).len;omega)) (show PA wr D g d j {s with queues:=s.queues.map (AO.leave i),bufs:=s.bufs.map (AT.leave i),boards:=s.boards.map (BE.leave i),semas:=s.semas.map (BU.leave i),events:=upTo (fun _=>C3.leave i) k s.events}∧Upd (Mut g j) w wr∧wr.heap[w.heap.size]? =Z (T #[I J i] 3 (0,0)) from⟨m,t,l⟩) C;clear m t l n z L y1 A C r N;go_wp2_with fail;refine V.o.mono ?_;rintro e w2 ⟨rfl,w1,u1,rfl,K,r1⟩;obtain⟨E,aj⟩:=H2 K r1;clear K r1 V B cap;go_wp2_with fail
           go_roundw
           case rel=>
            obtain⟨m,t,l⟩:=HA.o;have M:=m.below E.o;have r:k<(upTo (fun _=>C3.leave i) k s.events).length:=by rw[upTo_len];exact y
            obtain⟨v,n,z⟩:=M.ev.el k r;have F:=M.Ls r [(1,u1)] rfl n (x:=C3.leave i s.events[k]) fun w' P Q=>?el
            ·have S:=F.1;have ac:=F.2;rw[If (f:=fun _=>C3.leave i) y] at S;exact⟨k+1,by omega,by go_num,S,(t.trans (Upd.below E.o)).trans ac,((ac.block _ (aH (Aa l) E.o.size) al.o).trans (E.o.block _ (Aa l))).trans l⟩
            case el=>
             simp only[ag.o] at P;exact⟨_,P,(Al.CZ aj.o fun q l _=>ak.o q (bJ t.size l)).Ag Q⟩
           case measure=>simp[bL];omega
          ·obtain rfl:k=s.events.length:=by omega
           have X:Hq (PA wr D g d j {s with queues:=s.queues.map (AO.leave i),bufs:=s.bufs.map (AT.leave i),boards:=s.boards.map (BE.leave i),semas:=s.semas.map (BU.leave i),events:=s.events.map (C3.leave i)}):=by
            have:=A.o.1;rw[IB,Je] at this;exact this
           have ab:=HH A.o.2.1;have aa:=HH A.o.2.2;clear A;obtain⟨W5,aw⟩:=ex wr;have aV:Hq (PA W5 D g d j {s with queues:=s.queues.map (AO.leave i),bufs:=s.bufs.map (AT.leave i),boards:=s.boards.map (BE.leave i),semas:=s.semas.map (BU.leave i),events:=s.events.map (C3.leave i)}):=by rw[aw];exact X.o
           have a7:Hq (Upd (Mut g j) w W5):=by rw[aw];exact ab.o
           have bA:Hq (W5.heap[w.heap.size]? =Z (T #[I J i] 3 (0,0))):=by rw[aw];exact aa.o
           rw[←aw];clear X ab aa aw;go_wp2_with fail
           go_end0
           exact⟨rfl,aV.o,a7.o⟩
def LO(w:bX)(t n:Int)(d:-9000000000≤t)(f:t≤9000000000)(g:-9000000000≤n)(h:n≤9000000000):
  b5 prog 70 #[I J t,I J n] w fun e w'=>e=.returned (I J (afterI t n))∧w=w':=by
 have e:IntKind.i64.wrap (t+n)=t+n:=by rw[b1];omega
 by_cases a:n=0
 ·have c:(n==0)=true:=by simp[a]
  have b:Hq (afterI t n=-1):=by show afterI t n=-1;rw[afterI,if_pos a]
  clear a;go_enter func70,ntmps70;go_wp2_with fail;go_ret;rw[b.o];exact⟨rfl,rfl⟩
 ·have c:(n==0)=false:=by simp[a]
  have b:Hq (afterI t n=t+n):=by show afterI t n=t+n;rw[afterI,if_neg a]
  clear a;go_enter func70,ntmps70;go_wp2_with fail;go_ret;rw[b.o];exact⟨rfl,rfl⟩
def Nx{α:Type}{f:Nat→α→α}{k:Nat}{l:List α}(h:k<l.length)(e:f k l[k]=l[k]):upTo f (k+1) l=upTo f k l:=by
 rw[←If h,e,←GX (f:=f) h,List.set_getElem_self]
def getD_eq{α:Type}{l:List α}{k:Nat}{d:α}(h:k<l.length):l.getD k d=l[k]:=by rw[List.getD_eq_getElem?_getD,List.getElem?_eq_getElem h];rfl
def O4(now:Int):∀ (l m:List BA) (i:Nat),C7 now i (l++m)=C7 now i l++C7 now (i+l.length) m
 | [],m,i=>by simp[C7]
 |x::l,m,i=>by
  simp only[List.cons_append,C7,b8,O4 now l m (i+1),List.append_assoc];rw[show i+1+l.length=i+(l.length+1) by omega]
def Us{now:Int}{l:List BA}{k:Nat}(h:k<l.length):C7 now 0 (l.take (k+1))=C7 now 0 (l.take k)++(if GP now l[k] then [⟨(k:Int),1,0⟩] else []):=by
 rw[List.take_succ_eq_append_getElem h,O4];simp only[C7,bW,Nat.zero_add,List.length_take,Nat.min_eq_left (Nat.le_of_lt h)]
def KH(now:Int):∀ (l:List BA) (i:Nat),(C7 now i l).length≤l.length
 | [],_=>b0 _
 |x::l,i=>by
  have:=KH now l (i+1);simp only[C7,bS,b8];split<;>simp<;>omega
def Mg:EG 70:=fun _ _=>by kernel_rfl
def Yz(w:bX)(D:Nat→Prop)(g:Nat)(d:Ad)(i:Hd)(s:Ae)(now:Int)(h:PA w D g d i s)(ok:Ah d s)(br:0≤now)(bs:now≤4294967296):
  b5 prog 43 #[G (Z ⟨g,0,O⟩),I J now] w fun e w'=>e=.returned (.tuple #[])∧PA w' D g d i (Dl d now s)∧Upd (Mut g i) w w':=by
 obtain⟨OK,H⟩:=H2 ok h;have h6:s.procs.length≤6:=by have:=ok.procs;have:=ok.ok.procs;omega
 have a2:d.procs.length=s.procs.length:=ok.procs.symm;have a5:=HH a2;have cg:w.cell? ⟨g,10,O⟩=Z (Y i.pr.a s.procs.length i.pr.c):=h.cell 10;clear ok h a2;go_enter func43,ntmps43;go_wp2_with fail;clear cg
 go_loopw [4,5,12] (fun _ _ v wr=>∃ k:Nat,k≤s.procs.length∧v=I J k∧Hq (PA wr D g d i {s with procs:=upTo (Dg d now) k s.procs}∧Upd (Mut g i) w wr)) (fun _ _ v _=>s.procs.length-(bL v).toNat)
 case atStart=>exact⟨0,bI _,rfl,by rw[IC];exact H.o,Upd.refl _ _⟩
 case round=>
  obtain⟨k,bo,rfl,A⟩:=hrel;by_cases q:k<s.procs.length
  ·have bq:(k:Int)<(s.procs.length:Int):=by omega
   obtain⟨C,hu⟩:=A.o;have an:k<(upTo (Dg d now) k s.procs).length:=by rw[upTo_len];exact q
   have cg:=C.FC (by show 0<(upTo (Dg d now) k s.procs).length;omega);have cap:=C.pr.cap;simp only[upTo_len] at cg cap;obtain⟨R,S,r2,r3,l,y0,y1,y2,y3,y4,y5,y6,y7,y8,y9,aE,aF⟩:=C.Jl an;have eg:=GX (f:=Dg d now) q;simp only[eg] at y0 y1 y2 y3 y4 y5 y6 y7 y8 y9 aE aF l;have hx:=OK.o.pr _ (af q);obtain⟨x,ex⟩:∃ x,x=s.procs[k]:=⟨_,rfl⟩;have aT:=HH ex;rw[←ex] at y0 y8 aE hx;obtain⟨bu,bw⟩:=hx.release;have az:Dg d now k s.procs[k]=if x.status=3∧x.why=14∧x.release≤now then {readyR now x with deadline:=afterI x.release (d.procs.getD k default).Cf,release:=x.release+(d.procs.getD k default).period} else x:=by rw[←ex];rfl
   obtain⟨aU,E⟩:=H2 az (show PA wr D g d i {s with procs:=upTo (Dg d now) k s.procs}∧Upd (Mut g i) w wr from⟨C,hu⟩);by_cases u:x.status=3∧x.why=14∧x.release≤now
   ·have aQ:=HH u;obtain⟨n,t,bg⟩:=u;have aw:(x.status==3)=true:=by simp[n]
    have av:(x.why==14)=true:=by simp[t]
    have HC:=HH (Qk wr D g d i _ k now C an (by show(upTo (Dg d now) k s.procs).length≤6;rw[upTo_len];exact h6));clear C hu eg l y1 y2 y3 y4 y5 y6 y7 y9 aF az A ex n t hx an;go_wp2_with fail;refine HC.o.mono ?_;rintro e w2 ⟨rfl,N,u2⟩;have er:En k now {s with procs:=upTo (Dg d now) k s.procs}={s with procs:=(upTo (Dg d now) k s.procs).set k (readyR now x)}:=by
     simp only[En];rw[getD_eq (by rw[upTo_len];exact q),GX q,aT.o]
    rw[er] at N;clear er cg cap y0 y8 aE aw av;have am:k<d.procs.length:=by rw[a5.o];exact q
    have bp:(k:Int)<(d.procs.length:Int):=by omega
    have cd:=N.GW (by omega);have bm:=N.Ay.cap;have bh:=N.Ay.lt;obtain⟨nm,bl,X,_⟩:=N.Ay.el k am;have d2:w2.cell? ⟨i.Ay.b,k*5+2,O⟩=Z (I J d.procs[k].period):=X 2 _ rfl;have d3:w2.cell? ⟨i.Ay.b,k*5+3,O⟩=Z (I J d.procs[k].Cf):=X 3 _ rfl;have B:∀ y,k<((upTo (Dg d now) k s.procs).set k y).length:=fun y=>by rw[bK,upTo_len];exact q
    have ay:=OK.o.ok.pc _ (af am);obtain⟨be,bf⟩:=ay.Cf;obtain⟨bi,bj⟩:=ay.period;have ah:Hq ((d.procs.getD k default).Cf=d.procs[k].Cf∧(d.procs.getD k default).period=d.procs[k].period):=by
     rw[getD_eq am];exact⟨rfl,rfl⟩
    have aV:Hq (IntKind.i64.wrap (x.release+d.procs[k].period)=x.release+d.procs[k].period):=by show IntKind.i64.wrap _=_;rw[b1];omega
    have aO:Hq (∀ W,b5 prog 70 #[I J x.release,I J d.procs[k].Cf] W fun e w'=>e=.returned (I J (afterI x.release d.procs[k].Cf))∧W=w'):=fun W=>LO W _ _ (by omega) (by omega) (by omega) (by omega);obtain⟨Q,a7,aR⟩:=H3 N u2 d3;have aS:Hq (∀ W D s,PA W D g d i s→W.cell? ⟨i.Ay.b,k*5+2,O⟩=Z (I J d.procs[k].period)):=fun W D s h=>by
     obtain⟨nm,bl,X,_⟩:=h.Ay.el k am;exact X 2 _ rfl
    obtain⟨pk,aY⟩:∃ z,z=d.procs[k].period:=⟨_,rfl⟩;obtain⟨r,aX⟩:∃ z,z=d.procs[k].Cf:=⟨_,rfl⟩;rw[←aY] at aV ah aS;rw[←aX] at aO aR ah;clear N u2 X ay HC d2 d3 cd be bf bi bj aY aX bh;have ac:=Q.o.pr.lt;have ab:=Q.o.lt;have aa:=Q.o.Ay.lt;obtain⟨R,S,r2,r3,l,j⟩:=Q.o.pr.el k (B _);simp only[aB] at l j;have z8:w2.cell? ⟨i.pr.b,k*12+8,O⟩=Z (I J x.release):=j 8 _ rfl;have q8:=qC z8 ac;have qg:=qC (Q.o.GW (by omega)) ab;have q3:=qC aR.o aa;clear l j z8;go_upto_region 6 with (fail);refine AS 18 [17] [] [(14,fun v _=>v=I J (afterI x.release r))] ⟨Ch,trivial⟩ ?_
    iterate 14 (refine An rfl rfl rfl ?_;intro K hK;go_big_quiet_op;go_big_quiet_on)
    refine A9 rfl rfl (fun w' hb hA=>?_) ?_
    ·refine AD (f:=70) (al:=[I J x.release,I J r]) rfl rfl rfl Mg ?_;exact(aO.o w').mono fun e w2 h=>⟨_,h.1,h.2 ▸ ⟨ca _ _,rfl⟩⟩
    intro v w' hb hv;obtain rfl:=hv;clear hb w';simp only[Au,bY,b4,b2]
    iterate 2 (refine An rfl rfl rfl ?_;intro K hK;go_big_quiet_op;go_big_quiet_on)
    refine AH rfl ?_;refine AR ?_;intro P L aA;have p:=Q.o.below L;obtain⟨R,S,r2,r3,l,j⟩:=p.pr.el k (B _);simp only[aB] at l j;have zz:P.cell? ⟨i.pr.b,k*12+9,O⟩=Z _:=j 9 _ rfl;have V:P.frozen? ⟨i.pr.b,k*12+9,O⟩=false:=p.pr.frozen (b6 (bI _) (B (readyR now x))) _;have M:=p.FY (B _) [(9,I J (afterI x.release r))] rfl j (x:={readyR now x with deadline:=afterI x.release r}) fun w' ax bc=>⟨R,S,r2,r3,l,ax⟩;obtain⟨W3,aj⟩:∃ W:bX,W=P.setCell ⟨i.pr.b,k*12+9,O⟩ (I J (afterI x.release r)):=⟨_,rfl⟩;refine AI (w':=W3) (by rw[aj];simp[execOp,go_sem,zz,V]) ?_;unfold A7;have m:=M.1;simp only[bT] at m;have F:Hq (PA W3 D g d i {s with procs:=(upTo (Dg d now) k s.procs).set k ({readyR now x with deadline:=afterI x.release r})}):=by rw[aj];exact m
    have a8:Hq (Upd (Mut g i) w2 W3):=by rw[aj];exact(Upd.below L).trans M.2
    clear aj M m j l zz V p L aA q8 qg q3 ac ab aa;have bt:=aV.o;have ac:=F.o.pr.lt;have ab:=F.o.lt;have aa:=F.o.Ay.lt;obtain⟨R,S,r2,r3,l,j⟩:=F.o.pr.el k (B _);simp only[aB] at l j;have z8:W3.cell? ⟨i.pr.b,k*12+8,O⟩=Z (I J x.release):=j 8 _ rfl;have q8:=qC z8 ac;have qg:=qC (F.o.GW (by omega)) ab;have q2:=qC (aS.o _ _ _ F.o) aa;clear l j z8;go_upto_region 7 with (fail);refine AS 17 [16] [] [] trivial ?_
    iterate 16 (refine An rfl rfl rfl ?_;intro K hK;go_big_quiet_op;go_big_quiet_on)
    refine AH rfl ?_;refine AR ?_;intro P L aA;have p:=F.o.below L;obtain⟨R,S,r2,r3,l,j⟩:=p.pr.el k (B _);simp only[aB] at l j;have zz:P.cell? ⟨i.pr.b,k*12+8,O⟩=Z _:=j 8 _ rfl;have V:P.frozen? ⟨i.pr.b,k*12+8,O⟩=false:=p.pr.frozen (b6 (bI _) (B ({readyR now x with deadline:=afterI x.release r}))) _;have M:=p.FY (B _) [(8,I J (x.release+pk))] rfl j (x:={readyR now x with deadline:=afterI x.release r,release:=x.release+pk}) fun w' ax bc=>⟨R,S,r2,r3,l,ax⟩;obtain⟨W4,ak⟩:∃ W:bX,W=P.setCell ⟨i.pr.b,k*12+8,O⟩ (I J (x.release+pk)):=⟨_,rfl⟩;refine AI (w':=W4) (by rw[ak];simp[execOp,go_sem,zz,V]) ?_;unfold A7;have m:=M.1;simp only[bT] at m;have a6:Hq (PA W4 D g d i {s with procs:=(upTo (Dg d now) k s.procs).set k ({readyR now x with deadline:=afterI x.release r,release:=x.release+pk})}):=by rw[ak];exact m
    have a9:Hq (Upd (Mut g i) W3 W4):=by rw[ak];exact(Upd.below L).trans M.2
    clear ak M m j l zz V p L aA q8 qg q2 ac ab aa;go_wp2_with fail
    go_roundw
    case rel=>
     obtain⟨C,hu⟩:=E.o;have et:=If (f:=Dg d now) q;rw[aU.o,if_pos aQ.o,ah.o.1,ah.o.2] at et;have m:=a6.o;rw[et] at m;exact⟨k+1,by omega,by go_num,m,((hu.trans a7.o).trans a8.o).trans a9.o⟩
    case measure=>simp[bL];omega
   ·have aQ:=HH u;have a3:upTo (Dg d now) (k+1) s.procs=upTo (Dg d now) k s.procs:=Nx q (by rw[aU.o,if_neg u,aT.o]);have aq:=HH a3;clear C hu eg l y1 y2 y3 y4 y5 y6 y7 y9 aF az A ex hx an a3;by_cases n:x.status=3
    ·have aw:(x.status==3)=true:=by simp[n]
     by_cases t:x.why=14
     ·have av:(x.why==14)=true:=by simp[t]
      have bg:¬x.release≤now:=fun hl=>u ⟨n,t,hl⟩;clear n t u;go_wp2_with fail
      go_roundw
      case rel=>exact⟨k+1,by omega,by go_num,by rw[aq.o];exact E.o.1,E.o.2⟩
      case measure=>simp[bL];omega
     ·have av:(x.why==14)=false:=by simp[t]
      clear n t u;go_wp2_with fail
      go_roundw
      case rel=>exact⟨k+1,by omega,by go_num,by rw[aq.o];exact E.o.1,E.o.2⟩
      case measure=>simp[bL];omega
    ·have aw:(x.status==3)=false:=by simp[n]
     clear n u;go_wp2_with fail
     go_roundw
     case rel=>exact⟨k+1,by omega,by go_num,by rw[aq.o];exact E.o.1,E.o.2⟩
     case measure=>simp[bL];omega
  ·obtain rfl:k=s.procs.length:=by omega
   have HE:Hq (PA wr D g d i (Dl d now s)∧Upd (Mut g i) w wr):=by
    have:=A.o;rw[IB] at this;exact this
   clear A;go_wp2_with fail
   go_end0
   exact⟨rfl,HE.o⟩
def WJ(w:bX)(D:Nat→Prop)(g:Nat)(d:Ad)(i:Hd)(s:Ae)(now:Int)(h:PA w D g d i s)(ok:Ah d s)(hD:∀ b,D b→b<w.heap.size)(aX:0≤now)(aY:now≤4294967296):
  b5 prog 44 #[G (Z ⟨g,0,O⟩),I J now] w fun e w'=>∃ v,e=.returned v∧BF w' w.heap.size v (CP now s).2∧PA w' D g d i (CP now s).1∧Upd (Mut g i) w w':=by
 obtain⟨OK,H,aC⟩:=H3 ok h hD;have ao:=HH h.K8;have h6:s.procs.length≤6:=by have:=ok.procs;have:=ok.ok.procs;omega
 have cg:w.cell? ⟨g,10,O⟩=Z (Y i.pr.a s.procs.length i.pr.c):=h.cell 10;clear ok h hD;go_enter func44,ntmps44;go_wp2_with fail;clear cg
 go_loopw [4,5,6,13] (fun vo _ _ v wr=>∃ k:Nat,k≤s.procs.length∧v=I J k∧∃ a c,vo=Y a (C7 now 0 (s.procs.take k)).length c∧Hq (BF wr w.heap.size (Y a (C7 now 0 (s.procs.take k)).length c) (C7 now 0 (s.procs.take k))∧PA wr D g d i {s with procs:=upTo (fun _=>CK now) k s.procs}∧Upd (Mut g i) w wr)) (fun _ _ _ v _=>s.procs.length-(bL v).toNat)
 case atStart=>exact⟨0,bI _,rfl,O,0,rfl,BF.nil _ _,by rw[IC];exact H.o,Upd.refl _ _⟩
 case round=>
  obtain⟨k,aV,rfl,a,c,rfl,A⟩:=hrel;by_cases B:k<s.procs.length
  ·have aW:(k:Int)<(s.procs.length:Int):=by omega
   obtain⟨F,m,C⟩:=A.o;have p:k<(upTo (fun _=>CK now) k s.procs).length:=by rw[upTo_len];exact B
   have cg:=m.FC (by show 0<(upTo (fun _=>CK now) k s.procs).length;omega);have cap:=m.pr.cap;simp only[upTo_len] at cg cap;obtain⟨r0,r1,r2,r3,K,M,N,R,S,V,X,y6,y7,y8,y9,P,Q⟩:=m.Jl p;have E:=GX (f:=(fun _=>CK now)) B;simp only[E] at M N R S V X y6 y7 y8 y9 P Q K;obtain⟨x,ex⟩:∃ x,x=s.procs[k]:=⟨_,rfl⟩;rw[←ex] at y9;have j:=Us (now:=now) B;rw[←ex] at j;have g9:wr.frozen? ⟨i.pr.b,k*12+9,O⟩=false:=m.pr.frozen (by show 0<(upTo (fun _=>CK now) k s.procs).length;omega) _;obtain⟨HA,aM⟩:=H2 (show BF wr w.heap.size (Y a (C7 now 0 (s.procs.take k)).length c) (C7 now 0 (s.procs.take k))∧PA wr D g d i {s with procs:=upTo (fun _=>CK now) k s.procs}∧Upd (Mut g i) w wr from⟨F,m,C⟩) ex;have aT:(C7 now 0 (s.procs.take k)).length≤k:=bJ (KH _ _ _) (by simp;omega);by_cases aw:0≤x.deadline
   ·by_cases ax:x.deadline≤now
    ·have l:GP now x=true:=by simp[GP,aw,ax]
     rw[l,if_pos rfl] at j;obtain⟨r,aO⟩:=H2 j l;have aN:Hq (s.procs[k].s.AG=[r0,r1,r2,r3]):=K;obtain⟨n,u⟩:∃ n:bX,n=wr.setCell ⟨i.pr.b,k*12+9,O⟩ (I J (-1)):=⟨_,rfl⟩;have am:n.heap.size=wr.heap.size:=by rw[u];simp[World.setCell]
     have hs:=m.FY p [(9,I J (-1))] rfl (m.pr.el k p).choose_spec.choose_spec.choose_spec.choose_spec.2 (x:={x with deadline:=-1}) fun w' av aU=>by
      have hq:=(m.pr.el k p).choose_spec.choose_spec.choose_spec.choose_spec.1;simp only[E,←ex] at hq av;exact⟨_,_,_,_,hq,av⟩
     have al:=hs.1;have et:=If (f:=(fun _=>CK now)) B;rw[show CK now s.procs[k]={x with deadline:=-1} by rw[←ex,CK,if_pos l]] at et;simp only[et] at al;have ai:BF n w.heap.size (Y a (C7 now 0 (s.procs.take k)).length c) (C7 now 0 (s.procs.take k)):=F.Ag fun b y _=>by
      rw[u];exact Below.heap_setCell _ _ _ _ (fun e=>by have h1:=ao.o i.pr.b (by simp[AL]);have h2:b=i.pr.b:=e;omega)
     have aq:w.heap.size≤n.heap.size:=by rw[am];exact C.size
     obtain⟨a2,c2,L,aj,az,z⟩:=BF.snoc (x:=⟨(k:Int),1,0⟩) (W:=n.alloc (T #[I J k,I U 1,I J 0] 76)) (ai.Ag fun b _ y=>b7 _ _ _ y) (by simp;omega) (by omega) (q:=wr.heap.size) (by rw[←am];exact heap_alloc_new _ _) 41;have ay:=fun b=>BF.low (b:=b) ai;have au:PA n D g d i {s with procs:=upTo (fun _=>CK now) (k+1) s.procs}:=by rw[u];exact al
     have t:Upd (Mut g i) w n:=by rw[u];exact C.trans hs.2
     have aI:n.heap.size+1≤L.heap.size:=by have:=z.size;simpa using this
     have ah:∀ b,b<w.heap.size→L.heap[b]? =n.heap[b]?:=fun b y=>(z.block b (by simp;omega) (fun e=>by have:=ay b e.symm;omega)).trans (b7 _ _ _ (by omega));have aE:Hq (BF L w.heap.size (Y a2 (C7 now 0 (s.procs.take (k+1))).length c2) (C7 now 0 (s.procs.take (k+1)))∧PA L D g d i {s with procs:=upTo (fun _=>CK now) (k+1) s.procs}∧Upd (Mut g i) w L):=by
      refine⟨?_,au.agree aq (by omega) aC.o ao.o ah,?_⟩
      ·rw[j,bS];exact az
      ·exact⟨(z.os).trans t.os,(z.tape).trans t.tape,(z.output).trans t.output,by have:=t.size;omega,fun b y hn=>(ah b y).trans (t.block b y hn)⟩
     have aF:Hq ((C7 now 0 (s.procs.take (k+1))).length=(C7 now 0 (s.procs.take k)).length+1):=by rw[j,bS];rfl
     rw[u] at aj;have aG:=HH aj;clear m C F E K M N R S V X y6 y7 y8 P Q A ex p hs al et ai ay au t ah z az j l am aI aq u aj;go_wp2_with (at_builtin;refine Lib.wpList_append_run _ rfl _ _ _ _ rfl _ _ rfl rfl _ _ aG.o ?_)
     go_roundw
     case rel=>exact⟨k+1,by omega,by go_num,a2,c2,by rw[aF.o],aE.o⟩
     case measure=>simp[bL];omega
    ·have l:GP now x=false:=by simp[GP,ax]
     rw[l] at j;simp only[bM,if_false,bW] at j;obtain⟨r,ad⟩:=H2 j (Nx (f:=(fun _=>CK now)) B (by rw[←ex,CK,l];rfl));clear m C F E K M N R S V X y6 y7 y8 P Q A ex p j l;go_wp2_with fail
     go_roundw
     case rel=>exact⟨k+1,by omega,by go_num,a,c,by rw[r.o],by rw[r.o,ad.o];exact HA.o⟩
     case measure=>simp[bL];omega
   ·have l:GP now x=false:=by simp[GP,aw]
    rw[l] at j;simp only[bM,if_false,bW] at j;obtain⟨r,ad⟩:=H2 j (Nx (f:=(fun _=>CK now)) B (by rw[←ex,CK,l];rfl));clear m C F E K M N R S V X y6 y7 y8 P Q A ex p j l;go_wp2_with fail
    go_roundw
    case rel=>exact⟨k+1,by omega,by go_num,a,c,by rw[r.o],by rw[r.o,ad.o];exact HA.o⟩
    case measure=>simp[bL];omega
  ·obtain rfl:k=s.procs.length:=by omega
   have HE:Hq (BF wr w.heap.size (Y a (C7 now 0 (s.procs.take s.procs.length)).length c) (CP now s).2∧PA wr D g d i (CP now s).1∧Upd (Mut g i) w wr):=by
    have:=A.o;rw[IB,Je] at this;refine⟨?_,this.2⟩;have h1:=this.1;rw[List.take_length] at h1 ⊢;exact h1
   clear A;go_wp2_with fail;go_ret;exact⟨_,rfl,HE.o⟩
section
variable {d:Ad} {s:Ae} {i:Nat} {now:Int} {a:Ac}
def Z3{c:Int}{l:List Wt}{p r:Int}{x:Wt}(h:x∈(Eb c l p r).2.1):x∈l∨(x.proc=p∧(Eb c l p r).2.2.1=false):=by
 unfold Eb at h ⊢;split at h
 ·exact .inl h
 ·rename_i b;rw[if_neg b];split at h
  ·exact .inl h
  ·rename_i e;rw[if_neg e];rcases Jg.1 h with rfl|h
   ·exact .inr ⟨rfl,rfl⟩
   ·exact .inl h
def Zg{u:Bool}{l:List Wt}{p r:Int}{x:Wt}(h:x∈(Es u l p r).1):x∈l∨(x.proc=p∧(Es u l p r).2.1=false):=by
 unfold Es at h ⊢;split at h
 ·exact .inl h
 ·rename_i b;rw[if_neg b];split at h
  ·exact .inl h
  ·rename_i c;rw[if_neg c];rcases Jg.1 h with rfl|h
   ·exact .inr ⟨rfl,rfl⟩
   ·exact .inl h
def Xj{b:Bool}{v:Int}{l:List Wt}{p r:Int}{x:Wt}(h:x∈(lookBd b v l p r).1):x∈l∨(x.proc=p∧(lookBd b v l p r).2.2.1=false):=by
 unfold lookBd at h ⊢;split at h
 ·exact .inl h
 ·rename_i c;rw[if_neg c];split at h
  ·exact .inl h
  ·rename_i e;rw[if_neg e];rcases Jg.1 h with rfl|h
   ·exact .inr ⟨rfl,rfl⟩
   ·exact .inl h
def Yv{k z d r:Int}{q:List (List Int)}{l:List Wt}{n p u:Int}{x:Wt}(h:x∈(recvQ k z d r q l n p u).2.1):x∈l∨(x.proc=p∧(recvQ k z d r q l n p u).2.2.2.1=false):=by
 unfold recvQ at h ⊢;split at h
 ·exact .inl h
 ·rename_i b;rw[if_neg b];cases q with
  |nil=>
   rcases Jg.1 h with rfl|h
   ·exact .inr ⟨rfl,rfl⟩
   ·exact .inl h
  |cons y t=>exact .inl h
def Qr{k z d r:Int}{q:List (List Int)}{l:List Wt}{n:Int}{m:List Int}{x:Wt}(h:x∈(sendQ k z d r q l n m).2.1):x∈l:=by
 unfold sendQ at h;split at h
 ·exact h
 ·split at h
  ·exact h
  ·cases l with
   |nil=>
    simp only[] at h;split at h<;>cases h
   |cons y t=>exact bB _ h
def YK{k z d r:Int}{q:List (List Int)}{l:List Wt}{n:Int}{m:List Int}(b:0≤(sendQ k z d r q l n m).2.2.2.1):∃ y t,l=y::t∧(sendQ k z d r q l n m).2.1=t∧(sendQ k z d r q l n m).2.2.2.1=y.proc:=by
 unfold sendQ at b ⊢;split at b
 ·simp at b
 ·rename_i c;rw[if_neg c];split at b
  ·simp at b
  ·rename_i e;rw[if_neg e];cases l with
   |nil=>
    simp only[] at b;split at b<;>simp at b
   |cons y t=>exact⟨y,t,rfl,rfl,rfl⟩
def Qw{c:Int}{l:List Wt}{x:Wt}(h:x∈(Dm c l).2.1):x∈l:=by
 unfold Dm at h;split at h
 ·exact h
 ·cases l with
  |nil=>
   simp only[] at h;split at h<;>cases h
  |cons y t=>exact bB _ h
def Nn{c:Int}{l:List Wt}(b:0≤(Dm c l).2.2.1):∃ y t,l=y::t∧(Dm c l).2.1=t∧(Dm c l).2.2.1=y.proc:=by
 unfold Dm at b ⊢;split at b
 ·simp at b
 ·rename_i e;rw[if_neg e];cases l with
  |nil=>
   simp only[] at b;split at b<;>simp at b
  |cons y t=>exact⟨y,t,rfl,rfl,rfl⟩
def Yq{u:Bool}{l:List Wt}{x:Wt}(h:x∈(DC u l).2.1):x∈l∧(DC u l).2.2.1=[]:=by
 unfold DC at h ⊢;split at h
 ·rename_i b;rw[if_pos b];exact⟨h,rfl⟩
 ·cases h
def Qd{u:Bool}{l:List Wt}{z:Int}(h:z∈(DC u l).2.2.1):∃ y∈l,y.proc=z:=by
 unfold DC at h;split at h
 ·cases h
 ·exact bP.1 h
def YR{b:Bool}{v c:Int}{l:List Wt}{x:Wt}(h:x∈(Dh b v l c).2.2.1):x∈l∧(Dh b v l c).2.2.2.1=[]:=by
 unfold Dh at h ⊢;split at h
 ·rename_i e;rw[if_pos e];exact⟨h,rfl⟩
 ·cases h
def Qv{b:Bool}{v c:Int}{l:List Wt}{z:Int}(h:z∈(Dh b v l c).2.2.2.1):∃ y∈l,y.proc=z:=by
 unfold Dh at h;split at h
 ·cases h
 ·exact bP.1 h
def MZ{n:Int}{q:List Int}{p g:List Wt}{i r v:Int}{x:Wt}:
  (x∈(Cb n q p g i r v).2.1→x∈p∨(x.proc=i∧(Cb n q p g i r v).2.2.2.1=false))∧(x∈(Cb n q p g i r v).2.2.1→x∈g):=by
 unfold Cb;split
 ·exact⟨.inl,id⟩
 ·cases g with
  |cons y t=>exact⟨.inl,bB _⟩
  |nil=>
   simp only[];split
   ·exact⟨.inl,id⟩
   ·refine⟨fun h=>?_,id⟩;rcases Jg.1 h with rfl|h
    ·exact .inr ⟨rfl,rfl⟩
    ·exact .inl h
def Kj{n:Int}{q:List Int}{p g:List Wt}{i r v:Int}(b:0≤(Cb n q p g i r v).2.2.2.2.1):∃ y t,g=y::t∧(Cb n q p g i r v).2.2.1=t∧(Cb n q p g i r v).2.1=p∧(Cb n q p g i r v).2.2.2.2.1=y.proc∧(Cb n q p g i r v).2.2.2.1=true:=by
 unfold Cb at b ⊢;split at b
 ·simp at b
 ·rename_i c;rw[if_neg c];cases g with
  |cons y t=>exact⟨y,t,rfl,rfl,rfl,rfl,rfl⟩
  |nil=>
   simp only[] at b;split at b<;>simp at b
def Mq{n:Int}{q:List Int}{p g:List Wt}{i r:Int}{x:Wt}:
  (x∈(getBu n q p g i r).2.1→x∈p)∧(x∈(getBu n q p g i r).2.2.1→x∈g∨(x.proc=i∧(getBu n q p g i r).2.2.2.2.1=false)):=by
 unfold getBu;split
 ·exact⟨id,.inl⟩
 ·cases q with
  |nil=>
   refine⟨id,fun h=>?_⟩;rcases Jg.1 h with rfl|h
   ·exact .inr ⟨rfl,rfl⟩
   ·exact .inl h
  |cons y t=>
   cases p with
   |nil=>exact⟨id,.inl⟩
   |cons z u=>exact⟨bB _,.inl⟩
def Ka{n:Int}{q:List Int}{p g:List Wt}{i r:Int}(b:0≤(getBu n q p g i r).2.2.2.2.2.1):∃ y t,p=y::t∧(getBu n q p g i r).2.1=t∧(getBu n q p g i r).2.2.1=g∧(getBu n q p g i r).2.2.2.2.2.1=y.proc∧(getBu n q p g i r).2.2.2.2.1=true:=by
 unfold getBu at b ⊢;split at b
 ·simp at b
 ·rename_i c;rw[if_neg c];cases q with
  |nil=>simp at b
  |cons y t=>
   cases p with
   |nil=>simp at b
   |cons z u=>exact⟨z,u,rfl,rfl,rfl,rfl,rfl⟩
end
structure AE(i:Nat)(a:Ac)(s r:Ae)(go:Bool):Prop where
 inv:Inv (if go then r else {r with procs:=r.procs.set i (waitR a (r.procs.getD i default))})
 oth:∀ k,k<s.procs.length→k≠i→∃ m,Wk (s.procs.getD k default) (r.procs.getD k default) m∧(m=true→(s.procs.getD k default).status=3)
 own:((r.procs.getD i default).s.pc=(s.procs.getD i default).s.pc∧((r.procs.getD i default).deadline=(s.procs.getD i default).deadline∨(r.procs.getD i default).deadline=-1)∧(r.procs.getD i default).status=(s.procs.getD i default).status)∨r.procs.getD i default=EU
 len:r.procs.length=s.procs.length
 mem:r.mem=s.mem∨(a.kind=1∧∃ j v,r.mem=s.mem.set j v)
 clk:r.clock=s.clock
 md:r.mode=s.mode
 bv:(∀ x∈s.boards,0≤x.val∧x.val≤255)→∀ x∈r.boards,0≤x.val∧x.val≤255
section
variable {d:Ad} {s s0 r:Ae} {i k0:Nat} {now:Int} {a:Ac} {data l:List Int} {go:Bool}
def Pu(f:k0<s.semas.length)(v:BU)(kind:Int)(k:Nat)(x:Wt)(h:x∈AF {s with semas:=s.semas.set k0 v} kind k):(¬(kind=4∧k=k0)∧x∈AF s kind k)∨(kind=4∧k=k0∧x∈v.wait):=by
 by_cases b:kind=4∧k=k0
 ·obtain⟨rfl,rfl⟩:=b;unfold AF at h;simp only[bQ,if_false,if_true,Cv,f,and_self] at h;exact .inr ⟨rfl,rfl,h⟩
 ·rcases Xh v kind k x h with h|⟨c,e,_⟩
  ·exact .inl ⟨b,h⟩
  ·exact absurd ⟨c,e.symm⟩ b
def MF(f:k0<s.events.length)(v:C3)(kind:Int)(k:Nat)(x:Wt)(h:x∈AF {s with events:=s.events.set k0 v} kind k):(¬(kind=8∧k=k0)∧x∈AF s kind k)∨(kind=8∧k=k0∧x∈v.wait):=by
 by_cases b:kind=8∧k=k0
 ·obtain⟨rfl,rfl⟩:=b;unfold AF at h;simp only[bQ,if_false,if_true,Cv,f,and_self] at h;exact .inr ⟨rfl,rfl,h⟩
 ·rcases Xe v kind k x h with h|⟨c,e,_⟩
  ·exact .inl ⟨b,h⟩
  ·exact absurd ⟨c,e.symm⟩ b
def ME(f:k0<s.boards.length)(v:BE)(kind:Int)(k:Nat)(x:Wt)(h:x∈AF {s with boards:=s.boards.set k0 v} kind k):(¬(kind=12∧k=k0)∧x∈AF s kind k)∨(kind=12∧k=k0∧x∈v.wait):=by
 by_cases b:kind=12∧k=k0
 ·obtain⟨rfl,rfl⟩:=b;unfold AF at h;simp only[bQ,if_false,if_true,Cv,f,and_self] at h;exact .inr ⟨rfl,rfl,h⟩
 ·rcases Xc v kind k x h with h|⟨c,e,_⟩
  ·exact .inl ⟨b,h⟩
  ·exact absurd ⟨c,e.symm⟩ b
def La(f:k0<s.queues.length)(v:AO)(kind:Int)(k:Nat)(x:Wt)(h:x∈AF {s with queues:=s.queues.set k0 v} kind k):(¬(kind=3∧k=k0)∧x∈AF s kind k)∨(kind=3∧k=k0∧x∈v.wait):=by
 by_cases b:kind=3∧k=k0
 ·obtain⟨rfl,rfl⟩:=b;unfold AF at h;simp only[if_true,Cv,f,and_self] at h;exact .inr ⟨rfl,rfl,h⟩
 ·rcases Xg v kind k x h with h|⟨c,e,_⟩
  ·exact .inl ⟨b,h⟩
  ·exact absurd ⟨c,e.symm⟩ b
def Ps(f:k0<s.bufs.length)(v:AT)(kind:Int)(k:Nat)(x:Wt)(h:x∈AF {s with bufs:=s.bufs.set k0 v} kind k):(¬((kind=9∨kind=10)∧k=k0)∧x∈AF s kind k)∨(kind=9∧k=k0∧x∈v.put)∨(kind=10∧k=k0∧x∈v.get):=by
 by_cases b:(kind=9∨kind=10)∧k=k0
 ·obtain⟨rfl|rfl,rfl⟩:=b
  ·unfold AF at h;simp only[bQ,if_false,if_true,Cv,f,and_self] at h;exact .inr (.inl ⟨rfl,rfl,h⟩)
  ·unfold AF at h;simp only[bQ,if_false,if_true,Cv,f,and_self] at h;exact .inr (.inr ⟨rfl,rfl,h⟩)
 ·rcases Xd v kind k x h with h|⟨c,e,_⟩|⟨c,e,_⟩
  ·exact .inl ⟨b,h⟩
  ·exact absurd ⟨.inl c,e.symm⟩ b
  ·exact absurd ⟨.inr c,e.symm⟩ b
def Z8(b:∀ z∈l,z<0):wakeP d now data l s=s:=by
 induction l generalizing s with
 |nil=>rfl
 |cons z l f=>
  show wakeP d now data l (CT d now data s z)=s;have c:CT d now data s z=s:=by
   unfold CT;rw[if_neg (by have:=b z (List.mem_cons_self ..);omega)]
  rw[c];exact f fun y e=>b y (bB _ e)
def AE.wk(h:Inv s)(n:(s.procs.getD i default).status≠3)(q:i<s.procs.length)(f:s0.procs=s.procs)(e:s0.mem=s.mem)(B:s0.clock=s.clock)(E:s0.mode=s.mode)(A:(∀ x∈s.boards,0≤x.val∧x.val≤255)→∀ x∈s0.boards,0≤x.val∧x.val≤255)
  (u:∀ kind k x,x∈AF s0 kind k→(x∈AF s kind k∧x.proc∉l)∨(x.proc=(i:Int)∧go=false∧a.kind=kind∧a.a=(k:Int)))
  (H:∀ z∈l,0≤z→∃ kind k x,x∈AF s kind k∧x.proc=z) (C:go=false→∀ z∈l,z<0):AE i a s (wakeP d now data l s0) go:=by
 obtain⟨P,j⟩:=Kx (d:=d) (t:=now) (data:=data) l s0;have v:∀ z∈l,0≤z→(s.procs.getD z.toNat default).status=3:=fun z K w=>by
  obtain⟨kind,k,x,g,rfl⟩:=H z K w;exact(h kind k x g).2.1
 have D:(i:Int)∉l:=fun e=>n (by
  have:=v _ e (by omega);simpa using this)
 have o:∀ k,k<s.procs.length→Wk (s.procs.getD k default) ((wakeP d now data l s0).procs.getD k default) (decide ((k:Int)∈l)):=fun k m=>by
  have:=Kw (d:=d) (t:=now) (data:=data) l s0 k (by rw[f];exact m);rw[f] at this;exact this
 have F:=(o i q).same (decide_eq_false D);refine⟨?_,fun k m _=>⟨_,o k m,fun e=>?_⟩,.inl (by rw[F];exact⟨rfl,.inl rfl,rfl⟩),by rw[N3,f],.inl (by rw[j];exact e),by rw[j];exact B,by rw[j];exact E,by rw[j];exact A⟩
 ·cases p:go with
  |true=>
   simp only[if_true];refine Inv.IF l fun kind k x g=>?_
   rcases u kind k x g with ⟨c,b⟩|⟨_,b,_⟩
   ·refine⟨?_,b⟩;have:=h kind k x c;unfold DP at this ⊢;rw[f];exact this
   ·rw[p] at b;cases b
  |false=>
   simp only[bM,if_false];rw[Z8 (C p)];refine h.block f n q _ (fun kind k x g=>?_) rfl;rcases u kind k x g with ⟨c,_⟩|⟨c,_,b,y⟩
   ·exact .inl c
   ·exact .inr ⟨c,b,y⟩
 ·have:=of_decide_eq_true e;have:=v _ this (by omega);simpa using this
def AE.none(h:Inv s)(c:(s.procs.getD i default).status≠3)(g:i<s.procs.length)(o:s0.procs=s.procs)(m:s0.mem=s.mem)(f:s0.clock=s.clock)(n:s0.mode=s.mode)(e:(∀ x∈s.boards,0≤x.val∧x.val≤255)→∀ x∈s0.boards,0≤x.val∧x.val≤255)
  (j:∀ kind k x,x∈AF s0 kind k→x∈AF s kind k∨(x.proc=(i:Int)∧go=false∧a.kind=kind∧a.a=(k:Int))):AE i a s s0 go:=
 AE.wk (d:=default) (now:=0) (data:=[]) (l:=[]) h c g o m f n e (fun kind k x p=>(j kind k x p).imp_left fun h=>⟨h,by simp⟩) (fun z b=>by cases b) (fun _ z b=>by cases b)
def ZF(h:Inv s)(c:(s.procs.getD i default).status≠3)(f:i<s.procs.length)(b:s0.procs=s.procs)(m:∀ z∈l,0≤z→∃ kind k x,x∈AF s kind k∧x.proc=z):(wakeP d now data l s0).procs.getD i default=s.procs.getD i default:=by
 have g:(i:Int)∉l:=fun j=>c (by
  obtain⟨kind,k,x,n,e⟩:=m _ j (by omega);have:=(h kind k x n).2.1;rw[e] at this;simpa using this)
 have:=Kw (d:=d) (t:=now) (data:=data) l s0 i (by rw[b];exact f);rw[b] at this;exact this.same (decide_eq_false g)
def AE.Fq(h:AE i a s r true)(b:r.procs.getD i default=s.procs.getD i default)(g:(s.procs.getD i default).status≠3)(m:i<s.procs.length):AE i a s (Co d i data r) true:=by
 have n:i<r.procs.length:=by rw[h.len];exact m
 have e:(Co d i data r).procs.getD i default=Hp d i data (r.procs.getD i default):=by
  simp only[Co,Cv,n,and_self,if_true]
 refine⟨?_,fun k o c=>?_,?_,by simp only[Co,bK];exact h.len,h.mem,h.clk,h.md,h.bv⟩
 ·have:=h.inv;simp only[if_true] at this ⊢;exact this.own (by rw[b];exact g) _
 ·have f:(Co d i data r).procs.getD k default=r.procs.getD k default:=by
   simp only[Co,Cv];rw[if_neg (fun j=>c j.1.symm)]
  rw[f];exact h.oth k o c
 ·rw[e,b];exact .inl ⟨by simp only[Hp,ON],.inl rfl,rfl⟩
def AE.alone(h:Inv s)(b:(s.procs.getD i default).status≠3)(g:i<s.procs.length){x:BA}(m:(x.s.pc=(s.procs.getD i default).s.pc∧(x.deadline=(s.procs.getD i default).deadline∨x.deadline=-1)∧x.status=(s.procs.getD i default).status)∨x=EU):AE i a s {s with procs:=s.procs.set i x} go:=by
 have e:(s.procs.set i x).getD i default=x:=by simp only[Cv,g,and_self,if_true]
 refine⟨?_,fun k n j=>?_,by show((s.procs.set i x).getD i default).s.pc=_∧_∨_;rw[e];exact m,by simp,.inl rfl,rfl,rfl,id⟩
 ·cases go with
  |true=>exact h.own b _
  |false=>
   simp only[bM,if_false,bT];exact h.own b _
 ·refine⟨false,?_,fun h=>by cases h⟩;have c:(s.procs.set i x).getD k default=s.procs.getD k default:=by rw[Cv,if_neg (fun f=>j f.1.symm)]
  show Wk _ ((s.procs.set i x).getD k default) _;rw[c];exact .refl _
def Rr(h:Inv s)(ok:Ah d s)(o:(s.procs.getD i default).status≠3)(p:i<s.procs.length)(C:Cz d s.mem.length a):AE i a s (actA d i now a s).1 (actA d i now a s).2:=by
 have N:((a.a.toNat:Nat):Int)=a.a:=Int.toNat_of_nonneg C.nn;unfold actA;split
 ·rename_i g;have:=AE.none (a:=a) (go:=true) h o p (s0:=s) rfl rfl rfl rfl id (fun kind k x c=>.inl c);exact {this with inv:=this.inv,mem:=.inr ⟨g,_,_,rfl⟩}
 ·rename_i g;have c:=(C.send g).1;have F:=ok.queues;show AE i a s (EJ d now a s) true;unfold EJ;split
  ·exact AE.none h o p rfl rfl rfl rfl id (fun kind k x c=>.inl c)
  ·refine AE.none h o p rfl rfl rfl rfl id (fun kind k x c=>.inl ?_);rcases La (k0:=a.a.toNat) (by omega) _ kind k x c with ⟨_,f⟩|⟨rfl,rfl,f⟩
   ·exact f
   ·exact Qr f
 ·rename_i g;have c:=(C.recv g).1;have F:=ok.queues;unfold Fg;split
  ·have S:AE i a s {s with queues:=s.queues.set a.a.toNat ⟨(recvQ (portA d a).kind (portA d a).size (portA d a).depth (portA d a).At (quA a s).q (quA a s).wait (quA a s).lost i (prioA d i)).1,(recvQ (portA d a).kind (portA d a).size (portA d a).depth (portA d a).At (quA a s).q (quA a s).wait (quA a s).lost i (prioA d i)).2.1,(quA a s).lost⟩} (recvQ (portA d a).kind (portA d a).size (portA d a).depth (portA d a).At (quA a s).q (quA a s).wait (quA a s).lost i (prioA d i)).2.2.2.1:=by
    refine AE.none h o p rfl rfl rfl rfl id (fun kind k x c=>?_);rcases La (k0:=a.a.toNat) (by omega) _ kind k x c with ⟨_,f⟩|⟨rfl,rfl,f⟩
    ·exact .inl f
    ·rcases Yv f with f|⟨f,b⟩
     ·exact .inl f
     ·exact .inr ⟨f,b,g,N.symm⟩
   simp only[];split
   ·rename_i n;rw[n] at S;exact S.Fq rfl o p
   ·rename_i n;simp only[bU] at n;rw[n] at S;exact S
  ·exact AE.Fq (AE.none h o p rfl rfl rfl rfl id (fun kind k x c=>.inl c)) rfl o p
 ·rename_i g;have c:=C.Ep (.inl g);have F:=ok.semas;refine AE.none h o p rfl rfl rfl rfl id (fun kind k x c=>?_);rcases Pu (k0:=a.a.toNat) (by omega) _ kind k x c with ⟨_,f⟩|⟨rfl,rfl,f⟩
  ·exact .inl f
  ·rcases Z3 f with f|⟨f,b⟩
   ·exact .inl f
   ·exact .inr ⟨f,b,g,N.symm⟩
 ·rename_i g;have c:=C.Ep (.inr g);have F:=ok.semas;have w:a.a.toNat<s.semas.length:=by omega
  have R:=ok.se _ (getD_mem (l:=s.semas) (k:=a.a.toNat) (d:=default) w);have D:∀ x,x∈(Ia a s).wait→x∈AF s 4 a.a.toNat:=fun x c=>c
  refine AE.wk h o p rfl rfl rfl rfl id (fun kind k x c=>.inl ?_) (fun z A B=>?_) (fun n=>by cases n)
  ·simp only[ae];rcases Pu w _ kind k x c with ⟨f,b⟩|⟨rfl,rfl,b⟩
   ·refine⟨b,fun e=>?_⟩;have v:=(h kind k x b);obtain⟨y,t,j,_,u⟩:=Nn (by rw[←e];exact v.1);have m:=h 4 a.a.toNat y (D y (by rw[j];simp));rw[←u,←e] at m;have:=v.uniq m;exact f ⟨this.1,by omega⟩
   ·refine⟨D x (Qw b),fun e=>?_⟩;have v:=h 4 _ x (D x (Qw b));obtain⟨y,t,j,Q,u⟩:=Nn (by rw[←e];exact v.1);rw[Q] at b;have E:=R.1;have P:(s.semas.getD a.a.toNat default).wait=y::t:=j;rw[P] at E;simp only[bZ,bV,bP,not_exists,not_and] at E;exact E.1 x b (by rw[e,u])
  ·simp only[ae] at A;subst A;obtain⟨y,t,j,_,u⟩:=Nn B;exact⟨4,a.a.toNat,y,D y (by rw[j];simp),u.symm⟩
 ·rename_i g;have c:=C.event (.inl g);have F:=ok.events;have w:a.a.toNat<s.events.length:=by omega
  have D:∀ x,x∈(EW a s).wait→x∈AF s 8 a.a.toNat:=fun x c=>c
  refine AE.wk h o p rfl rfl rfl rfl id (fun kind k x c=>.inl ?_) (fun z A B=>?_) (fun n=>by cases n)
  ·rcases MF w _ kind k x c with ⟨f,b⟩|⟨rfl,rfl,b⟩
   ·refine⟨b,fun e=>?_⟩;obtain⟨y,m,j⟩:=Qd e;have m:=h 8 a.a.toNat y (D y m);rw[j] at m;have:=(h kind k x b).uniq m;exact f ⟨this.1,by omega⟩
   ·have:=Yq b;refine⟨D x this.1,?_⟩;rw[this.2];simp
  ·obtain⟨y,m,j⟩:=Qd A;exact⟨8,a.a.toNat,y,D y m,j⟩
 ·rename_i g;have c:=C.event (.inr (.inl g));have F:=ok.events;refine AE.none h o p rfl rfl rfl rfl id (fun kind k x c=>.inl ?_);rcases MF (k0:=a.a.toNat) (by omega) _ kind k x c with ⟨_,f⟩|⟨rfl,rfl,f⟩
  ·exact f
  ·exact f
 ·rename_i g;have c:=C.event (.inr (.inr g));have F:=ok.events;refine AE.none h o p rfl rfl rfl rfl id (fun kind k x c=>?_);rcases MF (k0:=a.a.toNat) (by omega) _ kind k x c with ⟨_,f⟩|⟨rfl,rfl,f⟩
  ·exact .inl f
  ·rcases Zg f with f|⟨f,b⟩
   ·exact .inl f
   ·exact .inr ⟨f,b,g,N.symm⟩
 ·rename_i g;have c:=C.Eg (.inl g);have F:=ok.bufs;have w:a.a.toNat<s.bufs.length:=by omega
  have R:=(ok.bu _ (getD_mem (l:=s.bufs) (k:=a.a.toNat) (d:=default) w)).get;have M:∀ x,x∈(buA a s).put→x∈AF s 9 a.a.toNat:=fun x c=>c
  have L:∀ x,x∈(buA a s).get→x∈AF s 10 a.a.toNat:=fun x c=>c
  refine AE.wk h o p rfl rfl rfl rfl id (fun kind k x c=>?_) (fun z A B=>?_) (fun n z A=>?_)
  ·simp only[ae];rcases Ps w _ kind k x c with ⟨f,b⟩|⟨rfl,rfl,b⟩|⟨rfl,rfl,b⟩
   ·refine .inl ⟨b,fun e=>?_⟩;have v:=(h kind k x b);obtain⟨y,t,j,_,_,u,_⟩:=Kj (by rw[←e];exact v.1);have m:=h 10 a.a.toNat y (L y (by rw[j];simp));rw[←u,←e] at m;have:=v.uniq m;exact f ⟨.inr this.1,by omega⟩
   ·rcases MZ.1 b with b|⟨b,V⟩
    ·refine .inl ⟨M x b,fun e=>?_⟩;have v:=(h 9 _ x (M x b));obtain⟨y,t,j,_,_,u,_⟩:=Kj (by rw[←e];exact v.1);have m:=h 10 a.a.toNat y (L y (by rw[j];simp));rw[←u,←e] at m;exact absurd (v.uniq m).1 (by decide)
    ·exact .inr ⟨b,V,g,N.symm⟩
   ·refine .inl ⟨L x (MZ.2 b),fun e=>?_⟩;have v:=h 10 _ x (L x (MZ.2 b));obtain⟨y,t,j,Q,_,u,_⟩:=Kj (by rw[←e];exact v.1);have b:x∈_:=b;simp only[Q] at b;have E:=R.1;have P:(s.bufs.getD a.a.toNat default).get=y::t:=j;rw[P] at E;simp only[bZ,bV,bP,not_exists,not_and] at E;exact E.1 x b (by rw[e,u])
  ·simp only[ae] at A;subst A;obtain⟨y,t,j,_,_,u,_⟩:=Kj B;exact⟨10,a.a.toNat,y,L y (by rw[j];simp),u.symm⟩
  ·simp only[ae] at A;subst A;rcases b9 (Cb (buA a s).depth (buA a s).data (buA a s).put (buA a s).get i (prioA d i) (a.data.getD 0 0)).2.2.2.2.1 0 with B|B
   ·exact B
   ·obtain⟨_,_,_,_,_,_,e⟩:=Kj B;have n:(Cb (buA a s).depth (buA a s).data (buA a s).put (buA a s).get i (prioA d i) (a.data.getD 0 0)).2.2.2.1=false:=n;rw[n] at e;cases e
 ·rename_i g;have c:=C.Eg (.inr g);have F:=ok.bufs;have w:a.a.toNat<s.bufs.length:=by omega
  have R:=(ok.bu _ (getD_mem (l:=s.bufs) (k:=a.a.toNat) (d:=default) w)).put;have M:∀ x,x∈(buA a s).put→x∈AF s 9 a.a.toNat:=fun x c=>c
  have L:∀ x,x∈(buA a s).get→x∈AF s 10 a.a.toNat:=fun x c=>c
  have W:∀ z∈ [(getBu (buA a s).depth (buA a s).data (buA a s).put (buA a s).get i (prioA d i)).2.2.2.2.2.1],0≤z→∃ kind k x,x∈AF s kind k∧x.proc=z:=fun z A B=>by
   simp only[ae] at A;subst A;obtain⟨y,t,j,_,_,u,_⟩:=Ka B;exact⟨9,a.a.toNat,y,M y (by rw[j];simp),u.symm⟩
  have H:AE i a s (wakeP d now [] [(getBu (buA a s).depth (buA a s).data (buA a s).put (buA a s).get i (prioA d i)).2.2.2.2.2.1] {s with bufs:=s.bufs.set a.a.toNat ⟨(buA a s).depth,(getBu (buA a s).depth (buA a s).data (buA a s).put (buA a s).get i (prioA d i)).1,(getBu (buA a s).depth (buA a s).data (buA a s).put (buA a s).get i (prioA d i)).2.1,(getBu (buA a s).depth (buA a s).data (buA a s).put (buA a s).get i (prioA d i)).2.2.1⟩}) (getBu (buA a s).depth (buA a s).data (buA a s).put (buA a s).get i (prioA d i)).2.2.2.2.1:=by
   refine AE.wk h o p rfl rfl rfl rfl id (fun kind k x c=>?_) W (fun n z A=>?_)
   ·simp only[ae];rcases Ps w _ kind k x c with ⟨f,b⟩|⟨rfl,rfl,b⟩|⟨rfl,rfl,b⟩
    ·refine .inl ⟨b,fun e=>?_⟩;have v:=(h kind k x b);obtain⟨y,t,j,_,_,u,_⟩:=Ka (by rw[←e];exact v.1);have m:=h 9 a.a.toNat y (M y (by rw[j];simp));rw[←u,←e] at m;have:=v.uniq m;exact f ⟨.inl this.1,by omega⟩
    ·refine .inl ⟨M x (Mq.1 b),fun e=>?_⟩;have v:=h 9 _ x (M x (Mq.1 b));obtain⟨y,t,j,Q,_,u,_⟩:=Ka (by rw[←e];exact v.1);have b:x∈_:=b;simp only[Q] at b;have E:=R.1;have P:(s.bufs.getD a.a.toNat default).put=y::t:=j;rw[P] at E;simp only[bZ,bV,bP,not_exists,not_and] at E;exact E.1 x b (by rw[e,u])
    ·rcases Mq.2 b with b|⟨b,V⟩
     ·refine .inl ⟨L x b,fun e=>?_⟩;have v:=(h 10 _ x (L x b));obtain⟨y,t,j,_,_,u,_⟩:=Ka (by rw[←e];exact v.1);have m:=h 9 a.a.toNat y (M y (by rw[j];simp));rw[←u,←e] at m;exact absurd (v.uniq m).1 (by decide)
     ·exact .inr ⟨b,V,g,N.symm⟩
   ·simp only[ae] at A;subst A;rcases b9 (getBu (buA a s).depth (buA a s).data (buA a s).put (buA a s).get i (prioA d i)).2.2.2.2.2.1 0 with B|B
    ·exact B
    ·obtain⟨_,_,_,_,_,_,e⟩:=Ka B;rw[n] at e;cases e
  unfold Gt;simp only[];split
  ·rename_i n;rw[n] at H;exact H.Fq (ZF h o p rfl W) o p
  ·rename_i n;simp only[bU] at n;rw[n] at H;exact H
 ·rename_i g;have c:=C.Dz (.inl g);have F:=ok.boards;have w:a.a.toNat<s.boards.length:=by omega
  have D:∀ x,x∈(boA a s).wait→x∈AF s 12 a.a.toNat:=fun x c=>c
  refine AE.wk h o p rfl rfl rfl rfl (fun K=>?_) (fun kind k x c=>.inl ?_) (fun z A B=>?_) (fun n=>by cases n)
  ·refine mem_set K _ ?_;show 0≤(Dh _ _ _ _).2.1∧_;unfold Dh;split
   ·exact K _ (getD_mem w)
   ·exact Mr C.bytes 0
  ·rcases ME w _ kind k x c with ⟨f,b⟩|⟨rfl,rfl,b⟩
   ·refine⟨b,fun e=>?_⟩;obtain⟨y,m,j⟩:=Qv e;have m:=h 12 a.a.toNat y (D y m);rw[j] at m;have:=(h kind k x b).uniq m;exact f ⟨this.1,by omega⟩
   ·have:=YR b;refine⟨D x this.1,?_⟩;rw[this.2];simp
  ·obtain⟨y,m,j⟩:=Qv A;exact⟨12,a.a.toNat,y,D y m,j⟩
 ·rename_i g;have c:=C.Dz (.inr (.inl g));have F:=ok.boards;have w:a.a.toNat<s.boards.length:=by omega
  have H:AE i a s {s with boards:=s.boards.set a.a.toNat ⟨(boA a s).has,(boA a s).val,(lookBd (boA a s).has (boA a s).val (boA a s).wait i (prioA d i)).1⟩} (lookBd (boA a s).has (boA a s).val (boA a s).wait i (prioA d i)).2.2.1:=by
   refine AE.none h o p rfl rfl rfl rfl (fun K=>mem_set K _ (by
    have:=K _ (getD_mem (l:=s.boards) (d:=default) w);exact this)) (fun kind k x c=>?_)
   rcases ME w _ kind k x c with ⟨_,f⟩|⟨rfl,rfl,f⟩
   ·exact .inl f
   ·rcases Xj f with f|⟨f,b⟩
    ·exact .inl f
    ·exact .inr ⟨f,b,g,N.symm⟩
  unfold Gu;simp only[];split
  ·rename_i n;rw[n] at H;exact H.Fq rfl o p
  ·rename_i n;simp only[bU] at n;rw[n] at H;exact H
 ·rename_i g;have c:=C.Dz (.inr (.inr g));have F:=ok.boards;have w:a.a.toNat<s.boards.length:=by omega
  refine AE.none h o p rfl rfl rfl rfl (fun K=>mem_set K _ ?_) (fun kind k x c=>.inl ?_)
  ·show 0≤(FN _ _ _).2.1∧_;have X:=K _ (getD_mem (l:=s.boards) (d:=default) w);unfold FN;split
   ·exact X
   ·exact(show(0:Int)≤0∧(0:Int)≤255 by decide)
  ·rcases ME w _ kind k x c with ⟨_,f⟩|⟨rfl,rfl,f⟩
   ·exact f
   ·exact f
 ·rename_i g;unfold nextA;split
  ·exact AE.alone h o p (.inr rfl)
  ·exact AE.alone h o p (.inl ⟨rfl,.inr rfl,rfl⟩)
 ·exact AE.alone h o p (.inr rfl)
 ·exact AE.none h o p rfl rfl rfl rfl id (fun kind k x c=>.inl c)
end
end Go.Proofs.YtiepijihpgijbaaGreatDoor
