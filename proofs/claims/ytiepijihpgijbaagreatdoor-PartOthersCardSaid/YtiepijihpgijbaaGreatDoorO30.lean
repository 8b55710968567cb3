import Derived.Test.YtiepijihpgijbaaGreatDoorO29
set_option maxHeartbeats 16000000
set_option maxRecDepth 1000000
set_option linter.all false
open Go.Value renaming int→I,slice→Y
open Go.IntKind renaming i64→J,u8→U
open Go.Obj renaming cells→T
open Option renaming some→Z,none→O
open Go renaming wp_region_quiet_lit→ac,wpQuiet_nil→ai,heap_alloc_new→al
open Go.RowKit.Below renaming refl→ad
open And renaming intro→aj
open Go.RowKit renaming intOf→ak
open Nat renaming le_refl→am,zero_le→ap,le_trans→av
open List renaming getD_eq_getElem?_getD→an,getElem?_eq_getElem→ao,getElem_mem→au
namespace Go.Proofs.YtiepijihpgijbaaGreatDoor
open Go.RowKit Tryz
def ZZ(B N:Nat)(a:World)(g:Nat)(d:Ad)(wr:World):Prop:=∃ (s:Ae) (F:Nat→Prop),Lv B wr F g d s∧(∀ b,F b→N≤b)∧Below N a wr∧N≤wr.heap.size
def ZZ.below{B N:Nat}{b:World}{g:Nat}{d:Ad}{w w':World}(h:ZZ B N b g d w)(a:Bl w w'):ZZ B N b g d w':=by
 obtain⟨s,F,e,f,i,c⟩:=h;exact⟨s,F,e.below a,f,i.trans (a.mono c),av c a.size⟩
def aP(B:Nat)(w:World)(aX:Gl B w)(GS:Ce w)(d1:Ad)(bA:ByteArray)(bB bz:Int)(bC bg bi bh:Option Addr)(bm bj bl bk:Nat)(h1:Il w d1 bA bB bz bC bg bi bh bm bj bl bk)(vo:Value)(ops:List (List Int))(hO:JG w vo ops):
  Calls prog 4 #[.agg #[.string bA,I J bB,I J bz,I J d1.mem,Y bC d1.semas.length bm,I J d1.events,I J d1.boards,Y bg d1.bufs.length bj,Y bi d1.Ab.length bl,Y bh d1.procs.length bk],vo] w fun e w'=>e=.returned (.bool true)∧Bl w w':=by
 obtain⟨oa,oc,rfl,fI,ee⟩:=hO.at_;have dJ:16≤w.heap.size:=av aX.hb aX.hw;obtain⟨l,C⟩:=ex (w.alloc (T #[.string bA,I J bB,I J bz,I J d1.mem,Y bC d1.semas.length bm,I J d1.events,I J d1.boards,Y bg d1.bufs.length bj,Y bi d1.Ab.length bl,Y bh d1.procs.length bk] 26));have ab:Bl w l:=by rw[C];exact(ad _ w).alloc (am _) _
 have dS:l.heap[w.heap.size]? =Z (T #[.string bA,I J bB,I J bz,I J d1.mem,Y bC d1.semas.length bm,I J d1.events,I J d1.boards,Y bg d1.bufs.length bj,Y bi d1.Ab.length bl,Y bh d1.procs.length bk] 26 (0,0)):=by rw[C];exact al _ _
 obtain⟨HW,aY,cb⟩:=H3 C ab dS;have db:Hq (∀ W,Bl l W→Calls prog 8 #[] W fun e w'=>e=.returned (.bool true)∧Bl W w'):=fun W f=>by
  have f:=ab.trans (f.mono ab.size);exact RC B W (aX.below f) (GS.below dJ f)
 have dj:Hq (∀ W,Bl l W→Calls prog 9 #[.agg #[.string bA,I J bB,I J bz,I J d1.mem,Y bC d1.semas.length bm,I J d1.events,I J d1.boards,Y bg d1.bufs.length bj,Y bi d1.Ab.length bl,Y bh d1.procs.length bk]] W (JD B W d1)):=fun W f=>by
  have f:=ab.trans (f.mono ab.size);exact P0 B (h1.below f) (aX.below f) (GS.below dJ f)
 have eF:Hq (0<ops.length→∃ b d,oa=Z ⟨b,d,O⟩∧b<l.heap.size∧∀ k (hk:k<ops.length),∃ (a:Option Addr) (c:Nat),∀ W,Bl l W→W.cell? ⟨b,d+k,O⟩=Z (.slice a ops[k].length c)∧Af J W 0 (.slice a ops[k].length c) ops[k]):=fun V=>by
  obtain⟨b,d,e,hl,hc⟩:=ee V;refine⟨b,d,e,Nat.lt_of_lt_of_le hl ab.size,fun k hk=>?_⟩;obtain⟨a,c,h3,h4⟩:=hc k hk;refine⟨a,c,fun W f=>?_⟩;have f:=ab.trans (f.mono ab.size);exact⟨(f.cell (p:=⟨b,d+k,O⟩) hl).trans h3,h4.Iq f⟩
 have fp:=HH aX.hw;clear C ab dS aX GS h1 hO ee;go_enter func4,ntmps4;go_wp2_with fail;rw[←HW.o];refine(db.o l (ad _ _)).mono ?_;rintro e w1 ⟨rfl,f⟩;have B1:=HH f;clear f db;obtain⟨q,hq⟩:=ex w.heap.size;rw[←hq] at cb ⊢;have HQ:=HH hq;clear hq;have dT:=(B1.o.block _ (Aa cb.o)).trans cb.o;obtain⟨x0,x1,x2,x3,x4,x5,x6,x7,x8,x9⟩:=DV dT;clear dT;go_wp2_with fail;refine(dj.o w1 B1.o).mono ?_;rintro e w2 Q;have fo:=HH Q.1;have B2:=HH (B1.o.trans (Q.1.mono B1.o.size));clear x0 x1 x2 x3 x4 x5 x6 x7 x8 x9 dj;cases dP:E6 d1 with
 |false=>
  have ar:=Q.2;rw[dP] at ar;simp only[Bool.false_eq_true,if_false] at ar;subst ar;clear Q;go_wp2_with fail;go_ret;exact⟨rfl,aY.o.trans (B2.o.mono aY.o.size)⟩
 |true=>
  have ar:=Q.2;rw[dP] at ar;simp only[if_true] at ar;obtain⟨g1,F1,rfl,dX,dL⟩:=ar;have dN:ZZ B l.heap.size l g1 d1 w2:=⟨DB d1,F1,dX,fun b f=>by have:=dL b f;have:=B1.o.size;omega,B2.o,B2.o.size⟩;have HT:=HH dN;clear Q dX dL dN;by_cases fs:(ops.length:Int)≤120
  ·go_wp2_with fail
   go_loopw [7,8,9,10,11,12,13,14,15] (fun v _ _ _ _ _ _ _ _ wr=>∃ k:Nat,k≤ops.length∧v=I J k∧Hq (ZZ B l.heap.size l g1 d1 wr)) (fun v _ _ _ _ _ _ _ _ _=>ops.length-(ak v).toNat)
   case atStart=>exact⟨0,ap _,rfl,HT.o⟩
   case round=>
    obtain⟨k,fC,rfl,A⟩:=hrel;obtain⟨s,F,M,hF,cI,hN⟩:=A.o;by_cases hk:k<ops.length
    ·have fF:(k:Int)<(ops.length:Int):=by omega
     obtain⟨ob,d,rfl,eU,ec⟩:=eF.o (by omega);obtain⟨ua,uc,cD⟩:=ec k hk;have fD:k<oc:=by omega
     obtain⟨op,ef⟩:=ex (ops[k]);rw[←ef] at cD;obtain⟨r,hr⟩:=ex (Fl d1 op s);obtain⟨HR,eB,N,de,eC,aZ⟩:=H6 hr cD M hF cI hN;clear A M hF cI hN ec ef hr cD eU;go_wp2_with fail;refine(J3 N.o).mono ?_;rintro e u1 ⟨a1,a2,a3,a4,a5,a6,a7,a8,c1,c2,c3,c4,c5,c6,c7,c8,n8,rfl,bb,cF⟩;obtain⟨U1,bP⟩:=ex (u1.alloc (T #[I U s.mode,I J s.clock,Y a1 s.procs.length c1,Y a2 s.mem.length c2,Y a3 s.semas.length c3,Y a4 s.events.length c4,Y a5 s.boards.length c5,Y a6 s.queues.length c6,Y a7 s.queues.length c7,Y a8 n8 c8] 37));have bS:Bl u1 U1:=by rw[bP];exact(ad _ u1).alloc (am _) _
     have dU:U1.heap[u1.heap.size]? =Z (T #[I U s.mode,I J s.clock,Y a1 s.procs.length c1,Y a2 s.mem.length c2,Y a3 s.semas.length c3,Y a4 s.events.length c4,Y a5 s.boards.length c5,Y a6 s.queues.length c6,Y a7 s.queues.length c7,Y a8 n8 c8] 37 (0,0)):=by rw[bP];exact al _ _
     have c9:=cF.size;have ep:=bS.size;have cE:Bl wr U1:=cF.trans (bS.mono c9);have bc:=N.o.below cE;have cz:Bl l U1:=eC.o.trans (cE.mono aZ.o);obtain⟨eW,eg⟩:=eB.o U1 cz;have b0:=HH (JL B U1 F g1 d1 s bc _ op eg);rw[←HR.o] at b0;obtain⟨ds,b9,cc,dc,S⟩:=H5 bb bS dU cz (aj c9 ep);have dh:Hq (∀ b,F b→b<wr.heap.size):=N.o.px.1;have dp:=HH bP;clear bP bS dU c9 ep cE bc cz eg bb cF;go_upto_region 10 with (fail);rw[←dp.o];go_wp2_with fail;refine b0.o.mono ?_;rintro e u2 ⟨v,rfl,⟨aa,na,ca,af,cf,rfl,_⟩,cM⟩;obtain⟨U2,bQ⟩:=ex (u2.alloc (T #[I J r.2.ran,I U r.2.act.kind,I J r.2.act.a,I J r.2.act.b,Y aa na ca,.slice af r.2.faults.length cf] 43));have cJ:Bl u2 U2:=by rw[bQ];exact(ad _ u2).alloc (am _) _
     have dV:U2.heap[u2.heap.size]? =Z (T #[I J r.2.ran,I U r.2.act.kind,I J r.2.act.a,I J r.2.act.b,Y aa na ca,.slice af r.2.faults.length cf] 43 (0,0)):=by rw[bQ];exact al _ _
     have bJ:=HH (cM.1.below cJ);have bH:=HH cM.2;obtain⟨bF,cd,dq⟩:=H3 cJ dV bQ;clear bQ cJ dV cM b0 eW;go_upto_region 11 with (fail);rw[←dq.o];go_wp2_with fail;refine(J3 bJ.o).mono ?_;rintro e u3 ⟨b1,b2,b3,b4,b5,b6,b7,b8,L,e2,e3,e4,e5,e6,e7,e8,m8,rfl,bx,cG⟩;obtain⟨g,bR⟩:=ex (u3.alloc (T #[I U r.1.mode,I J r.1.clock,.slice b1 r.1.procs.length L,.slice b2 r.1.mem.length e2,.slice b3 r.1.semas.length e3,.slice b4 r.1.events.length e4,.slice b5 r.1.boards.length e5,.slice b6 r.1.queues.length e6,.slice b7 r.1.queues.length e7,Y b8 m8 e8] 37));have bq:Bl u3 g:=by rw[bR];exact(ad _ u3).alloc (am _) _
     have dW:g.heap[u3.heap.size]? =Z (T #[I U r.1.mode,I J r.1.clock,.slice b1 r.1.procs.length L,.slice b2 r.1.mem.length e2,.slice b3 r.1.semas.length e3,.slice b4 r.1.events.length e4,.slice b5 r.1.boards.length e5,.slice b6 r.1.queues.length e6,.slice b7 r.1.queues.length e7,Y b8 m8 e8] 37 (0,0)):=by rw[bR];exact al _ _
     have s2:=bH.o.size;have s3:=bF.o.size;have s4:=cG.size;have s5:=bq.size;have bp:Bl U2 g:=cG.trans (bq.mono s4);have bU:∀ b,wr.heap.size≤b→b<U1.heap.size→g.heap[b]? =U1.heap[b]?:=fun b h1 h2=>
      (bp.block b (by omega)).trans ((bF.o.block b (by omega)).trans (bH.o.block b h2 (fun h=>by have:=dh.o b h;omega)))
     have fr:Hq (Bl g g):=ad _ _;have K1:Hq (g.heap[u1.heap.size]? =Z (T #[I U s.mode,I J s.clock,Y a1 s.procs.length c1,Y a2 s.mem.length c2,Y a3 s.semas.length c3,Y a4 s.events.length c4,Y a5 s.boards.length c5,Y a6 s.queues.length c6,Y a7 s.queues.length c7,Y a8 n8 c8] 37 (0,0))):=(bU _ S.o.1 (Aa cc.o)).trans cc.o;have K2:Hq (g.heap[u2.heap.size]? =Z (T #[I J r.2.ran,I U r.2.act.kind,I J r.2.act.a,I J r.2.act.b,Y aa na ca,.slice af r.2.faults.length cf] 43 (0,0))):=(bp.block _ (Aa cd.o)).trans cd.o;have K3:=HH dW;have bb:JJ _ _ _ _ _ _ _ _ _ _ _:=ds.o;have bx:JJ _ _ _ _ _ _ _ _ _ _ _:=bx;obtain⟨eR,P1⟩:=aL bb.pr;obtain⟨dR,P2⟩:=aL bx.pr;obtain⟨eQ,M1⟩:=aK bb.me;obtain⟨dQ,M2⟩:=aK bx.me;have s0:=S.o.1;have s1:=S.o.2;have dl:Hq (0<s.procs.length→∃ b d,a1=Z ⟨b,d,O⟩∧∀ W,Bl g W→∀ k j u,k<s.procs.length→(Em (s.procs.getD k default))[j]? =Z u→W.cell? ⟨b,d+k*12+j,O⟩=Z u):=fun V=>by
      obtain⟨b,d,e,hB,aq,hc⟩:=P1 V;refine⟨b,d,e,fun W C k j u hk hu=>?_⟩;have L:W.heap[b]? =u1.heap[b]?:=(C.block b (by omega)).trans ((bU b hB (by omega)).trans (b9.o.block b aq));exact(Gh L _).trans (hc k j u hk hu)
     have ch:Hq (0<r.1.procs.length→∃ b d,b1=Z ⟨b,d,O⟩∧∀ W,Bl g W→∀ k j u,k<r.1.procs.length→(Em (r.1.procs.getD k default))[j]? =Z u→W.cell? ⟨b,d+k*12+j,O⟩=Z u):=fun V=>by
      obtain⟨b,d,e,hB,aq,hc⟩:=P2 V;refine⟨b,d,e,fun W C k j u hk hu=>?_⟩;have L:W.heap[b]? =u3.heap[b]?:=(C.block b (by omega)).trans (bq.block b aq);exact(Gh L _).trans (hc k j u hk hu)
     have di:Hq (0<s.mem.length→∃ b d,a2=Z ⟨b,d,O⟩∧∀ W,Bl g W→∀ j,j<s.mem.length→W.cell? ⟨b,d+j,O⟩=Z (I U (s.mem.getD j 0))):=fun V=>by
      obtain⟨b,d,e,hB,aq,hc⟩:=M1 V;refine⟨b,d,e,fun W C j hj=>?_⟩;have L:W.heap[b]? =u1.heap[b]?:=(C.block b (by omega)).trans ((bU b hB (by omega)).trans (b9.o.block b aq));exact(Gh L _).trans (hc j hj)
     have ce:Hq (0<r.1.mem.length→∃ b d,b2=Z ⟨b,d,O⟩∧∀ W,Bl g W→∀ j,j<r.1.mem.length→W.cell? ⟨b,d+j,O⟩=Z (I U (r.1.mem.getD j 0))):=fun V=>by
      obtain⟨b,d,e,hB,aq,hc⟩:=M2 V;refine⟨b,d,e,fun W C j hj=>?_⟩;have L:W.heap[b]? =u3.heap[b]?:=(C.block b (by omega)).trans (bq.block b aq);exact(Gh L _).trans (hc j hj)
     have bI:Hq (∀ W,Bl g W→ZZ B l.heap.size l g1 d1 W):=fun W C=>by
      have cH:Bl U2 W:=bp.trans (C.mono bp.size);refine⟨r.1,_,bJ.o.below cH,fun b f=>?_,?_,?_⟩
      ·have:=aZ.o;have:=S.o;rcases f with f|f
       ·exact de.o b f
       ·omega
      ·exact dc.o.trans ((bH.o.low de.o (by have:=aZ.o;have:=S.o;omega)).trans ((bF.o.mono (by have:=aZ.o;have:=S.o;omega)).trans (cH.mono (by have:=aZ.o;have:=S.o;omega))))
      ·have:=aZ.o;have:=S.o;have:=cH.size;omega
     have dn:Hq (r.2.e=0→s.mode=3→∃ now,aB s r.1 r.2 now):=fun he hm=>by
      rw[HR.o] at he ⊢;exact aM N.o.okx N.o.good hm he
     have dk:Hq (s.procs.length≤6∧(s.mem.length:Int)≤4096):=⟨by have:=N.o.good.ok.procs;have:=N.o.good.ok.ok.procs;omega,by have:=N.o.good.ok.mem;have:=N.o.good.ok.ok.mem;omega⟩;have eH:Hq (∀ x∈s.procs,x.s.AG.length=4):=fun x M=>(N.o.good.ok.pr x M).AG;have eI:Hq (∀ x∈r.1.procs,x.s.AG.length=4):=fun x M=>(bJ.o.good.ok.pr x M).AG;have dr:=HH bR;clear bR bq dW s2 s3 s4 s5 bp bU bb bx cG P1 P2 M1 M2 N bJ ds HR;go_upto_region 12 with (fail);rw[←dr.o];obtain⟨q1,cO⟩:=ex u1.heap.size;obtain⟨q2,cP⟩:=ex u2.heap.size;obtain⟨q3,cQ⟩:=ex u3.heap.size;rw[←cO,←cP,←cQ];rw[←cO] at K1;rw[←cP] at K2;rw[←cQ] at K3;clear cO cP cQ dp dq dr cc cd b9 bF bH dc dh S;have y:=K1.o;obtain⟨y0,-,y2,y3⟩:=r4 y;clear y;have t:=K2.o;obtain⟨t0,t1⟩:=r2 t;clear t;have z:=K3.o;obtain⟨-,-,z2,z3⟩:=r4 z;clear z;by_cases he:r.2.e=0
     ·by_cases hm:s.mode=3
      ·obtain⟨now,hrel⟩:=dn.o he hm;obtain⟨dm,cg⟩:=H2 hrel (aJ hrel);have dZ:=hrel.len;have dY:=(aJ hrel).1;rw[dZ] at z2 dR ch K3;rw[dY] at z3 dQ ce K3;rw[show decide (r.2.e=0)=true from decide_eq_true he];obtain⟨n,Q⟩:=ex s.procs.length;obtain⟨m,cL⟩:=ex s.mem.length;rw[←Q] at y2 z2 eR dR dl ch K1 K3;rw[←cL] at y3 z3 eQ dQ di ce K1 K3;obtain⟨R,HE⟩:=H2 (aj Q cL) he;clear hrel dZ dY Q cL he dn;have fH:n≤6:=by have:=dk.o.1;have:=R.o.1;omega
       have fG:m≤4096:=by have:=dk.o.2;have:=R.o.2;omega
       go_wp2_with fail;clear y0 y2 y3 t0 t1 z2 z3 hm
       go_loopw [12,13] (fun v _ wr=>∃ j:Nat,j≤n∧v=I J j∧Hq (Bl g wr)) (fun v _ _=>n-(ak v).toNat)
       case atStart=>exact⟨0,ap _,rfl,ad _ _⟩
       case round=>
        obtain⟨j,fy,rfl,A⟩:=hrel;have bt:=(A.o.block _ (Aa K1.o)).trans K1.o;have bu:=(A.o.block _ (Aa K2.o)).trans K2.o;have bw:=(A.o.block _ (Aa K3.o)).trans K3.o;have y2:wr.cell? ⟨q1,2,O⟩=Z (Y a1 n c1):=Cr bt;have t0:wr.cell? ⟨q2,0,O⟩=Z (I J r.2.ran):=Cr bu;have z2:wr.cell? ⟨q3,2,O⟩=Z (Y b1 n L):=Cr bw;clear bt bu bw;by_cases hj:j<n
        ·have fB:(j:Int)<(n:Int):=by omega
         obtain⟨pb,po,rfl,D⟩:=dl.o (by omega);obtain⟨rb,ro,rfl,E⟩:=ch.o (by omega);have fz:j<c1:=by omega
         have fA:j<L:=by omega
         obtain⟨x,M⟩:=ex (s.procs.getD j default);obtain⟨y,hy⟩:=ex (r.1.procs.getD j default);have D:=fun i u hu=>D wr A.o j i u hj hu
         have E:=fun i u hu=>E wr A.o j i u hj hu
         rw[←M] at D;rw[←hy] at E;have p0:wr.cell? ⟨pb,po+j*12,O⟩=Z (I U x.status):=D 0 _ rfl;have v0:wr.cell? ⟨rb,ro+j*12,O⟩=Z (I U y.status):=E 0 _ rfl;have p1:wr.cell? ⟨pb,po+j*12+1,O⟩=Z (I J x.s.pc):=D 1 _ rfl;have v1:wr.cell? ⟨rb,ro+j*12+1,O⟩=Z (I J y.s.pc):=E 1 _ rfl;have p2:wr.cell? ⟨pb,po+j*12+2,O⟩=Z (I J x.s.left):=D 2 _ rfl;have v2:wr.cell? ⟨rb,ro+j*12+2,O⟩=Z (I J y.s.left):=E 2 _ rfl;have p3:wr.cell? ⟨pb,po+j*12+3,O⟩=Z (I U (x.s.AG.getD 0 0)):=D 3 _ rfl;have v3:wr.cell? ⟨rb,ro+j*12+3,O⟩=Z (I U (y.s.AG.getD 0 0)):=E 3 _ rfl;have p4:wr.cell? ⟨pb,po+j*12+4,O⟩=Z (I U (x.s.AG.getD 1 0)):=D 4 _ rfl;have v4:wr.cell? ⟨rb,ro+j*12+4,O⟩=Z (I U (y.s.AG.getD 1 0)):=E 4 _ rfl;have p5:wr.cell? ⟨pb,po+j*12+5,O⟩=Z (I U (x.s.AG.getD 2 0)):=D 5 _ rfl;have v5:wr.cell? ⟨rb,ro+j*12+5,O⟩=Z (I U (y.s.AG.getD 2 0)):=E 5 _ rfl;have p6:wr.cell? ⟨pb,po+j*12+6,O⟩=Z (I U (x.s.AG.getD 3 0)):=D 6 _ rfl;have v6:wr.cell? ⟨rb,ro+j*12+6,O⟩=Z (I U (y.s.AG.getD 3 0)):=E 6 _ rfl;have eh:x∈s.procs:=by rw[M,an,ao (by have:=R.o.1;omega)];exact au _
         clear D E;have ei:y∈r.1.procs:=by rw[hy,an,ao (by have:=R.o.1;have:=dm.o.len;omega)];exact au _
         have P:=HH A.o;have ae:=dm.o.oth j (by have:=R.o.1;omega);rw[←M,←hy] at ae;obtain⟨eG,eJ,eK⟩:=H3 ae (eH.o x eh) (eI.o y ei);clear A M hy eh ei ae;obtain⟨x0,cS⟩:=ex (x.s.AG.getD 0 0);rw[←cS] at p3;obtain⟨x1,bc⟩:=ex (x.s.AG.getD 1 0);rw[←bc] at p4;obtain⟨x2,cT⟩:=ex (x.s.AG.getD 2 0);rw[←cT] at p5;obtain⟨x3,cU⟩:=ex (x.s.AG.getD 3 0);rw[←cU] at p6;obtain⟨y0,cV⟩:=ex (y.s.AG.getD 0 0);rw[←cV] at v3;obtain⟨y1,cW⟩:=ex (y.s.AG.getD 1 0);rw[←cW] at v4;obtain⟨y2,cX⟩:=ex (y.s.AG.getD 2 0);rw[←cX] at v5;obtain⟨y3,cY⟩:=ex (y.s.AG.getD 3 0);rw[←cY] at v6;obtain⟨ag,ah⟩:=H2 (aj cS (aj bc (aj cT cU))) (aj cV (aj cW (aj cX cY)));clear cS bc cT cU cV cW cX cY;by_cases hr:r.2.ran=(j:Int)
         ·rw[hr] at t0;clear hr;by_cases hp:y.s.pc=x.s.pc
          ·rw[hp] at v1;clear hp;cases h3:(x.status==3)
           all_goals
            go_upto_region 17 with (fail);refine ac (by kernel_rfl) (by kernel_rfl) ?_
            iterate 46 (first|go_big_quiet_step (fail)|quiet_step (fail))
            refine ai ?_;intro _ H;obtain⟨nq,K⟩:=H;subst K;go_wp2_with fail
            go_roundw
            case rel=>exact⟨j+1,by omega,by go_num,JO P.o nq⟩
            case measure=>simp[ak];omega
          ·have fJ:(y.s.pc !=x.s.pc)=true:=by simpa using hp
           clear hp;cases h3:(x.status==3)
           all_goals
            go_upto_region 17 with (fail);refine ac (by kernel_rfl) (by kernel_rfl) ?_
            iterate 46 (first|go_big_quiet_step (fail)|quiet_step (fail))
            refine ai ?_;intro _ H;obtain⟨nq,K⟩:=H;subst K;go_wp2_with fail
            go_roundw
            case rel=>exact⟨j+1,by omega,by go_num,JO P.o nq⟩
            case measure=>simp[ak];omega
         ·have eV:¬((j:Int)=r.2.ran):=fun h=>hr h.symm
          have ae:=eG.o eV;rw[ae.2] at v1;by_cases X:y.s=x.s
          ·have HE:∀ W,(Op.equalIn 9999 47 (.agg #[I U x0,I U x1,I U x2,I U x3]) (.agg #[I U x0,I U x1,I U x2,I U x3])).run prog W=.ok true W:=fun W=>by
            rw[aH];simp
           rw[X] at v2;rw[show y0=x0 by rw[ah.o.1,ag.o.1,X]] at v3;rw[show y1=x1 by rw[ah.o.2.1,ag.o.2.1,X]] at v4;rw[show y2=x2 by rw[ah.o.2.2.1,ag.o.2.2.1,X]] at v5;rw[show y3=x3 by rw[ah.o.2.2.2,ag.o.2.2.2,X]] at v6;clear X ae;cases h3:(x.status==3)
           all_goals
            go_upto_region 17 with (fail);refine ac (by kernel_rfl) (by kernel_rfl) ?_
            iterate 46 (first|go_big_quiet_step (fail)|quiet_step (fail))
            refine ai ?_;intro _ H;obtain⟨nq,K⟩:=H;subst K;go_wp2_with fail
            go_roundw
            case rel=>exact⟨j+1,by omega,by go_num,JO P.o nq⟩
            case measure=>simp[ak];omega
          ·have cR:=ae.1.resolve_left X;have h3:(x.status==3)=true:=by simp[cR.1]
           have h2:(y.status==2)=true:=by simp[cR.2]
           have eE:Hq (y.s.left=x.s.left→¬(y0=x0∧y1=x1∧y2=x2∧y3=x3)):=fun hl h=>X (aS eK.o eJ.o ae.2 hl (by rw[←ag.o.1,←ah.o.1];exact h.1) (by rw[←ag.o.2.1,←ah.o.2.1];exact h.2.1) (by rw[←ag.o.2.2.1,←ah.o.2.2.1];exact h.2.2.1) (by rw[←ag.o.2.2.2,←ah.o.2.2.2];exact h.2.2.2));clear X cR ae;by_cases hl:y.s.left=x.s.left
           ·rw[hl] at v2;have HE:∀ W,(Op.equalIn 9999 47 (.agg #[I U y0,I U y1,I U y2,I U y3]) (.agg #[I U x0,I U x1,I U x2,I U x3])).run prog W=.ok false W:=fun W=>by
             rw[aH,decide_eq_false (eE.o hl)]
            clear hl;go_upto_region 17 with (fail);refine ac (by kernel_rfl) (by kernel_rfl) ?_
            iterate 46 (first|go_big_quiet_step (fail)|quiet_step (fail))
            refine ai ?_;intro _ H;obtain⟨nq,K⟩:=H;subst K;go_wp2_with fail
            go_roundw
            case rel=>exact⟨j+1,by omega,by go_num,JO P.o nq⟩
            case measure=>simp[ak];omega
           ·skip;go_upto_region 17 with (fail);refine ac (by kernel_rfl) (by kernel_rfl) ?_
            iterate 46 (first|go_big_quiet_step (fail)|quiet_step (fail))
            refine ai ?_;intro _ H;obtain⟨nq,K⟩:=H;subst K;go_wp2_with fail
            go_roundw
            case rel=>exact⟨j+1,by omega,by go_num,JO P.o nq⟩
            case measure=>simp[ak];omega
        ·obtain rfl:j=n:=by omega
         have eA:=HH A.o;clear A;go_wp2_with fail
         go_loopw [14,15] (fun c v wr=>∃ i:Nat,i≤m∧v=I J i∧c=I J (ZY s.mem r.1.mem i)∧Hq (Bl g wr)) (fun _ v _=>m-(ak v).toNat)
         case atStart=>exact⟨0,ap _,rfl,rfl,eA.o⟩
         case round=>
          obtain⟨i,fu,rfl,rfl,A⟩:=hrel;have bt:=(A.o.block _ (Aa K1.o)).trans K1.o;have bu:=(A.o.block _ (Aa K2.o)).trans K2.o;have bw:=(A.o.block _ (Aa K3.o)).trans K3.o;have y3:wr.cell? ⟨q1,3,O⟩=Z (Y a2 m c2):=Cr bt;have z3:wr.cell? ⟨q3,3,O⟩=Z (Y b2 m e2):=Cr bw;have tk:wr.cell? ⟨q2,1,O⟩=Z (I U r.2.act.kind):=Cr bu;clear bt bu bw;have P:=HH A.o;by_cases hi:i<m
          ·have fx:(i:Int)<(m:Int):=by omega
           have fv:i<c2:=by omega
           have fw:i<e2:=by omega
           obtain⟨pb,po,rfl,D⟩:=di.o (by have:=R.o.2;omega);obtain⟨rb,ro,rfl,E⟩:=ce.o (by have:=R.o.2;omega);have p0:=D wr A.o i (by have:=R.o.2;omega);have v0:=E wr A.o i (by have:=R.o.2;omega);have bs:ZY s.mem r.1.mem (i+1)=ZY s.mem r.1.mem i+if s.mem.getD i 0=r.1.mem.getD i 0 then 0 else 1:=rfl;have eT:=(cg.o.2.1 i);obtain⟨ma,ea⟩:=ex (s.mem.getD i 0);obtain⟨mb,eb⟩:=ex (r.1.mem.getD i 0);rw[←ea] at p0 bs;rw[←eb] at v0 bs;obtain⟨df,br⟩:=ex (ZY s.mem r.1.mem i);rw[←br] at bs eT ⊢;have bG:=HH bs;clear A D E ea eb br bs;by_cases cC:ma=mb
           ·rw[if_pos cC] at bG;subst cC;go_wp2_with fail;refine ac (by kernel_rfl) (by kernel_rfl) ?_
            iterate 11 (first|go_big_quiet_step (fail)|quiet_step (fail))
            refine ai ?_;intro _ H;obtain⟨nq,K⟩:=H;subst K;go_wp2_with fail
            go_roundw
            case rel=>exact⟨i+1,by omega,by go_num,by rw[bG.o];rfl,JO P.o nq⟩
            case measure=>simp[ak];omega
           ·rw[if_neg cC] at bG;go_wp2_with fail;refine ac (by kernel_rfl) (by kernel_rfl) ?_
            iterate 11 (first|go_big_quiet_step (fail)|quiet_step (fail))
            refine ai ?_;intro _ H;obtain⟨nq,K⟩:=H;subst K;go_wp2_with fail
            go_roundw
            case rel=>exact⟨i+1,by omega,by go_num,by rw[bG.o];go_num,JO P.o nq⟩
            case measure=>simp[ak];omega
          ·obtain rfl:i=m:=by omega
           have eS:=cg.o.2.1 i;have cK:=cg.o.2.2 i;obtain⟨df,br⟩:=ex (ZY s.mem r.1.mem i);rw[←br] at eS cK ⊢;have eD:=HH cK;clear A br cK;by_cases ed:df=1
           ·have fE:=eD.o ed;subst ed;go_wp2_with fail
            go_roundw
            case rel=>exact⟨k+1,by omega,by go_num,bI.o _ P.o⟩
            case measure=>simp[ak];omega
           ·obtain rfl:df=0:=by omega
            go_wp2_with fail
            go_roundw
            case rel=>exact⟨k+1,by omega,by go_num,bI.o _ P.o⟩
            case measure=>simp[ak];omega
      ·rw[show decide (r.2.e=0)=true from decide_eq_true he];go_wp2_with fail
       go_roundw
       case rel=>exact⟨k+1,by omega,by go_num,bI.o _ (ad _ _)⟩
       case measure=>simp[ak];omega
     ·rw[show decide (r.2.e=0)=false from decide_eq_false he];go_wp2_with fail
      go_roundw
      case rel=>exact⟨k+1,by omega,by go_num,bI.o _ (ad _ _)⟩
      case measure=>simp[ak];omega
    ·obtain rfl:k=ops.length:=by omega
     have hU:=A.o;obtain⟨_,_,_,_,dO,_⟩:=hU;have HZ:=HH dO;clear A M hF cI hN dO;go_wp2_with fail;go_ret;exact⟨rfl,aY.o.trans (HZ.o.mono aY.o.size)⟩
  ·go_wp2_with fail;go_ret;exact⟨rfl,aY.o.trans (B2.o.mono aY.o.size)⟩
end Go.Proofs.YtiepijihpgijbaaGreatDoor
