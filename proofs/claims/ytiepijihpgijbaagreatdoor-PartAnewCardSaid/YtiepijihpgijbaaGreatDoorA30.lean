import Derived.Test.YtiepijihpgijbaaGreatDoorA29
set_option maxHeartbeats 16000000
set_option maxRecDepth 1000000
set_option linter.all false
open Go.Value renaming int→I,slice→Y
open Go.IntKind renaming i64→J,u8→U
open Go.Obj renaming cells→T
open Option renaming some→Z,none→O
open Nat renaming zero_le→ab,le_refl→ae,lt_of_lt_of_le→ai
open Go.RowKit.Below renaming refl→ad
open Go renaming heap_alloc_new→ag
open List renaming range→ah
namespace Go.Proofs.YtiepijihpgijbaaGreatDoor
open Go.RowKit Tryz
def cC(B:Nat)(w:World)(ao:Gl B w)(GS:Ce w)(d1:Ad)(aP:ByteArray)(aQ aO:Int)(aR aw ay y:Option Addr)(aC az aB aA:Nat)(h1:Il w d1 aP aQ aO aR aw ay y aC az aB aA)(vb vo:Value)(i ops:List (List Int))(eb:JG w vb i)(ec:JG w vo ops):
  Calls prog 6 #[.agg #[.string aP,I J aQ,I J aO,I J d1.mem,Y aR d1.semas.length aC,I J d1.events,I J d1.boards,Y aw d1.bufs.length az,Y ay d1.Ab.length aB,Y y d1.procs.length aA],vb,vo] w fun e w'=>e=.returned (.bool true)∧Bl w w':=by
 obtain⟨ba,bc,rfl,gS,ek⟩:=eb.at_;obtain⟨oa,oc,rfl,gX,eK⟩:=ec.at_;have ea:16≤w.heap.size:=Nat.le_trans ao.hb ao.hw;obtain⟨h,hW⟩:=ex (w.alloc (T #[.string aP,I J aQ,I J aO,I J d1.mem,Y aR d1.semas.length aC,I J d1.events,I J d1.boards,Y aw d1.bufs.length az,Y ay d1.Ab.length aB,Y y d1.procs.length aA] 26));have l:Bl w h:=by rw[hW];exact(ad _ w).alloc (ae _) _
 have aI:h.heap[w.heap.size]? =Z (T #[.string aP,I J aQ,I J aO,I J d1.mem,Y aR d1.semas.length aC,I J d1.events,I J d1.boards,Y aw d1.bufs.length az,Y ay d1.Ab.length aB,Y y d1.procs.length aA] 26 (0,0)):=by rw[hW];exact ag _ _
 obtain⟨HW,x,aq⟩:=H3 hW l aI;have dz:Hq (∀ W,Bl h W→Calls prog 8 #[] W fun e w'=>e=.returned (.bool true)∧Bl W w'):=fun W d=>by
  have d:=l.trans (d.mono l.size);exact RC B W (ao.below d) (GS.below ea d)
 have cj:Hq (∀ W,Bl h W→Calls prog 9 #[.agg #[.string aP,I J aQ,I J aO,I J d1.mem,Y aR d1.semas.length aC,I J d1.events,I J d1.boards,Y aw d1.bufs.length az,Y ay d1.Ab.length aB,Y y d1.procs.length aA]] W (JD B W d1)):=fun W d=>by
  have d:=l.trans (d.mono l.size);exact P0 B (h1.below d) (ao.below d) (GS.below ea d)
 have fc:Hq (0<i.length→∃ b j,ba=Z ⟨b,j,O⟩∧b<h.heap.size∧∀ k (D:k<i.length),∃ (a:Option Addr) (c:Nat),∀ W,Bl h W→W.cell? ⟨b,j+k,O⟩=Z (.slice a i[k].length c)∧Af J W 0 (.slice a i[k].length c) i[k]):=fun h0=>by
  obtain⟨b,j,e,n,hc⟩:=ek h0;refine⟨b,j,e,ai n l.size,fun k D=>?_⟩;obtain⟨a,c,h3,h4⟩:=hc k D;refine⟨a,c,fun W d=>?_⟩;have d:=l.trans (d.mono l.size);exact⟨(d.cell (p:=⟨b,j+k,O⟩) n).trans h3,h4.Iq d⟩
 have fd:Hq (0<ops.length→∃ b j,oa=Z ⟨b,j,O⟩∧b<h.heap.size∧∀ k (D:k<ops.length),∃ (a:Option Addr) (c:Nat),∀ W,Bl h W→W.cell? ⟨b,j+k,O⟩=Z (.slice a ops[k].length c)∧Af J W 0 (.slice a ops[k].length c) ops[k]):=fun h0=>by
  obtain⟨b,j,e,n,hc⟩:=eK h0;refine⟨b,j,e,ai n l.size,fun k D=>?_⟩;obtain⟨a,c,h3,h4⟩:=hc k D;refine⟨a,c,fun W d=>?_⟩;have d:=l.trans (d.mono l.size);exact⟨(d.cell (p:=⟨b,j+k,O⟩) n).trans h3,h4.Iq d⟩
 clear hW l aI ao GS h1 eb ec eK ek;go_enter func6,ntmps6;go_wp2_with fail;rw[←HW.o];refine(dz.o h (ad _ _)).mono ?_;rintro e w1 ⟨rfl,d⟩;have B1:=HH d;clear d dz;obtain⟨q,hq⟩:=ex w.heap.size;rw[←hq] at aq ⊢;have HQ:=HH hq;clear hq;have aJ:=((B1.o).block _ (Aa aq.o)).trans aq.o;obtain⟨x0,P,Q,R,S,V,H,X,x8,x9⟩:=DV aJ;clear aJ;go_wp2_with fail;refine(cj.o w1 B1.o).mono ?_;rintro e w2 E;clear x0 P Q R S V H X x8 x9;cases M:E6 d1 with
 |false=>
  have bl:=HH E.1;have c1:=E.2;rw[M] at c1;simp only[Bool.false_eq_true,if_false] at c1;subst c1;clear E;go_wp2_with fail;go_ret;have h1:=B1.o;exact⟨rfl,x.o.trans ((h1.trans (bl.o.mono h1.size)).mono x.o.size)⟩
 |true=>
  have hC:=HH M;obtain⟨g1,rfl,eW⟩:=Wd.new (N:=h.heap.size) (w0:=h) E M B1.o B1.o.size;have HT:=HH eW;clear E eW M;by_cases gV:(i.length:Int)≤60
  ·by_cases gW:(ops.length:Int)≤60
   ·skip;go_wp2_with fail
    go_loopw [9] (fun v wr=>∃ k:Nat,k≤i.length∧v=I J k∧Hq (∃ s,Wd B h.heap.size h wr g1 d1 s)) (fun v _=>i.length-(intOf v).toNat)
    case atStart=>exact⟨0,ab _,rfl,_,HT.o⟩
    case round=>
     obtain⟨k,fM,rfl,A⟩:=hrel;obtain⟨s,m⟩:=A.o;by_cases D:k<i.length
     ·have C:=m.bel;have fO:(k:Int)<(i.length:Int):=by omega
      obtain⟨ob,j,rfl,c2,aK⟩:=fc.o (by omega);obtain⟨ua,uc,z⟩:=aK k D;have fN:k<bc:=by omega
      obtain⟨op,aL⟩:=ex (i[k]);rw[←aL] at z;have bw:=HH z;obtain⟨c6,aM⟩:=z wr C;have ac:=HH (cD m _ op aM);clear A m C aK aL aM c2 z bw;go_wp2_with fail;refine ac.o.mono ?_;rintro e u1 ⟨v,rfl,_,eV⟩;have fg:=HH eV;clear eV ac c6;go_wp2_with fail
      go_roundw
      case rel=>exact⟨k+1,by omega,by go_num,_,fg.o⟩
      case measure=>simp[intOf];omega
     ·obtain rfl:k=i.length:=by omega
      have HS:=HH m;clear A m;go_wp2_with fail;refine(bN HS.o).mono ?_;rintro e v1 ⟨⟨a1,a2,a3,a4,a5,a6,a7,a8,y,ax,cu,cv,cw,cx,cy,cz,n8,rfl,eS,_⟩,aI⟩;have ck:Hq (Af U v1 _ (Y a2 s.mem.length ax) s.mem):=JJ.me eS;have HK:=HH aI;clear eS aI HS;have f:=cE s.mode s.clock a1 a2 a3 a4 a5 a6 a7 a8 s.procs.length y s.mem.length ax s.semas.length cu s.events.length cv s.boards.length cw s.queues.length cx s.queues.length cy n8 cz;go_wp2_with fail;clear f;refine(Zt HK.o.wd).mono ?_;rintro e v2 ⟨b1,b2,b3,b4,b5,b6,b7,b8,cN,bd,cO,cP,cQ,cR,cS,cT,m8,rfl,-,bl⟩;have dJ:=HH (HK.o.below bl);clear HK bl;have f:=Uu s.mode s.clock b1 b2 b3 b4 b5 b6 b7 b8 s.procs.length cN s.mem.length bd s.semas.length cO s.events.length cP s.boards.length cQ s.queues.length cR s.queues.length cS m8 cT;go_wp2_with fail;clear f;refine(bU dJ.o (-1)).mono ?_;rintro e v3 ⟨rfl,u,eG,et,M,ez⟩;obtain⟨cc,bx,dK,dA⟩:=H4 ez et eG M;clear ez et eG M dJ;go_wp2_with fail;refine(Zt cc.o.wd).mono ?_;rintro e v4 ⟨e1,e2,e3,e4,e5,e6,e7,e8,fs,dY,ft,fu,fv,fw,fx,fy,k8,rfl,eU,aG⟩;have dR:Hq (Af U v4 _ (Y e2 u.mem.length dY) u.mem):=JJ.me eU;have cd:=HH (cc.o.below aG);clear cc aG eU;have f:=cE u.mode u.clock e1 e2 e3 e4 e5 e6 e7 e8 u.procs.length fs u.mem.length dY u.semas.length ft u.events.length fu u.boards.length fv u.queues.length fw u.queues.length fx k8 fy;go_wp2_with fail;clear f;refine(bX cd.o dR.o ck.o bx.o).mono ?_;rintro e v5 ⟨rfl,eg⟩;have dH:=HH (cd.o.below eg);clear cd dR eg;go_wp2_with fail;refine(bY dH.o dK.o _ dA.o).mono ?_;rintro e v6 ⟨tk,ta,tb,aa,na,ca,af,nf,cf,tn,rfl,fL,F,eH,eu,eA⟩;obtain⟨U6,bj⟩:=ex (v6.alloc (T #[I J (-1),I U tk,I J ta,I J tb,Y aa na ca,Y af nf cf] 43));have em:Bl v6 U6:=by rw[bj];exact(ad _ v6).alloc (ae _) _
      have eC:U6.heap[v6.heap.size]? =Z (T #[I J (-1),I U tk,I J ta,I J tb,Y aa na ca,Y af nf cf] 43 (0,0)):=by rw[bj];exact ag _ _
      obtain⟨ce,dL,dD,fl⟩:=H4 (eA.below em) eH (eu.trans bx.o) bj;clear bj em eA eH eu dH bx dK dA;rcases fL with ⟨fP,rfl⟩|⟨fP,rfl⟩
      all_goals
       go_upto_region 15 with (fail);rw[←fl.o];have t0:U6.cell? ⟨v6.heap.size,0,O⟩=Z (I J (-1)):=Cr eC;clear eC;go_wp2_with fail;clear t0;refine(Zt ce.o.wd).mono ?_;rintro e v7 ⟨f1,f2,f3,f4,f5,f6,f7,f8,fz,fA,fB,fC,fD,fE,fF,fG,i8,rfl,-,eh⟩;rw[dL.o];have dI:=HH (ce.o.below eh);clear eh ce;have f:=cG 4 F.clock f1 f2 f3 f4 f5 f6 f7 f8 F.procs.length fz F.mem.length fA F.semas.length fB F.events.length fC F.boards.length fD F.queues.length fE F.queues.length fF i8 fG;go_wp2_with fail;clear f;refine(bR dI.o 99).mono ?_;rintro e v8 ⟨rfl,g,eI,ev,-,eB⟩;obtain⟨cg,dM,dE⟩:=H3 eB eI (ev.trans dD.o);clear eB eI ev dI dD dL;go_wp2_with fail;refine(Zt cg.o.wd).mono ?_;rintro e v9 ⟨P,Q,R,S,V,H,X,x8,de,df,dh,di,dj,bn,dk,dl,j8,rfl,-,ei⟩;rw[dM.o];have ch:=HH (cg.o.below ei);clear ei cg;have f:=cG 2 g.clock P Q R S V H X x8 g.procs.length de g.mem.length df g.semas.length dh g.events.length di g.boards.length dj g.queues.length bn g.queues.length dk j8 dl;go_wp2_with fail;clear f;refine(Zt ch.o.wd).mono ?_;rintro e gn ⟨y1,y2,y3,y4,y5,y6,y7,y8,dt,bq,du,dv,dw,br,dx,dy,l8,rfl,eT,ed⟩;have dP:Hq (Af U gn _ (Y y2 g.mem.length bq) g.mem):=JJ.me eT;have b0:=HH (ch.o.below ed);clear ed eT ch dM;have f:=cE g.mode g.clock y1 y2 y3 y4 y5 y6 y7 y8 g.procs.length dt g.mem.length bq g.semas.length du g.events.length dv g.boards.length dw g.queues.length br g.queues.length dx l8 dy;go_wp2_with fail;clear f;refine(bX b0.o dP.o ck.o dE.o).mono ?_;rintro e g0 ⟨rfl,ee⟩;have dG:=HH (b0.o.below ee);clear ee b0 dP;go_wp2_with fail;refine(bS dG.o 0).mono ?_;rintro e go ⟨rfl,ey⟩;have cl:=HH ey.wd;clear ey dG ck dE;have C:=cl.o.bel;have aJ:=((C).block _ (Aa aq.o)).trans aq.o;obtain⟨x0,P,Q,R,S,V,H,X,x8,x9⟩:=DV aJ;clear aJ;go_wp2_with fail;refine(cj.o go C).mono ?_;rintro e g3 E;obtain⟨g2,rfl,es⟩:=aW.new cl.o E hC.o;have aU:=HH es;clear E es C cl cj x0 P Q R S V H X x8 x9;obtain⟨c,hc⟩:=ex g.clock;rw[←hc] at aU;clear hc;go_wp2_with fail;refine(b9 aU.o).mono ?_;rintro e g4 ⟨z1,z2,z3,z4,z5,z6,z7,z8,gH,gI,gJ,gK,gL,gM,gN,gO,o8,rfl,-,ef⟩;rw[show (bA d1 c).clock=c from rfl];have ap:=HH (aU.o.below ef);clear ef aU;have f:=Uu (bA d1 c).mode c z1 z2 z3 z4 z5 z6 z7 z8 (bA d1 c).procs.length gH (bA d1 c).mem.length gI (bA d1 c).semas.length gJ (bA d1 c).events.length gK (bA d1 c).boards.length gL (bA d1 c).queues.length gM (bA d1 c).queues.length gN o8 gO;have gU:0≤c:=ap.o.bW.ok.clock.1;by_cases gT:c≤1073740824
       ·go_wp2_with fail;clear f;refine(bV ap.o 0).mono ?_;rintro e g5 ⟨rfl,t1,eJ,eo,ep⟩;obtain⟨aV,ci⟩:=H2 ep eJ;have aT:Hq (t1.clock=0):=eo;clear ep eJ eo ap;by_cases gY:0<c
        case' pos=>
         go_wp2_with fail;refine(bZ aV.o ci.o (c-1) (by have:=aT.o;omega) (by omega)).mono ?_;rintro e db ⟨r1,r2,r3,r4,xa,xn,xc,xf,xg,xh,rfl,t2,fK,eq⟩;obtain⟨fn,cZ⟩:=ex (db.alloc (T #[I J r1,I U r2,I J r3,I J r4,Y xa xn xc,Y xf xg xh] 43));have en:Bl db fn:=by rw[cZ];exact(ad _ db).alloc (ae _) _
         obtain⟨dC,dQ⟩:=H2 (eq.below en) cZ;have dB:Hq (t2.clock=c):=by
          show t2.clock=c;omega
         clear cZ en eq fK aV ci aT;go_upto_region 26 with (fail);rw[←dQ.o];go_wp2_with fail;refine(bT dC.o 0 c dB.o).mono ?_;clear dB dC dQ;rintro e gp ⟨rfl,aH⟩;have HT:=HH aH;clear aH
        case' neg=>
         go_wp2_with fail;refine(bT aV.o 0 c (by have:=aT.o;omega)).mono ?_;clear aT ci aV;rintro e gp ⟨rfl,aH⟩;have HT:=HH aH;clear aH
        all_goals
         go_wp2_with fail
         go_loopw [18,19,20,21,22] (fun v _ _ _ _ wr=>∃ k:Nat,k≤ops.length∧v=I J k∧Hq (∃ s,aW B h.heap.size h g1 g2 d1 s s wr)) (fun v _ _ _ _ _=>ops.length-(intOf v).toNat)
         case atStart=>exact⟨0,ab _,rfl,_,HT.o⟩
         case round=>
          obtain⟨k,fM,rfl,A⟩:=hrel;obtain⟨s,m⟩:=A.o;by_cases D:k<ops.length
          ·have C:=m.bel;have fO:(k:Int)<(ops.length:Int):=by omega
           obtain⟨ob,j,rfl,c2,aK⟩:=fd.o (by omega);obtain⟨ua,uc,z⟩:=aK k D;have fN:k<oc:=by omega
           obtain⟨op,aL⟩:=ex (ops[k]);rw[←aL] at z;have bw:=HH z;obtain⟨c6,aM⟩:=z wr C;obtain⟨ac,dF⟩:=H2 (bC m _ op aM) (bQ op m.bW);obtain⟨r,hr⟩:=ex (Fl d1 op s);rw[←hr] at ac dF;have HR:=HH hr;clear A m C aK aL aM c2 z hr;go_wp2_with fail;refine ac.o.mono ?_;rintro e u1 ⟨v,rfl,⟨aa,na,ca,af,cf,rfl,eL⟩,ew,eQ⟩;obtain⟨U1,bh⟩:=ex (u1.alloc (T #[I J r.2.ran,I U r.2.act.kind,I J r.2.act.a,I J r.2.act.b,Y aa na ca,.slice af r.2.faults.length cf] 43));have bm:Bl u1 U1:=by rw[bh];exact(ad _ u1).alloc (ae _) _
           have eD:U1.heap[u1.heap.size]? =Z (T #[I J r.2.ran,I U r.2.act.kind,I J r.2.act.a,I J r.2.act.b,Y aa na ca,.slice af r.2.faults.length cf] 43 (0,0)):=by rw[bh];exact ag _ _
           have c0:=ew.below bm;have ej:Bl h U1:=c0.bel;obtain⟨fQ,eP⟩:=bw.o U1 ej;have bu:=HH (bD c0 _ op eP);rw[←HR.o] at bu;obtain⟨dN,aZ,ff,fj⟩:=H4 (eL.Ag bm.size fun b _ h2=>bm.block b h2) eD eQ bh;clear bh bm eD ew c0 ej eP eL eQ ac c6;go_upto_region 33 with (fail);rw[←fj.o];go_wp2_with fail;refine bu.o.mono ?_;rintro e u3 ⟨v3,rfl,⟨dS,nb,cb,bf,dV,rfl,eM⟩,er,eR,c3⟩;obtain⟨U3,bi⟩:=ex (u3.alloc (T #[I J r.2.ran,I U r.2.act.kind,I J r.2.act.a,I J r.2.act.b,Y dS nb cb,.slice bf r.2.faults.length dV] 43));have L:Bl u3 U3:=by rw[bi];exact(ad _ u3).alloc (ae _) _
           have eE:U3.heap[u3.heap.size]? =Z (T #[I J r.2.ran,I U r.2.act.kind,I J r.2.act.a,I J r.2.act.b,Y dS nb cb,.slice bf r.2.faults.length dV] 43 (0,0)):=by rw[bi];exact ag _ _
           have eF:U3.heap[u1.heap.size]? =Z (T #[I J r.2.ran,I U r.2.act.kind,I J r.2.act.a,I J r.2.act.b,Y aa na ca,.slice af r.2.faults.length cf] 43 (0,0)):=(L.block _ (by have:=Aa aZ.o;omega)).trans ((c3 _ ff.o (Aa aZ.o)).trans aZ.o);have eN:=(dN.o.Ag eR c3).Ag L.size fun b _ h2=>L.block b h2
           have eO:=eM.Ag L.size fun b _ h2=>L.block b h2
           have dO:=HH (Nd _ _ r.2.faults r.2.faults U3 (eN.mono (ab _)) (eO.mono (ab _)) (by have:=dF.o;omega));rw[show decide (r.2.faults=r.2.faults)=true from decide_eq_true rfl] at dO;obtain⟨fi,fk⟩:=H2 (er.below L) bi;obtain⟨m0,m1,m2,m3,m4,m5⟩:=r6 eF;obtain⟨n0,n1,n2,n3,n4,n5⟩:=r6 eE;clear bi L eE eF eN eO eM er eR c3 fQ bu aZ dN;generalize decide (r.2.e=0)=be at*;go_upto_region 34 with (fail);rw[←fk.o];go_wp2_with fail;refine dO.o.mono ?_;rintro e U4 ⟨rfl,aG⟩;have fh:=HH (fi.o.below aG);clear aG m0 n0 m1 n1 m2 n2 m3 n3 m4 n4 m5 n5;go_wp2_with fail
           go_roundw
           case rel=>exact⟨k+1,by omega,by go_num,_,fh.o⟩
           case measure=>simp[intOf];omega
          ·obtain rfl:k=ops.length:=by omega
           have HS:=HH m;clear A m;go_wp2_with fail;refine(b9 HS.o).mono ?_;rintro e e1 ⟨a1,a2,a3,a4,a5,a6,a7,a8,y,ax,cu,cv,cw,cx,cy,cz,n8,rfl,t,d⟩;have R1:Hq (Af U e1 0 (Y a2 s.mem.length ax) s.mem):=Sl.mono (JJ.me t) (ab _);have H1:=HH (HS.o.below d);clear t d HS;have f:=cE s.mode s.clock a1 a2 a3 a4 a5 a6 a7 a8 s.procs.length y s.mem.length ax s.semas.length cu s.events.length cv s.boards.length cw s.queues.length cx s.queues.length cy n8 cz;go_wp2_with fail;clear f;refine(cB H1.o).mono ?_;rintro e e2 ⟨b1,b2,b3,b4,b5,b6,b7,b8,cN,bd,cO,cP,cQ,cR,cS,cT,m8,rfl,t,d⟩;have R2:Hq (Af U e2 0 (Y b2 s.mem.length bd) s.mem):=Sl.mono (JJ.me t) (ab _);obtain⟨au,H2⟩:=H2 (R1.o.Iq d) (H1.o.below d);clear t d H1 R1;have n:s.mem.length≤1000000:=by have:=H2.o.bW.ok.mem;have:=H2.o.bW.ok.ok.mem;omega
           have K:=HH (YI _ _ _ _ e2 au.o R2.o n);rw[show decide (s.mem=s.mem)=true from decide_eq_true rfl] at K;clear n;have f:=cE s.mode s.clock b1 b2 b3 b4 b5 b6 b7 b8 s.procs.length cN s.mem.length bd s.semas.length cO s.events.length cP s.boards.length cQ s.queues.length cR s.queues.length cS m8 cT;go_wp2_with fail;clear f;refine K.o.mono ?_;rintro e e3 ⟨rfl,d⟩;have H3:=HH (H2.o.below d);clear d H2 K au R2;go_wp2_with fail;refine(b9 H3.o).mono ?_;rintro e e4 ⟨P,Q,R,S,V,H,X,x8,de,df,dh,di,dj,bn,dk,dl,j8,rfl,t,d⟩;have R1:Hq (Af J e4 0 (Y H s.queues.length bn) ((ah s.queues.length).map (portN s))):=Sl.mono (JJ.po t) (ab _);have H4:=HH (H3.o.below d);clear t d H3;have f:=cH s.mode s.clock P Q R S V H X x8 s.procs.length de s.mem.length df s.semas.length dh s.events.length di s.boards.length dj s.queues.length bn s.queues.length dk j8 dl;go_wp2_with fail;clear f;refine(cB H4.o).mono ?_;rintro e e5 ⟨y1,y2,y3,y4,y5,y6,y7,y8,dt,bq,du,dv,dw,br,dx,dy,l8,rfl,t,d⟩;have R2:Hq (Af J e5 0 (Y y6 s.queues.length br) ((ah s.queues.length).map (portN s))):=Sl.mono (JJ.po t) (ab _);obtain⟨au,H5⟩:=H2 (R1.o.Iq d) (H4.o.below d);clear t d H4 R1;have n:((ah s.queues.length).map (portN s)).length≤1000000:=by rw[List.length_map,List.length_range];have:=H5.o.bW.ok.queues;have:=H5.o.bW.ok.ok.Ab;omega
           have K:=HH (Qp _ _ _ _ e5 au.o R2.o n);rw[decide_eq_true rfl] at K;clear n;have f:=cH s.mode s.clock y1 y2 y3 y4 y5 y6 y7 y8 s.procs.length dt s.mem.length bq s.semas.length du s.events.length dv s.boards.length dw s.queues.length br s.queues.length dx l8 dy;go_wp2_with fail;clear f;refine K.o.mono ?_;rintro e e6 ⟨rfl,d⟩;have hz:=HH (H5.o.below d).bel;clear d H5 K au R2;go_wp2_with fail;go_ret;exact⟨rfl,x.o.trans ((hz.o).mono x.o.size)⟩
       ·have fJ:=HH ap.o.bel;clear ap;go_wp2_with fail;go_ret;exact⟨rfl,x.o.trans ((fJ.o).mono x.o.size)⟩
   ·have hz:=HH HT.o.bel;go_wp2_with fail;go_ret;exact⟨rfl,x.o.trans ((hz.o).mono x.o.size)⟩
  ·have hz:=HH HT.o.bel;go_wp2_with fail;go_ret;exact⟨rfl,x.o.trans ((hz.o).mono x.o.size)⟩
end Go.Proofs.YtiepijihpgijbaaGreatDoor
