import Derived.Test.YtiepijihpgijbaaGreatDoorQ24
set_option maxHeartbeats 16000000
set_option maxRecDepth 1000000
set_option linter.all false
open Go.Value renaming slice→Y,int→I,pointer→G
open Go.IntKind renaming i64→J,u8→U
open Go.Obj renaming cells→T
open Option renaming some→Z,none→O
open Nat renaming zero_le→ag,le_refl→al,lt_of_lt_of_le→ap,le_trans→aq
open And renaming intro→ah
open Go.RowKit.Below renaming refl→ai
open Bool renaming false_eq_true→aj
open Go renaming heap_alloc_new→am,Calls→aw,World→ay
open List renaming range→ax,length_map→az
namespace Go.Proofs.YtiepijihpgijbaaGreatDoor
open Go.RowKit Tryz
def Hk(i:Bool)(B N:Nat)(e:ay)(f g h:Nat)(d1 d2:Ad)(wr:ay):Prop:=∃ (s sz:Ae) (a c d:Nat→Prop),Lv B wr a f d1 s∧Lv B wr c g d1 s∧(i=true→Lv B wr d h d2 sz)∧Ap a c∧Ap a d∧Ap c d∧(∀ b,a b→N≤b)∧(∀ b,c b→N≤b)∧(∀ b,d b→N≤b∧b<wr.heap.size∧B≤b)∧Below N e wr∧N≤wr.heap.size
def Fr.bel{F:Nat→Prop}{w w':ay}{N:Nat}(h:Fr F w w')(a:∀ b,F b→N≤b)(c:N≤w.heap.size):Below N w w':=h.low a c
def BJ.fr{F:Nat→Prop}{w w':ay}{B:Nat}{v:Value}{l:List CG}(h:BJ w B v l)(a:Fr F w w')(e:∀ b,F b→b<B):BJ w' B v l:=h.Ag a.size fun b f c=>a.block b c fun d=>by have:=e b d;omega
def Zc{d:Ad}{s:Ae}{now:Int}(h:s.procs.length≤6):(A3 d now s).2.faults.length≤7:=by
 have a:∀ p:Ae,p.procs.length≤6→(CP now p).2.length≤6:=fun p b=>aq (KH now p.procs 0) b;have c:=a (Dl d now {s with clock:=now+1}) (by rw[Qm];exact h);unfold A3;split
 ·exact ag _
 ·split
  ·exact ag _
  ·split
   ·exact ag _
   ·simp only[];split
    ·show(CP now (Dl d now {s with clock:=now+1})).2.length≤7;omega
    ·split
     ·rw[List.length_append];show(CP now (Dl d now {s with clock:=now+1})).2.length+1≤7;omega
     ·show(CP now (Dl d now {s with clock:=now+1})).2.length≤7;omega
def NU{d:Ad}{s:Ae}(b:List Int)(h:Good d s):(Fl d b s).2.faults.length≤7:=by
 have a:s.procs.length≤6:=by rw[h.ok.procs];exact h.ok.ok.procs
 unfold Fl;split
 ·exact ag _
 ·split
  ·exact ag _
  ·split
   ·exact ag _
   ·split
    ·exact ag _
    ·exact Zc a
def QO{B:Nat}{w0 t u W:ay}{F:Nat→Prop}{g v w:Nat}{d:Ad}{s:Ae}{x i j y z k A C D l m E H n K L:Option Addr}{c1 c2 c3 c4 c5 o M N n8 P p q Q R r S V X:Nat}(h:Lv B w0 F g d s)(a:LM x i j y z k A C c1 c2 c3 c4 c5 o M N n8 t v s)(b:LM D l m E H n K L P p q Q R r S V X u w s)(c:Bl t W)(f:Bl u W):
  aw prog 14 #[Y i s.mem.length c2,Y l s.mem.length p] W (fun e w'=>e=.returned (.bool true)∧Bl W w')∧
  aw prog 15 #[Y j s.semas.length c3,Y m s.semas.length q] W (fun e w'=>e=.returned (.bool true)∧Bl W w')∧
  aw prog 15 #[Y k s.queues.length o,Y n s.queues.length r] W (fun e w'=>e=.returned (.bool true)∧Bl W w'):=by
 have a:JJ _ _ _ _ _ _ _ _ _ _ _:=a;have b:JJ _ _ _ _ _ _ _ _ _ _ _:=b;have ok:=h.good.ok;have ad:s.queues.length≤8:=by have:=ok.queues;have:=ok.ok.Ab;omega
 have ae:s.semas.length≤8:=by have:=ok.semas;have:=ok.ok.semas;omega
 have ac:s.mem.length≤4096:=by have:=ok.mem;have:=ok.ok.mem;omega
 refine⟨?_,?_,?_⟩
 ·have:=YI _ _ s.mem s.mem W (Af.Iq (Sl.mono a.me (ag _)) c) (Af.Iq (Sl.mono b.me (ag _)) f) (by omega);rw[show decide (s.mem=s.mem)=true from decide_eq_true rfl] at this;exact this
 ·have:=Qp _ _ (s.semas.map DJ) (s.semas.map DJ) W (Af.Iq (Sl.mono a.se (ag _)) c) (Af.Iq (Sl.mono b.se (ag _)) f) (by rw[az];omega);rw[show decide (s.semas.map DJ=s.semas.map DJ)=true from decide_eq_true rfl] at this;exact this
 ·have:=Qp _ _ ((ax s.queues.length).map (portN s)) ((ax s.queues.length).map (portN s)) W (Af.Iq (Sl.mono a.po (ag _)) c) (Af.Iq (Sl.mono b.po (ag _)) f) (by rw[az,List.length_range];omega);rw[show decide ((ax s.queues.length).map (portN s)=(ax s.queues.length).map (portN s))=true from decide_eq_true rfl] at this;exact this
def BJ.bel{w w':ay}{B:Nat}{v:Value}{l:List CG}(h:BJ w B v l)(a:Bl w w'):BJ w' B v l:=h.Ag a.size fun b _ c=>a.block b c
def XZ(B:Nat)(w:ay)(bj:Gl B w)(GS:Ce w)(d1:Ad)(dD:ByteArray)(dF dy:Int)(dI b9 cg cd:Option Addr)(cE cy cC cB:Nat)(d2:Ad)(dE:ByteArray)(dG dz:Int)(dJ cc ch ce:Option Addr)(cF cz cD cc2:Nat)(h1:Il w d1 dD dF dy dI b9 cg cd cE cy cC cB)(h2:Il w d2 dE dG dz dJ cc ch ce cF cz cD cc2)(vo:Value)(ops:List (List Int))(hO:JG w vo ops):
  aw prog 5 #[.agg #[.string dD,I J dF,I J dy,I J d1.mem,Y dI d1.semas.length cE,I J d1.events,I J d1.boards,Y b9 d1.bufs.length cy,Y cg d1.Ab.length cC,Y cd d1.procs.length cB],.agg #[.string dE,I J dG,I J dz,I J d2.mem,Y dJ d2.semas.length cF,I J d2.events,I J d2.boards,Y cc d2.bufs.length cz,Y ch d2.Ab.length cD,Y ce d2.procs.length cc2],vo] w fun e w'=>e=.returned (.bool true)∧Bl w w':=by
 obtain⟨oa,oc,rfl,ge,fD⟩:=hO.at_;have ez:16≤w.heap.size:=aq bj.hb bj.hw;obtain⟨f,hW⟩:=ex ((w.alloc (T #[.string dD,I J dF,I J dy,I J d1.mem,Y dI d1.semas.length cE,I J d1.events,I J d1.boards,Y b9 d1.bufs.length cy,Y cg d1.Ab.length cC,Y cd d1.procs.length cB] 26)).alloc (T #[.string dE,I J dG,I J dz,I J d2.mem,Y dJ d2.semas.length cF,I J d2.events,I J d2.boards,Y cc d2.bufs.length cz,Y ch d2.Ab.length cD,Y ce d2.procs.length cc2] 26));have au:Bl w f:=by rw[hW];exact DX w _ _
 have bd:f.heap[w.heap.size]? =Z (T #[.string dD,I J dF,I J dy,I J d1.mem,Y dI d1.semas.length cE,I J d1.events,I J d1.boards,Y b9 d1.bufs.length cy,Y cg d1.Ab.length cC,Y cd d1.procs.length cB] 26 (0,0)):=by rw[hW];exact(Da w _ _).1
 have bg:f.heap[w.heap.size+1]? =Z (T #[.string dE,I J dG,I J dz,I J d2.mem,Y dJ d2.semas.length cF,I J d2.events,I J d2.boards,Y cc d2.bufs.length cz,Y ch d2.Ab.length cD,Y ce d2.procs.length cc2] 26 (0,0)):=by rw[hW];exact(Da w _ _).2
 obtain⟨HW,u,aO,bN⟩:=H4 hW au bd bg;have ff:Hq (∀ W,Bl f W→aw prog 8 #[] W fun e w'=>e=.returned (.bool true)∧Bl W w'):=fun W d=>by
  have d:=au.trans (d.mono au.size);exact RC B W (bj.below d) (GS.below ez d)
 have dS:Hq (∀ W,Bl f W→aw prog 9 #[.agg #[.string dD,I J dF,I J dy,I J d1.mem,Y dI d1.semas.length cE,I J d1.events,I J d1.boards,Y b9 d1.bufs.length cy,Y cg d1.Ab.length cC,Y cd d1.procs.length cB]] W (JD B W d1)):=fun W d=>by
  have d:=au.trans (d.mono au.size);exact P0 B (h1.below d) (bj.below d) (GS.below ez d)
 have fj:Hq (∀ W,Bl f W→aw prog 9 #[.agg #[.string dE,I J dG,I J dz,I J d2.mem,Y dJ d2.semas.length cF,I J d2.events,I J d2.boards,Y cc d2.bufs.length cz,Y ch d2.Ab.length cD,Y ce d2.procs.length cc2]] W (JD B W d2)):=fun W d=>by
  have d:=au.trans (d.mono au.size);exact P0 B (h2.below d) (bj.below d) (GS.below ez d)
 have fk:Hq (0<ops.length→∃ b bC,oa=Z ⟨b,bC,O⟩∧b<f.heap.size∧∀ k (hk:k<ops.length),∃ (a:Option Addr) (c:Nat),∀ W,Bl f W→W.cell? ⟨b,bC+k,O⟩=Z (.slice a ops[k].length c)∧Af J W 0 (.slice a ops[k].length c) ops[k]):=fun h0=>by
  obtain⟨b,bC,e,hl,hc⟩:=fD h0;refine⟨b,bC,e,ap hl au.size,fun k hk=>?_⟩;obtain⟨a,c,h3,h4⟩:=hc k hk;refine⟨a,c,fun W d=>?_⟩;have d:=au.trans (d.mono au.size);exact⟨(d.cell (p:=⟨b,bC+k,O⟩) hl).trans h3,h4.Iq d⟩
 have gc:=HH bj.hw;clear hW au bd bg bj GS h1 h2 hO fD;go_enter func5,ntmps5;go_wp2_with fail;rw[←HW.o];refine(ff.o f (ai _ _)).mono ?_;rintro e w1 ⟨rfl,d⟩;have B1:=HH d;clear d ff;obtain⟨q,hq⟩:=ex w.heap.size;rw[←hq] at aO bN ⊢;have HQ:=HH hq;clear hq;cases dV:E6 d1 with
 |false=>
  have l:=(B1.o.block _ (Aa aO.o)).trans aO.o;obtain⟨x0,x1,x2,x3,x4,x5,x6,x7,x8,x9⟩:=DV l;clear l;go_wp2_with fail;refine(dS.o w1 B1.o).mono ?_;rintro e w2 g;have ed:=HH g.1;have B2:=HH (B1.o.trans (g.1.mono B1.o.size));clear x0 x1 x2 x3 x4 x5 x6 x7 x8 x9;have eU:=g.2;rw[dV] at eU;simp only[aj,if_false] at eU;subst eU;clear g;have l:=(B2.o.block _ (Aa aO.o)).trans aO.o;obtain⟨x0,x1,x2,x3,x4,x5,x6,x7,x8,x9⟩:=DV l;clear l;go_wp2_with fail;refine(dS.o w2 B2.o).mono ?_;rintro e w3 g;have ee:=HH g.1;have B3:=HH (B2.o.trans (g.1.mono B2.o.size));clear x0 x1 x2 x3 x4 x5 x6 x7 x8 x9;have eW:=g.2;rw[dV] at eW;simp only[aj,if_false] at eW;subst eW;clear g;have l:=(B3.o.block _ (Aa bN.o)).trans bN.o;obtain⟨x0,x1,x2,x3,x4,x5,x6,x7,x8,x9⟩:=DV l;clear l;go_wp2_with fail;refine(fj.o w3 B3.o).mono ?_;rintro e w4 g;have ef:=HH g.1;have B4:=HH (B3.o.trans (g.1.mono B3.o.size));clear x0 x1 x2 x3 x4 x5 x6 x7 x8 x9;cases c0:E6 d2 with
  |false=>
   have bB:=g.2;rw[c0] at bB;simp only[aj,if_false] at bB;subst bB;clear g;by_cases ey:(ops.length:Int)≤120
   ·go_wp2_with fail;go_ret;exact⟨rfl,u.o.trans (B4.o.mono u.o.size)⟩
   ·go_wp2_with fail;go_ret;exact⟨rfl,u.o.trans (B4.o.mono u.o.size)⟩
  |true=>
   have D:=g.2;rw[c0] at D;simp only[if_true] at D;obtain⟨g3,F3,rfl,dc,cR⟩:=D;obtain⟨fi,dR⟩:=H2 dc cR;clear g dc cR;by_cases ey:(ops.length:Int)≤120
   ·go_wp2_with fail;go_ret;exact⟨rfl,u.o.trans (B4.o.mono u.o.size)⟩
   ·go_wp2_with fail;go_ret;exact⟨rfl,u.o.trans (B4.o.mono u.o.size)⟩
 |true=>
  have l:=(B1.o.block _ (Aa aO.o)).trans aO.o;obtain⟨x0,x1,x2,x3,x4,x5,x6,x7,x8,x9⟩:=DV l;clear l;go_wp2_with fail;refine(dS.o w1 B1.o).mono ?_;rintro e w2 g;have ed:=HH g.1;have B2:=HH (B1.o.trans (g.1.mono B1.o.size));clear x0 x1 x2 x3 x4 x5 x6 x7 x8 x9;have D:=g.2;rw[dV] at D;simp only[if_true] at D;obtain⟨V,F1,rfl,fB,ft⟩:=D;obtain⟨bO,fg⟩:=H2 fB ft;clear g fB ft;have l:=(B2.o.block _ (Aa aO.o)).trans aO.o;obtain⟨x0,x1,x2,x3,x4,x5,x6,x7,x8,x9⟩:=DV l;clear l;go_wp2_with fail;refine(dS.o w2 B2.o).mono ?_;rintro e w3 g;have ee:=HH g.1;have B3:=HH (B2.o.trans (g.1.mono B2.o.size));clear x0 x1 x2 x3 x4 x5 x6 x7 x8 x9;have D:=g.2;rw[dV] at D;simp only[if_true] at D;obtain⟨X,F2,rfl,fC,fu⟩:=D;obtain⟨eh,dQ⟩:=H2 fC fu;clear g fC fu;have l:=(B3.o.block _ (Aa bN.o)).trans bN.o;obtain⟨x0,x1,x2,x3,x4,x5,x6,x7,x8,x9⟩:=DV l;clear l;go_wp2_with fail;refine(fj.o w3 B3.o).mono ?_;rintro e w4 g;have ef:=HH g.1;have B4:=HH (B3.o.trans (g.1.mono B3.o.size));clear x0 x1 x2 x3 x4 x5 x6 x7 x8 x9;cases c0:E6 d2 with
  |false=>
   have bB:=g.2;rw[c0] at bB;simp only[aj,if_false] at bB;subst bB;clear g;by_cases ey:(ops.length:Int)≤120
   ·have bu:=ee.o;have aW:=ef.o;have l1:=(bO.o.below bu).below aW;have l2:=eh.o.below aW;have h2:=bu.size;have h3:=aW.size;have eH:=B1.o.size;have eI:=ed.o.size;have bR:Ap F1 F2:=fun b h3 h4=>by have:=bO.o.px.1 b h3;have:=dQ.o b h4;omega
    have HT:Hq (Hk false B f.heap.size f V X 0 d1 d2 w4):=⟨DB d1,default,F1,F2,fun _=>False,l1,l2,fun h=>(by cases h),bR,fun b _ h=>h,fun b _ h=>h,fun b d=>by have:=fg.o b d;omega,fun b d=>by have:=dQ.o b d;omega,fun b d=>d.elim,B4.o,by omega⟩;clear bu aW l1 l2 h2 h3 eH eI bR;go_wp2_with fail
    go_loopw [13,14,15,16,17] (fun v _ _ _ _ wr=>∃ k:Nat,k≤ops.length∧v=I J k∧Hq (Hk false B f.heap.size f V X 0 d1 d2 wr)) (fun v _ _ _ _ _=>ops.length-(intOf v).toNat)
    case atStart=>exact⟨0,ag _,rfl,HT.o⟩
    case round=>
     obtain⟨k,fV,rfl,A⟩:=hrel;obtain⟨s,sz,R,Fy,Fz,hx,hy,hz,bn,bo,bp,fx,fy,fz,av,hN⟩:=A.o;by_cases hk:k<ops.length
     ·have fX:(k:Int)<(ops.length:Int):=by omega
      obtain⟨ob,bC,rfl,de,dd⟩:=fk.o (by omega);obtain⟨ua,uc,aV⟩:=dd k hk;have fW:k<oc:=by omega
      obtain⟨Q,df⟩:=ex (ops[k]);rw[←df] at aV;obtain⟨eF,dl⟩:=aV wr av;have dP:=HH aV;obtain⟨r,hr⟩:=ex (Fl d1 Q s);obtain⟨HX,HY⟩:=H2 hx hy;have eg:Hq (r.2.faults.length≤7):=by rw[hr];exact NU Q hx.good
      obtain⟨HZ,an,S,bk,ao⟩:=H5 hz (ah bn (ah bo bp)) (ah fx (ah fy fz)) av hN;have ec:Hq (aw prog 11 #[G (Z ⟨V,0,O⟩),Y ua Q.length uc] wr fun e w'=>∃ v,e=.returned (.tuple #[v,.bool (decide (r.2.e=0))])∧Hh w' wr.heap.size r.2 v∧Dr B wr R V d1 r.1 w'):=by rw[hr];exact JL B wr R V d1 s hx _ Q dl
      obtain⟨HR,fL⟩:=H2 hr de;clear A hx hy hz bn bo bp fx fy fz av hN dd df hr dl de aV;go_wp2_with fail;refine ec.o.mono ?_;rintro e u1 ⟨v,rfl,⟨aa,na,ca,af,cf,rfl,dh⟩,ak⟩;obtain⟨U1,aT⟩:=ex (u1.alloc (T #[I J r.2.ran,I U r.2.act.kind,I J r.2.act.a,I J r.2.act.b,Y aa na ca,.slice af r.2.faults.length cf] 43));have ab:Bl u1 U1:=by rw[aT];exact(ai _ u1).alloc (al _) _
      have c9:U1.heap[u1.heap.size]? =Z (T #[I J r.2.ran,I U r.2.act.kind,I J r.2.act.a,I J r.2.act.b,Y aa na ca,.slice af r.2.faults.length cf] 43 (0,0)):=by rw[aT];exact am _ _
      have eD:=HX.o.px.1;have bw:=HY.o.px.1;have bx:∀ b,Fz b→b<wr.heap.size:=fun b d=>(S.o.2.2 b d).2.1;have dr:=ak.1.below ab;have dt:=(HY.o.other ak.2 HX.o.fb an.o.1.symm).below ab;have bS:Ap (Gr wr u1 R) Fy:=(an.o.1.symm.gr bw).symm;have bT:Ap (Gr wr u1 R) Fz:=(an.o.2.1.symm.gr bx).symm;have dK:=ak.2.size;have dH:=ab.size;have bI:Bl f U1:=bk.o.trans ((ak.2.low S.o.1 ao.o).trans (ab.mono (by have:=ao.o;omega)));have dn:f.heap.size≤wr.heap.size:=ao.o;obtain⟨dT,bE,bm,bM,aZ,x,ac⟩:=H7 (dh.bel ab) dr dt bI c9 (ah dK (ah dH dn)) (ah bS (ah bT (ah bw bx)));obtain⟨i,dU⟩:=ex U1;rw[←dU] at dT bE bm bM aZ;have fO:=HH (dU.trans aT);have aP:Hq (U1.heap.size≤i.heap.size):=by rw[dU];exact al _
      obtain⟨eG,dm⟩:=dP.o i bM.o;clear aT dU ab c9 eD dr dt bS bT dK dH bI dn dh ak bw bx eF;have er:Hq (aw prog 11 #[G (Z ⟨X,0,O⟩),Y ua Q.length uc] i fun e w'=>∃ v,e=.returned (.tuple #[v,.bool (decide (r.2.e=0))])∧Hh w' i.heap.size r.2 v∧Dr B i Fy X d1 r.1 w'):=by
       have:=JL B i Fy X d1 s bm.o _ Q dm;rw[←HR.o] at this;exact this
      clear dm;go_upto_region 14 with (fail);rw[←fO.o];go_wp2_with fail;refine er.o.mono ?_;rintro e u3 ⟨v3,rfl,⟨ba,nb,cb,bf,cA,rfl,di⟩,y⟩;obtain⟨z,aU⟩:=ex (u3.alloc (T #[I J r.2.ran,I U r.2.act.kind,I J r.2.act.a,I J r.2.act.b,Y ba nb cb,.slice bf r.2.faults.length cA] 43));have j:Bl u3 z:=by rw[aU];exact(ai _ u3).alloc (al _) _
      have da:z.heap[u3.heap.size]? =Z (T #[I J r.2.ran,I U r.2.act.kind,I J r.2.act.a,I J r.2.act.b,Y ba nb cb,.slice bf r.2.faults.length cA] 43 (0,0)):=by rw[aU];exact am _ _
      have e0:=y.2.size;have eZ:=j.size;have db:z.heap[u1.heap.size]? =Z (T #[I J r.2.ran,I U r.2.act.kind,I J r.2.act.a,I J r.2.act.b,Y aa na ca,.slice af r.2.faults.length cf] 43 (0,0)):=(j.block _ (by have:=Aa aZ.o;omega)).trans ((y.2.block _ (Aa aZ.o) (fun h=>by have:=ac.o.2.2.1 _ h;have:=x.o;omega)).trans aZ.o);have dj:=(dT.o.fr y.2 ac.o.2.2.1).bel j;have dk:=di.bel j;have ds:=(bE.o.other y.2 bm.o.fb ac.o.1).below j;have du:=y.1.below j;have ci:Ap (Gr wr u1 R) (Gr i u3 Fy):=ac.o.1.gr bE.o.px.1;have cQ:Bl f z:=bM.o.trans ((y.2.low S.o.2.1 (by have:=x.o;have:=aP.o;omega)).trans (j.mono (by have:=x.o;have:=aP.o;omega)));have cS:f.heap.size≤z.heap.size:=by have:=x.o;have:=aP.o;omega
      have gx:∀ b,Gr wr u1 R b→f.heap.size≤b:=fun b d=>by
       rcases d with d|d
       ·exact S.o.1 b d
       ·have:=x.o;omega
      have gy:∀ b,Gr i u3 Fy b→f.heap.size≤b:=fun b d=>by
       rcases d with d|d
       ·exact S.o.2.1 b d
       ·have:=x.o;have:=aP.o;omega
      have cT:Hk false B f.heap.size f V X 0 d1 d2 z:=⟨r.1,sz,_,_,fun _=>False,ds,du,fun h=>(by cases h),ci,fun b _ h=>h,fun b _ h=>h,gx,gy,fun b d=>d.elim,cQ,cS⟩;obtain⟨E,F,m2,H,K,m5⟩:=r6 db;obtain⟨L,M,n2,N,P,n5⟩:=r6 da;have bP:=HH (Nd _ _ r.2.faults r.2.faults z (dj.mono (ag _)) (dk.mono (ag _)) (by have:=eg.o;omega));rw[show decide (r.2.faults=r.2.faults)=true from decide_eq_true rfl] at bP;obtain⟨em,en⟩:=H2 cT aU;clear aU j da db dj dk ds du ci cQ cS gx gy cT di y e0 eZ eG;generalize decide (r.2.e=0)=be at*;go_upto_region 17 with (fail);rw[←en.o];go_wp2_with fail;refine bP.o.mono ?_;rintro e U4 ⟨rfl,C⟩;have ek:Hq (Hk false B f.heap.size f V X 0 d1 d2 U4):=by
       obtain⟨s',e9,dZ,ea,eb,k1,k2,k3,k4,k5,k6,k7,k8,k9,eK,dv⟩:=em.o;exact⟨s',e9,dZ,ea,eb,k1.below C,k2.below C,fun h=>(k3 h).below C,k4,k5,k6,k7,k8,fun b d=>⟨(k9 b d).1,ap (k9 b d).2.1 C.size,(k9 b d).2.2⟩,eK.trans (C.mono dv),aq dv C.size⟩
      clear C E L F M m2 n2 H N K P m5 n5;go_wp2_with fail
      go_roundw
      case rel=>exact⟨k+1,by omega,by go_num,ek.o⟩
      case measure=>simp[intOf];omega
     ·obtain rfl:k=ops.length:=by omega
      obtain⟨HX,HY,bk,ao⟩:=H4 hx hy av hN;clear A hx hy hz bn bo bp fx fy fz av hN;go_wp2_with fail;refine(J3 HX.o).mono ?_;rintro e w5 ⟨a1,a2,a3,a4,a5,a6,a7,a8,c1,c2,c3,c4,c5,c6,c7,c8,n8,rfl,dp,cV⟩;obtain⟨H5,eo⟩:=H2 cV dp;clear cV dp;go_wp2_with fail;refine(J3 (HY.o.below H5.o)).mono ?_;rintro e t ⟨b1,b2,b3,b4,b5,b6,b7,b8,e1,e2,e3,e4,e5,e6,e7,e8,m8,rfl,dq,cW⟩;obtain⟨H6,ep⟩:=H2 cW dq;clear cW dq;go_upto_region 20 with (fail);obtain⟨U5,ar⟩:=ex ((t.alloc (T #[I U s.mode,I J s.clock,Y a1 s.procs.length c1,Y a2 s.mem.length c2,Y a3 s.semas.length c3,Y a4 s.events.length c4,Y a5 s.boards.length c5,Y a6 s.queues.length c6,Y a7 s.queues.length c7,Y a8 n8 c8] 37)).alloc (T #[I U s.mode,I J s.clock,Y b1 s.procs.length e1,Y b2 s.mem.length e2,Y b3 s.semas.length e3,Y b4 s.events.length e4,Y b5 s.boards.length e5,Y b6 s.queues.length e6,Y b7 s.queues.length e7,Y b8 m8 e8] 37));have d:Bl t U5:=by rw[ar];exact DX t _ _
      have bd:U5.heap[t.heap.size]? =Z (T #[I U s.mode,I J s.clock,Y a1 s.procs.length c1,Y a2 s.mem.length c2,Y a3 s.semas.length c3,Y a4 s.events.length c4,Y a5 s.boards.length c5,Y a6 s.queues.length c6,Y a7 s.queues.length c7,Y a8 n8 c8] 37 (0,0)):=by rw[ar];exact(Da t _ _).1
      have bg:U5.heap[t.heap.size+1]? =Z (T #[I U s.mode,I J s.clock,Y b1 s.procs.length e1,Y b2 s.mem.length e2,Y b3 s.semas.length e3,Y b4 s.events.length e4,Y b5 s.boards.length e5,Y b6 s.queues.length e6,Y b7 s.queues.length e7,Y b8 m8 e8] 37 (0,0)):=by rw[ar];exact(Da t _ _).2
      rw[←ar];obtain⟨aN,K1,K2⟩:=H3 d bd bg;have up:∀ W,Bl U5 W→Bl w5 W∧Bl t W:=fun W h=>by
       have h6:=aN.o.trans (h.mono aN.o.size);exact⟨H6.o.trans (h6.mono H6.o.size),h6⟩
      have HM:=HH (show ∀ W,Bl U5 W→_ from fun W h=>QO (W:=W) HX.o eo.o ep.o (up W h).1 (up W h).2);clear ar d bd bg up;have m:=K1.o;have n:=K2.o;obtain⟨E,F,-,H,K,-,-,m7⟩:=r8 m;obtain⟨L,M,-,N,P,-,-,n7⟩:=r8 n;clear m n;go_wp2_with fail;refine(HM.o U5 (ai _ _)).1.mono ?_;rintro e U7 ⟨rfl,cX⟩;have B7:=HH cX;clear cX;clear E L F M H N K P m7 n7;have m:=(B7.o.block _ (Aa K1.o)).trans K1.o;have n:=(B7.o.block _ (Aa K2.o)).trans K2.o;obtain⟨E,F,-,H,K,-,-,m7⟩:=r8 m;obtain⟨L,M,-,N,P,-,-,n7⟩:=r8 n;clear m n;go_wp2_with fail;refine(HM.o U7 B7.o).2.1.mono ?_;rintro e U8 ⟨rfl,cY⟩;have B8:=HH (B7.o.trans (cY.mono B7.o.size));clear cY;clear E L F M H N K P m7 n7;have m:=(B8.o.block _ (Aa K1.o)).trans K1.o;have n:=(B8.o.block _ (Aa K2.o)).trans K2.o;obtain⟨E,F,-,H,K,-,-,m7⟩:=r8 m;obtain⟨L,M,-,N,P,-,-,n7⟩:=r8 n;clear m n;go_wp2_with fail;refine(HM.o U8 B8.o).2.2.mono ?_;rintro e U9 ⟨rfl,cZ⟩;have B9:=HH (B8.o.trans (cZ.mono B8.o.size));clear cZ;clear E L F M H N K P m7 n7;go_wp2_with fail;go_ret;have h1:=bk.o;have g:=ao.o;have h5:=H5.o.size;have h6:=H6.o.size;have h7:=aN.o.size;have eB:Bl f U9:=h1.trans ((H5.o.mono g).trans ((H6.o.mono (by omega)).trans ((aN.o.mono (by omega)).trans (B9.o.mono (by omega)))));exact⟨rfl,u.o.trans (eB.mono u.o.size)⟩
   ·go_wp2_with fail;go_ret;exact⟨rfl,u.o.trans (B4.o.mono u.o.size)⟩
  |true=>
   have D:=g.2;rw[c0] at D;simp only[if_true] at D;obtain⟨g3,F3,rfl,dc,cR⟩:=D;obtain⟨fi,dR⟩:=H2 dc cR;clear g dc cR;by_cases ey:(ops.length:Int)≤120
   ·have bu:=ee.o;have aW:=ef.o;have l1:=(bO.o.below bu).below aW;have l2:=eh.o.below aW;have h2:=bu.size;have h3:=aW.size;have eH:=B1.o.size;have eI:=ed.o.size;have bR:Ap F1 F2:=fun b h3 h4=>by have:=bO.o.px.1 b h3;have:=dQ.o b h4;omega
    have l3:=fi.o;have fo:Ap F1 F3:=fun b h3 h4=>by have:=bO.o.px.1 b h3;have:=dR.o b h4;omega
    have fp:Ap F2 F3:=fun b h3 h4=>by have:=eh.o.px.1 b h3;have:=dR.o b h4;omega
    have HT:Hq (Hk true B f.heap.size f V X g3 d1 d2 w4):=⟨DB d1,DB d2,F1,F2,F3,l1,l2,fun _=>l3,bR,fo,fp,fun b d=>by have:=fg.o b d;omega,fun b d=>by have:=dQ.o b d;omega,fun b d=>⟨by have:=dR.o b d;omega,l3.px.1 b d,l3.fb b d⟩,B4.o,by omega⟩;clear l3 fo fp;clear bu aW l1 l2 h2 h3 eH eI bR;go_wp2_with fail
    go_loopw [13,14,15,16,17] (fun v _ _ _ _ wr=>∃ k:Nat,k≤ops.length∧v=I J k∧Hq (Hk true B f.heap.size f V X g3 d1 d2 wr)) (fun v _ _ _ _ _=>ops.length-(intOf v).toNat)
    case atStart=>exact⟨0,ag _,rfl,HT.o⟩
    case round=>
     obtain⟨k,fV,rfl,A⟩:=hrel;obtain⟨s,sz,R,Fy,Fz,hx,hy,hz,bn,bo,bp,fx,fy,fz,av,hN⟩:=A.o;by_cases hk:k<ops.length
     ·have fX:(k:Int)<(ops.length:Int):=by omega
      obtain⟨ob,bC,rfl,de,dd⟩:=fk.o (by omega);obtain⟨ua,uc,aV⟩:=dd k hk;have fW:k<oc:=by omega
      obtain⟨Q,df⟩:=ex (ops[k]);rw[←df] at aV;obtain⟨eF,dl⟩:=aV wr av;have dP:=HH aV;obtain⟨r,hr⟩:=ex (Fl d1 Q s);obtain⟨HX,HY⟩:=H2 hx hy;have eg:Hq (r.2.faults.length≤7):=by rw[hr];exact NU Q hx.good
      obtain⟨HZ,an,S,bk,ao⟩:=H5 hz (ah bn (ah bo bp)) (ah fx (ah fy fz)) av hN;have ec:Hq (aw prog 11 #[G (Z ⟨V,0,O⟩),Y ua Q.length uc] wr fun e w'=>∃ v,e=.returned (.tuple #[v,.bool (decide (r.2.e=0))])∧Hh w' wr.heap.size r.2 v∧Dr B wr R V d1 r.1 w'):=by rw[hr];exact JL B wr R V d1 s hx _ Q dl
      obtain⟨HR,fL⟩:=H2 hr de;clear A hx hy hz bn bo bp fx fy fz av hN dd df hr dl de aV;go_wp2_with fail;refine ec.o.mono ?_;rintro e u1 ⟨v,rfl,⟨aa,na,ca,af,cf,rfl,dh⟩,ak⟩;obtain⟨U1,aT⟩:=ex (u1.alloc (T #[I J r.2.ran,I U r.2.act.kind,I J r.2.act.a,I J r.2.act.b,Y aa na ca,.slice af r.2.faults.length cf] 43));have ab:Bl u1 U1:=by rw[aT];exact(ai _ u1).alloc (al _) _
      have c9:U1.heap[u1.heap.size]? =Z (T #[I J r.2.ran,I U r.2.act.kind,I J r.2.act.a,I J r.2.act.b,Y aa na ca,.slice af r.2.faults.length cf] 43 (0,0)):=by rw[aT];exact am _ _
      have eD:=HX.o.px.1;have bw:=HY.o.px.1;have bx:∀ b,Fz b→b<wr.heap.size:=fun b d=>(S.o.2.2 b d).2.1;have dr:=ak.1.below ab;have dt:=(HY.o.other ak.2 HX.o.fb an.o.1.symm).below ab;have bS:Ap (Gr wr u1 R) Fy:=(an.o.1.symm.gr bw).symm;have bT:Ap (Gr wr u1 R) Fz:=(an.o.2.1.symm.gr bx).symm;have dK:=ak.2.size;have dH:=ab.size;have bI:Bl f U1:=bk.o.trans ((ak.2.low S.o.1 ao.o).trans (ab.mono (by have:=ao.o;omega)));have dn:f.heap.size≤wr.heap.size:=ao.o;have fG:=((HZ.o (by simp)).other ak.2 HX.o.fb an.o.2.1.symm).below ab;obtain⟨fY,fF⟩:=dP.o U1 bI;have es:=HH (JL B U1 Fz g3 d2 sz fG _ Q fF);obtain⟨r2,fE⟩:=ex (Fl d2 Q sz);rw[←fE] at es;obtain⟨fM,fl,eq,fK,fh,x,ac,fN⟩:=H8 (dh.bel ab) dr dt bI c9 (ah dK (ah dH dn)) (ah bS (ah bT (ah bw bx))) aT;clear aT ab c9 eD dr dt fG bS bT dK dH bI dn dh ak fF fE bw bx eF;go_upto_region 14 with (fail);rw[←fN.o];go_wp2_with fail;refine es.o.mono ?_;rintro e i ⟨vz,rfl,_,bh⟩;have eA:Bl f i:=fK.o.trans (bh.2.low (fun b d=>(S.o.2.2 b d).1) (by have:=x.o;omega));have eC:∀ b,Fz b→B≤b:=fun b d=>(S.o.2.2 b d).2.2;obtain⟨bE,bm⟩:=H2 (fl.o.other bh.2 eC ac.o.2.1) (eq.o.other bh.2 eC an.o.2.2);have fn:=HH bh.1;have dT:=HH (fM.o.fr bh.2 ac.o.2.2.2);have fw:i.heap[u1.heap.size]? =Z (T #[I J r.2.ran,I U r.2.act.kind,I J r.2.act.a,I J r.2.act.b,Y aa na ca,.slice af r.2.faults.length cf] 43 (0,0)):=(bh.2.block _ (Aa fh.o) (fun h=>by have:=ac.o.2.2.2 _ h;have:=x.o;omega)).trans fh.o;have aZ:=HH fw;have aP:=HH bh.2.size;have bM:=HH eA;obtain⟨eG,dm⟩:=dP.o i eA;clear eA eC bh fw es;have er:Hq (aw prog 11 #[G (Z ⟨X,0,O⟩),Y ua Q.length uc] i fun e w'=>∃ v,e=.returned (.tuple #[v,.bool (decide (r.2.e=0))])∧Hh w' i.heap.size r.2 v∧Dr B i Fy X d1 r.1 w'):=by
       have:=JL B i Fy X d1 s bm.o _ Q dm;rw[←HR.o] at this;exact this
      clear dm;go_wp2_with fail;refine er.o.mono ?_;rintro e u3 ⟨v3,rfl,⟨ba,nb,cb,bf,cA,rfl,di⟩,y⟩;obtain⟨z,aU⟩:=ex (u3.alloc (T #[I J r.2.ran,I U r.2.act.kind,I J r.2.act.a,I J r.2.act.b,Y ba nb cb,.slice bf r.2.faults.length cA] 43));have j:Bl u3 z:=by rw[aU];exact(ai _ u3).alloc (al _) _
      have da:z.heap[u3.heap.size]? =Z (T #[I J r.2.ran,I U r.2.act.kind,I J r.2.act.a,I J r.2.act.b,Y ba nb cb,.slice bf r.2.faults.length cA] 43 (0,0)):=by rw[aU];exact am _ _
      have e0:=y.2.size;have eZ:=j.size;have db:z.heap[u1.heap.size]? =Z (T #[I J r.2.ran,I U r.2.act.kind,I J r.2.act.a,I J r.2.act.b,Y aa na ca,.slice af r.2.faults.length cf] 43 (0,0)):=(j.block _ (by have:=Aa aZ.o;omega)).trans ((y.2.block _ (Aa aZ.o) (fun h=>by have:=ac.o.2.2.1 _ h;have:=x.o;omega)).trans aZ.o);have dj:=(dT.o.fr y.2 ac.o.2.2.1).bel j;have dk:=di.bel j;have ds:=(bE.o.other y.2 bm.o.fb ac.o.1).below j;have du:=y.1.below j;have ci:Ap (Gr wr u1 R) (Gr i u3 Fy):=ac.o.1.gr bE.o.px.1;have cQ:Bl f z:=bM.o.trans ((y.2.low S.o.2.1 (by have:=x.o;have:=aP.o;omega)).trans (j.mono (by have:=x.o;have:=aP.o;omega)));have cS:f.heap.size≤z.heap.size:=by have:=x.o;have:=aP.o;omega
      have gx:∀ b,Gr wr u1 R b→f.heap.size≤b:=fun b d=>by
       rcases d with d|d
       ·exact S.o.1 b d
       ·have:=x.o;omega
      have gy:∀ b,Gr i u3 Fy b→f.heap.size≤b:=fun b d=>by
       rcases d with d|d
       ·exact S.o.2.1 b d
       ·have:=x.o;have:=aP.o;omega
      have dW:=(fn.o.other y.2 bm.o.fb (an.o.2.2.gr eq.o.px.1).symm).below j;have fq:Ap (Gr wr u1 R) (Gr U1 i Fz):=ac.o.2.1.gr fl.o.px.1;have fs:Ap (Gr i u3 Fy) (Gr U1 i Fz):=((an.o.2.2.gr (w':=i) eq.o.px.1).symm.gr fn.o.px.1).symm;have cT:Hk true B f.heap.size f V X g3 d1 d2 z:=⟨r.1,r2.1,_,_,_,ds,du,fun _=>dW,ci,fq,fs,gx,gy,fun b d=>⟨by
       rcases d with d|d
       ·exact(S.o.2.2 b d).1
       ·have:=x.o;omega,dW.px.1 b d,dW.fb b d⟩,cQ,cS⟩
      obtain⟨E,F,m2,H,K,m5⟩:=r6 db;obtain⟨L,M,n2,N,P,n5⟩:=r6 da;have bP:=HH (Nd _ _ r.2.faults r.2.faults z (dj.mono (ag _)) (dk.mono (ag _)) (by have:=eg.o;omega));rw[show decide (r.2.faults=r.2.faults)=true from decide_eq_true rfl] at bP;obtain⟨em,en⟩:=H2 cT aU;clear aU j da db dj dk ds du ci cQ cS gx gy cT di y e0 eZ eG dW fq fs fY;generalize decide (r.2.e=0)=be at*;go_upto_region 17 with (fail);rw[←en.o];go_wp2_with fail;refine bP.o.mono ?_;rintro e U4 ⟨rfl,C⟩;have ek:Hq (Hk true B f.heap.size f V X g3 d1 d2 U4):=by
       obtain⟨s',e9,dZ,ea,eb,k1,k2,k3,k4,k5,k6,k7,k8,k9,eK,dv⟩:=em.o;exact⟨s',e9,dZ,ea,eb,k1.below C,k2.below C,fun h=>(k3 h).below C,k4,k5,k6,k7,k8,fun b d=>⟨(k9 b d).1,ap (k9 b d).2.1 C.size,(k9 b d).2.2⟩,eK.trans (C.mono dv),aq dv C.size⟩
      clear C E L F M m2 n2 H N K P m5 n5;go_wp2_with fail
      go_roundw
      case rel=>exact⟨k+1,by omega,by go_num,ek.o⟩
      case measure=>simp[intOf];omega
     ·obtain rfl:k=ops.length:=by omega
      obtain⟨HX,HY,bk,ao⟩:=H4 hx hy av hN;clear A hx hy hz bn bo bp fx fy fz av hN;go_wp2_with fail;refine(J3 HX.o).mono ?_;rintro e w5 ⟨a1,a2,a3,a4,a5,a6,a7,a8,c1,c2,c3,c4,c5,c6,c7,c8,n8,rfl,dp,cV⟩;obtain⟨H5,eo⟩:=H2 cV dp;clear cV dp;go_wp2_with fail;refine(J3 (HY.o.below H5.o)).mono ?_;rintro e t ⟨b1,b2,b3,b4,b5,b6,b7,b8,e1,e2,e3,e4,e5,e6,e7,e8,m8,rfl,dq,cW⟩;obtain⟨H6,ep⟩:=H2 cW dq;clear cW dq;go_upto_region 20 with (fail);obtain⟨U5,ar⟩:=ex ((t.alloc (T #[I U s.mode,I J s.clock,Y a1 s.procs.length c1,Y a2 s.mem.length c2,Y a3 s.semas.length c3,Y a4 s.events.length c4,Y a5 s.boards.length c5,Y a6 s.queues.length c6,Y a7 s.queues.length c7,Y a8 n8 c8] 37)).alloc (T #[I U s.mode,I J s.clock,Y b1 s.procs.length e1,Y b2 s.mem.length e2,Y b3 s.semas.length e3,Y b4 s.events.length e4,Y b5 s.boards.length e5,Y b6 s.queues.length e6,Y b7 s.queues.length e7,Y b8 m8 e8] 37));have d:Bl t U5:=by rw[ar];exact DX t _ _
      have bd:U5.heap[t.heap.size]? =Z (T #[I U s.mode,I J s.clock,Y a1 s.procs.length c1,Y a2 s.mem.length c2,Y a3 s.semas.length c3,Y a4 s.events.length c4,Y a5 s.boards.length c5,Y a6 s.queues.length c6,Y a7 s.queues.length c7,Y a8 n8 c8] 37 (0,0)):=by rw[ar];exact(Da t _ _).1
      have bg:U5.heap[t.heap.size+1]? =Z (T #[I U s.mode,I J s.clock,Y b1 s.procs.length e1,Y b2 s.mem.length e2,Y b3 s.semas.length e3,Y b4 s.events.length e4,Y b5 s.boards.length e5,Y b6 s.queues.length e6,Y b7 s.queues.length e7,Y b8 m8 e8] 37 (0,0)):=by rw[ar];exact(Da t _ _).2
      rw[←ar];obtain⟨aN,K1,K2⟩:=H3 d bd bg;have up:∀ W,Bl U5 W→Bl w5 W∧Bl t W:=fun W h=>by
       have h6:=aN.o.trans (h.mono aN.o.size);exact⟨H6.o.trans (h6.mono H6.o.size),h6⟩
      have HM:=HH (show ∀ W,Bl U5 W→_ from fun W h=>QO (W:=W) HX.o eo.o ep.o (up W h).1 (up W h).2);clear ar d bd bg up;have m:=K1.o;have n:=K2.o;obtain⟨E,F,-,H,K,-,-,m7⟩:=r8 m;obtain⟨L,M,-,N,P,-,-,n7⟩:=r8 n;clear m n;go_wp2_with fail;refine(HM.o U5 (ai _ _)).1.mono ?_;rintro e U7 ⟨rfl,cX⟩;have B7:=HH cX;clear cX;clear E L F M H N K P m7 n7;have m:=(B7.o.block _ (Aa K1.o)).trans K1.o;have n:=(B7.o.block _ (Aa K2.o)).trans K2.o;obtain⟨E,F,-,H,K,-,-,m7⟩:=r8 m;obtain⟨L,M,-,N,P,-,-,n7⟩:=r8 n;clear m n;go_wp2_with fail;refine(HM.o U7 B7.o).2.1.mono ?_;rintro e U8 ⟨rfl,cY⟩;have B8:=HH (B7.o.trans (cY.mono B7.o.size));clear cY;clear E L F M H N K P m7 n7;have m:=(B8.o.block _ (Aa K1.o)).trans K1.o;have n:=(B8.o.block _ (Aa K2.o)).trans K2.o;obtain⟨E,F,-,H,K,-,-,m7⟩:=r8 m;obtain⟨L,M,-,N,P,-,-,n7⟩:=r8 n;clear m n;go_wp2_with fail;refine(HM.o U8 B8.o).2.2.mono ?_;rintro e U9 ⟨rfl,cZ⟩;have B9:=HH (B8.o.trans (cZ.mono B8.o.size));clear cZ;clear E L F M H N K P m7 n7;go_wp2_with fail;go_ret;have h1:=bk.o;have g:=ao.o;have h5:=H5.o.size;have h6:=H6.o.size;have h7:=aN.o.size;have eB:Bl f U9:=h1.trans ((H5.o.mono g).trans ((H6.o.mono (by omega)).trans ((aN.o.mono (by omega)).trans (B9.o.mono (by omega)))));exact⟨rfl,u.o.trans (eB.mono u.o.size)⟩
   ·go_wp2_with fail;go_ret;exact⟨rfl,u.o.trans (B4.o.mono u.o.size)⟩
end Go.Proofs.YtiepijihpgijbaaGreatDoor
