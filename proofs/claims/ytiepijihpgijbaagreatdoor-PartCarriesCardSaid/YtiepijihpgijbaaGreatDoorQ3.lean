import Derived.Laws.OwnMore
import Derived.Deep.CutBlock
import Derived.Test.YtiepijihpgijbaaGreatDoorQ2
set_option maxHeartbeats 20000000
set_option maxRecDepth 100000
set_option linter.all false
open Go.Value renaming pointer→G,int→I,slice→Y
open Option renaming some→Z,none→O
open Go.IntKind renaming u8→U,i64→J
open Go.Obj renaming cells→T
open List renaming setIfInBounds_toArray→cE,set_cons_zero→cF,set_cons_succ→cG,mem_singleton→cO,getD_eq_getElem?_getD→cR,getElem_mem→cU,drop_succ_cons→cW,getElem?_eq_getElem→cZ,drop_zero→da,drop_nil→db,getElem_set_self→dc,getElem?_take→df,length_set→dh,getElem?_eq_none→di,mem_cons_of_mem→dj,mem_map→dn,ext_getElem→dy,length_append→dA,set_set→dB,length_take→dC,nodup_cons→dE,append_nil→dF,range→dG,getElem?_append_left→dH,map_cons→dI,foldl_append→dN,length_cons→dP,range_succ→dS
open Go renaming heap_alloc_new→cP,World→cQ,Calls→cT,Value→dm,Addr→dv,bodyPost_ret→dL
open Nat renaming le_refl→cS,lt_of_lt_of_le→cX,le_trans→c9,zero_le→dd,mul_one→dJ,lt_of_le_of_lt→dM,min→dO,min_le_right→dR,min_le_left→dT,min_eq_left→dU,lt_or_ge→dW,le_of_lt→dX
open Go.RowKit.Below renaming refl→cV,heap_alloc→dk
open Go.Value renaming pointer→cY,slice→dz
open Int renaming reduceEq→de,toNat_natCast→dr,toNat_of_nonneg→dK,lt_or_le→dY
open Go.RowKit renaming intOf→dl
open Go.Value.slice renaming injEq→dp
open Go.IntKind renaming wrap_i64→dq
open Go.Value.agg renaming injEq→ds
open List.cons renaming injEq→dt
open Bool renaming and_eq_true→du,false_eq_true→dx,not_eq_true→dD
open Array.mk renaming injEq→dw
open Go.Builtin renaming copy_→dQ
open Go.World renaming setRow→dV
namespace Go.Proofs.YtiepijihpgijbaaGreatDoor
open Go.RowKit Tryz
def T7:EG 123:=fun _ _=>by kernel_rfl
def We(B:Nat)(w:cQ)(D:Nat→Prop)(g:Nat)(d:Ad)(c:Hd)(s:Ae)(kind:Int)(k:Nat)(b:Int)(data:List Int)(F:Nat)(vd:dm)(i:Nat)(now:Int)(bk:Gl B w)(hM:∀ q∈Mut g c,B≤q)(h:PA w D g d c s)(ok:Ah d s)(hj:JB w F g kind k b vd i now)(bz:F∉Mut g c)(hD:∀ q,w.heap.size≤q→D q)(cb:0≤now)(cc:now≤4294967296)(hk:k<s.bufs.length)(hi:i<d.procs.length)(a8:A4 w (NM g c) vd data)(aH:0<data.length)(cI:data.length≤64)(bw:Bf data):
  cT prog 84 #[G (Z ⟨F,0,O⟩)] w fun e w'=>e=.returned (.bool (Jn d i now (⟨kind,k,b,data⟩:Ac) s).2)∧PA w' D g d c (Jn d i now (⟨kind,k,b,data⟩:Ac) s).1∧Upd (Mut g c) w w':=by
 obtain⟨ad,cd,rfl,cH,_,bA⟩:=a8.1.open_;obtain⟨bd,od,rfl,_,b3,bt⟩:=bA aH;have yd:w.cell? ⟨bd,od,O⟩=Z (I U data[0]):=by have:=bt 0 aH;simpa using this
 have qd:=qC yd b3;have cJ:(0:Int)<(data.length:Int):=by omega
 have bx:data.getD 0 0=data[0]:=by rw[cR,cZ aH];rfl
 obtain⟨bO,bm⟩:=H2 a8 bw;clear a8 bw bA bt yd;generalize bb:(d.procs.getD i default).prio=pr;have bW:Hq (∀ W,Bl w W→cT prog 116 #[G (Z ⟨F,0,O⟩)] W fun e w'=>e=.returned (I J pr)∧Bl W w'):=fun W a=>by
  have:=Jm W D g d c s kind k b data F _ i now (h.below a) ok (hj.below a) (fun q S=>hD q (c9 a.size S)) hi;rwa [bb] at this
 obtain⟨P,j1,X,j3,j4,j5,j6⟩:=hj.cells;have t:F<w.heap.size:=Aa hj;have ax:=qC P t;have bh:=qC X t;have cl:=qC j5 t;have bi:=qC j4 t;have ba:0<s.bufs.length:=by omega
 have ay:=h.I8 ba;have an:=h.lt;have bj:=qC ay an;have aT:=h.bu.cap;have Q:=h.bu.lt;have h6:=ok.ok.procs;obtain⟨v,pv,gv,hc,bc,be,bf⟩:=h.bu.el k hk;obtain⟨y0,y1,y2,y3⟩:=LZ hc;have ct:=qC y0 Q;have cu:=qC y1 Q;have cw:=qC y2 Q;have cx:=qC y3 Q;obtain⟨av,cv,rfl,_,_,_⟩:=bc.1.open_;obtain⟨ap,cp,rfl,_,_,_⟩:=be.1.open_;obtain⟨ag,cg,rfl,_,_,_⟩:=bf.1.open_;have R:=(ok.bu _ (cU hk));have cL:=R.len;have cM:=R.put.len;have cN:=R.get.len;obtain⟨j,l,m,o,L,er,hw⟩:∃ j l m o L er,Cb s.bufs[k].depth s.bufs[k].data s.bufs[k].put s.bufs[k].get i pr data[0]=(j,l,m,o,L,er):=⟨_,_,_,_,_,_,rfl⟩;have HC:Hq (∀ W,Bl w W→cT prog 123 #[.agg #[I J s.bufs[k].depth,.slice av s.bufs[k].data.length cv,.slice ap s.bufs[k].put.length cp,.slice ag s.bufs[k].get.length cg],I J i,I J pr,I U data[0]] W (NJ W s.bufs[k].depth j l m (.bool o) (I J L) (I J er))):=fun W a=>by
  have:=Yj s.bufs[k].depth i pr data[0] (.slice av s.bufs[k].data.length cv) (.slice ap s.bufs[k].put.length cp) (.slice ag s.bufs[k].get.length cg) s.bufs[k].data s.bufs[k].put s.bufs[k].get W (bc.1.below a) (be.1.below a) (bf.1.below a) (R.put.wf h6) (R.get.wf h6) (by omega) (by omega) (by omega);rwa [hw] at this
 have HE:Hq (Jn d i now (⟨kind,k,b,data⟩:Ac) s=(wakeP d now data [L] {s with bufs:=s.bufs.set k ⟨s.bufs[k].depth,j,l,m⟩},o)):=by
  show Jn d i now (⟨kind,k,b,data⟩:Ac) s=_;simp only[Jn,buA,prioA,dr,getD_at _ _ hk,bb,bx,hw]
 have aL:=R.PU (q:=i) (r:=pr) (v:=data[0]) (by omega) (by omega) (bm.o _ (cU aH));rw[hw] at aL;have bU:Hq (Ah d {s with bufs:=s.bufs.set k ⟨s.bufs[k].depth,j,l,m⟩}):=ok.Lp k aL.1;have ci:L<(s.procs.length:Int):=by rw[ok.procs];exact aL.2
 clear aL bx;clear hw bc be bf R;have cK:(k:Int)<(s.bufs.length:Int):=by omega
 obtain⟨H,HJ,aO,HG,HM,bT⟩:=H6 h hj hD bk hM bz;clear h hj hD ok hc bk hM bz bb P j1 X j3 j4 j5 j6 ay y0 y1 y2 y3;go_enter func84,ntmps84;go_upto_region 1 with (fail);refine AS 39 [35] [31,32,33,36,37,38] [(20,fun v _=>v=I J pr),(28,(fun v w'=>∃ u c2 y c3 A c4,v=.tuple #[.agg #[I J s.bufs[k].depth,Y u j.length c2,Y y l.length c3,Y A m.length c4],.bool o,I J L,I J er]∧AA w' w.heap.size (Y u j.length c2) j∧Ax w' w.heap.size (Y y l.length c3) l∧Ax w' w.heap.size (Y A m.length c4) m)),(34,Bh w.heap.size #[I J 0,Y O 0 0,Y O 0 0,Y O 0 0] 111)] ⟨Ch,(fun v w1 w2 ⟨u,c2,y,c3,A,c4,e,M,h2,h3⟩ a=>⟨u,c2,y,c3,A,c4,e,Ty.below M a,Ty.below h2 a,Ty.below h3 a⟩),Bh.AX,trivial⟩ ?_
 iterate 20 (refine An rfl rfl rfl ?_;intro K hK;go_big_quiet_op;go_big_quiet_on)
 refine A9 rfl rfl (fun w' a hA=>?_) ?_
 ·refine AD (f:=116) (al:=[G (Z ⟨F,0,O⟩)]) rfl rfl rfl Ho ?_;exact(bW.o w' a).mono fun e w2 h=>⟨_,h.1,h.2,rfl⟩
 intro v w' a V;obtain rfl:=V;clear a w';simp only[Au,cE,cG,cF]
 iterate 7 (refine An rfl rfl rfl ?_;intro K hK;go_big_quiet_op;go_big_quiet_on)
 refine A9 rfl rfl (fun w' a hA=>?_) ?_
 ·refine AD (f:=123) (al:=[.agg #[I J s.bufs[k].depth,.slice av s.bufs[k].data.length cv,.slice ap s.bufs[k].put.length cp,.slice ag s.bufs[k].get.length cg],I J i,I J pr,I U data[0]]) rfl rfl rfl T7 ?_;exact(HC.o w' a).mono fun e w2 h=>by
   obtain⟨u1,u2,u3,he,t1,t2,t3,b2⟩:=h;obtain⟨u,c2,ce⟩:=Ty.shape t1;obtain⟨y,c3,cf⟩:=Ty.shape t2;obtain⟨A,c4,ch⟩:=Ty.shape t3;subst ce cf ch;exact⟨_,he,b2,_,_,_,_,_,_,rfl,Ty.mono t1 a.size,Ty.mono t2 a.size,Ty.mono t3 a.size⟩
 intro v w' a V;obtain⟨u,c2,y,c3,A,c4,rfl,t1,t2,t3⟩:=V;clear a t1 t2 t3 w';simp only[Au,cE,cG,cF]
 iterate 2 (refine An rfl rfl rfl ?_;intro K hK;go_big_quiet_op;go_big_quiet_on)
 iterate 3 (refine Bi rfl rfl rfl ?_;intro K hK;go_big_quiet_op;go_big_quiet_on)
 refine A9 rfl rfl (fun w' a hA=>?_) ?_
 ·exact EY (T #[I J 0,Y O 0 0,Y O 0 0,Y O 0 0] 111) (by simp[execOp,go_sem]) ⟨w'.heap.size,a.size,rfl,cP _ _⟩
 intro v w' a V;obtain⟨q,S,rfl,E⟩:=V;clear a S E w';simp only[Au,cE,cG,cF];refine AH rfl ?_
 iterate 3 (refine Bi rfl rfl rfl ?_;intro K hK;go_big_quiet_op;go_big_quiet_on)
 refine AR ?_;intro C n N;have ca:=N 28 _ (by decide) rfl;obtain⟨b8,E⟩:=Bh.at_ (N 34 _ (by decide) rfl);obtain⟨a5,c5,a6,c6,a7,c7,e4,t1,t2,t3⟩:=ca;injection e4 with e4;simp only[dw,dt,ds,dp,true_and,and_true] at e4;obtain⟨⟨rfl,rfl⟩,⟨rfl,rfl⟩,rfl,rfl⟩:=e4;obtain⟨z0,z1,z2,z3⟩:=r4 E;obtain⟨f0,f1,f2,f3⟩:=f4 E;obtain⟨p,a1⟩:=ex ((((C.setCell ⟨q,0,O⟩ (I J s.bufs[k].depth)).setCell ⟨q,1,O⟩ (Y u j.length c2)).setCell ⟨q,2,O⟩ (Y y l.length c3)).setCell ⟨q,3,O⟩ (Y A m.length c4));refine AI (w':=p) (by rw[a1];simp[execOp,go_sem,z0,f0,z1,f1,z2,f2,z3,f3]) ?_;unfold A7;have ae:p=setsAt C q 0 [(0,I J s.bufs[k].depth),(1,Y u j.length c2),(2,Y y l.length c3),(3,Y A m.length c4)]:=a1;have aN:Hq (Bl w p):=by rw[ae];exact DH b8 n _
 have aj:p.heap[q]? =Z (T #[I J s.bufs[k].depth,Y u j.length c2,Y y l.length c3,Y A m.length c4] 111 (0,0)):=by rw[ae];exact Di _ E
 have bN:Hq (A4 p D (Y u j.length c2) j):=by rw[ae];exact Ny (AA.rd t1) (E9 t1 E (by decide)) aO.o
 have bQ:Hq (Bm p D (Y y l.length c3) l):=by rw[ae];exact Gb (Ax.rd t2) (E9 t2 E (by decide)) aO.o
 have bP:Hq (Bm p D (Y A m.length c4) m):=by rw[ae];exact Gb (Ax.rd t3) (E9 t3 E (by decide)) aO.o
 clear t1 t2 t3;clear a1 ae n N E z0 f0 z1 f1 z2 f2 z3 f3 bj aT Q an t ct cu cw cx ax bh cl bi qd;have M:=H.o.below aN.o;have aI:=HJ.o.below aN.o;have ar:q<p.heap.size:=Aa aj;obtain⟨P,j1,X,j3,j4,j5,j6⟩:=aI.cells;have t:F<p.heap.size:=Aa aI;have ax:=qC P t;have bh:=qC X t;have ay:=M.I8 ba;have an:=M.lt;have bj:=qC ay an;have aT:=M.bu.cap;have Q:=M.bu.lt;have cn:=qC (show p.cell? ⟨q,0,O⟩=_ from Cr aj) ar;have cq:=qC (show p.cell? ⟨q,1,O⟩=_ from Cr aj) ar;have cr:=qC (show p.cell? ⟨q,2,O⟩=_ from Cr aj) ar;have cs:=qC (show p.cell? ⟨q,3,O⟩=_ from Cr aj) ar;obtain⟨H1,cy⟩:=H2 M aI;clear M aI P j1 X j3 j4 j5 j6 ay aj;go_upto_region 2 with (fail);refine AS 16 [15] [] [] trivial ?_
 iterate 15 (refine An rfl rfl rfl ?_;intro K hK;go_big_quiet_op;go_big_quiet_on)
 refine AH rfl ?_;refine AR ?_;intro C n N;clear N;have h9:=H1.o.below n;have F9:∀ o,C.frozen? ⟨c.bu.b,o,O⟩=false:=h9.bu.frozen ba;obtain⟨v,pv,gv,af,_,_,_⟩:=h9.bu.el k hk;have z0:C.cell? ⟨c.bu.b,k*4,O⟩=Z _:=af 0 _ rfl;have f0:=F9 (k*4);have z1:C.cell? ⟨c.bu.b,k*4+1,O⟩=Z _:=af 1 _ rfl;have f1:=F9 (k*4+1);have z2:C.cell? ⟨c.bu.b,k*4+2,O⟩=Z _:=af 2 _ rfl;have f2:=F9 (k*4+2);have z3:C.cell? ⟨c.bu.b,k*4+3,O⟩=Z _:=af 3 _ rfl;have f3:=F9 (k*4+3);have aK:=h9.Kr hk [(0,I J s.bufs[k].depth),(1,Y u j.length c2),(2,Y y l.length c3),(3,Y A m.length c4)] rfl af (x:=⟨s.bufs[k].depth,j,l,m⟩) fun w' b4 a9=>⟨_,_,_,b4,(bN.o.Ag (.C9 n)).Ag a9,(bQ.o.Ag (.C9 n)).Ag a9,(bP.o.Ag (.C9 n)).Ag a9⟩;obtain⟨W2,am⟩:=ex ((((C.setCell ⟨c.bu.b,k*4,O⟩ (I J s.bufs[k].depth)).setCell ⟨c.bu.b,k*4+1,O⟩ (Y u j.length c2)).setCell ⟨c.bu.b,k*4+2,O⟩ (Y y l.length c3)).setCell ⟨c.bu.b,k*4+3,O⟩ (Y A m.length c4));refine AI (w':=W2) (by rw[am];simp[execOp,go_sem,z0,f0,z1,f1,z2,f2,z3,f3]) ?_;unfold A7;have aD:Hq (PA W2 D g d c {s with bufs:=s.bufs.set k ⟨s.bufs[k].depth,j,l,m⟩}):=by rw[am];exact aK.1
 have cA:Hq (Upd (Mut g c) p W2):=by rw[am];exact(Upd.below n).trans aK.2
 have aP:Hq (Upd (Mut g c) w W2):=by rw[am];exact((Upd.below aN.o).trans (Upd.below (n.mono (cS _)))).trans aK.2
 clear am aK af F9 h9 n z0 f0 z1 f1 z2 f2 z3 f3 bj aT Q an t cn cq cr cs ax bh ar;have h2:=aD.o;have aJ:=HJ.o.BG aP.o bT.o;obtain⟨P,j1,X,j3,j4,j5,j6⟩:=aJ.cells;have t:F<W2.heap.size:=Aa aJ;have ax:=qC P t;have bi:=qC j4 t;have cm:=qC j6 t;have cz:=HH aJ;clear h2 aJ P j1 X j3 j4 j5 j6;go_upto_region 3 with (fail);refine BQ 15 [(14,One W2.heap.size (I J L) 3)] ⟨One.AX,trivial⟩ ?_
 iterate 14 (refine AK rfl ?_;intro K hK;go_big_quiet_op;go_big_quiet_on)
 refine Ca rfl (fun w' a hA=>?_) ?_
 ·exact Bn (v:=Y (Z ⟨w'.heap.size,0,O⟩) 1 1) (w':=w'.alloc (T #[I J L] 3)) (by simp[execOp,go_sem]) ⟨(cV _ _).alloc (cS _) _,⟨w'.heap.size,a.size,rfl,cP _ _⟩⟩
 intro v w' a V;obtain⟨q3,b7,rfl,b9⟩:=V;clear a b7 b9 w';simp only[Au,cE,cG,cF];refine BN ?_;intro C n N;simp only[cW,da,db];have o9:=N 14 _ (by decide) rfl;have a0:=aP.o.trans (Upd.below n);obtain⟨bl,bY⟩:=H2 (IG B C D g d c _ now (Y (Z ⟨bd,od,O⟩) data.length cd) (Y (Z ⟨q3,0,O⟩) 1 1) data [L] (HG.o.BG a0 HM.o) HM.o (aD.o.below n) bU.o ((bO.o.Ag (KeepD.nm aP.o)).below n) ⟨o9.sl (fun q S=>EF aD.o S)|>.1,(o9.sl (fun q S=>EF aD.o S)).2⟩ (by omega) bm.o (by simp) (fun z hz=>by simp at hz;subst hz;exact ci) cb cc) a0;clear N n a0 o9 ax bi cm t;go_wp2_with fail;refine bl.o.mono ?_;rintro e w3 ⟨rfl,p3,u3⟩;obtain⟨bV,bX⟩:=H2 p3 (bY.o.trans u3);clear p3 u3 bl;go_wp2_with fail;go_ret;rw[HE.o];exact⟨rfl,bV.o,bX.o⟩
def Ov:EG 124:=fun _ _=>by kernel_rfl
def VZ(B:Nat)(w:cQ)(D:Nat→Prop)(g:Nat)(d:Ad)(j:Hd)(s:Ae)(kind:Int)(k:Nat)(b:Int)(data:List Int)(jb:Nat)(vd:dm)(i:Nat)(now:Int)(bV:Gl B w)(hM:∀ q∈Mut g j,B≤q)(h:PA w D g d j s)(ok:Ah d s)(hj:JB w jb g kind k b vd i now)(b6:jb∉Mut g j)(hD:∀ q,w.heap.size≤q→D q)(bJ:0≤now)(bK:now≤4294967296)(hk:k<s.bufs.length)(hi:i<d.procs.length):
  cT prog 85 #[G (Z ⟨jb,0,O⟩)] w fun e w'=>e=.returned (.bool (Gt d i now (⟨kind,k,b,data⟩:Ac) s).2)∧PA w' D g d j (Gt d i now (⟨kind,k,b,data⟩:Ac) s).1∧Upd (Mut g j) w w':=by
 generalize bB:(d.procs.getD i default).prio=pr;have b0:Hq (∀ W,Bl w W→cT prog 116 #[G (Z ⟨jb,0,O⟩)] W fun e w'=>e=.returned (I J pr)∧Bl W w'):=fun W a=>by
  have:=Jm W D g d j s kind k b data jb _ i now (h.below a) ok (hj.below a) (fun q hq=>hD q (c9 a.size hq)) hi;rwa [bB] at this
 obtain⟨P,j1,S,j3,j4,j5,j6⟩:=hj.cells;have A:jb<w.heap.size:=Aa hj;have ah:=qC P A;have aT:=qC S A;have bl:=qC j5 A;have a8:0<s.bufs.length:=by omega
 have aL:=h.I8 a8;have aG:=h.lt;have aU:=qC aL aG;have aS:=h.bu.cap;have ay:=h.bu.lt;have h6:=ok.ok.procs;obtain⟨v,pv,gv,hc,bF,bG,bH⟩:=h.bu.el k hk;obtain⟨y0,y1,y2,y3⟩:=LZ hc;have b9:=qC y0 ay;have ca:=qC y1 ay;have cb:=qC y2 ay;have cc:=qC y3 ay;obtain⟨av,cv,rfl,_,_,_⟩:=bF.1.open_;obtain⟨ap,cp,rfl,_,_,_⟩:=bG.1.open_;obtain⟨ag,cg,rfl,_,_,_⟩:=bH.1.open_;have aO:=(ok.bu _ (cU hk));have cB:=aO.len;have cC:=aO.put.len;have cD:=aO.get.len;obtain⟨l,m,n,vy,o,Q,er,hw⟩:∃ l m n vy o Q er,getBu s.bufs[k].depth s.bufs[k].data s.bufs[k].put s.bufs[k].get i pr=(l,m,n,vy,o,Q,er):=⟨_,_,_,_,_,_,_,rfl⟩;have HC:Hq (∀ W,Bl w W→cT prog 124 #[.agg #[I J s.bufs[k].depth,.slice av s.bufs[k].data.length cv,.slice ap s.bufs[k].put.length cp,.slice ag s.bufs[k].get.length cg],I J i,I J pr] W (NK W s.bufs[k].depth l m n (I U vy) (.bool o) (I J Q) (I J er))):=fun W a=>by
  have:=Uz s.bufs[k].depth i pr (.slice av s.bufs[k].data.length cv) (.slice ap s.bufs[k].put.length cp) (.slice ag s.bufs[k].get.length cg) s.bufs[k].data s.bufs[k].put s.bufs[k].get W (bF.1.below a) (bG.1.below a) (bH.1.below a) (aO.put.wf h6) (aO.get.wf h6) (by omega) (by omega) (by omega);rwa [hw] at this
 have bY:Hq (Gt d i now (⟨kind,k,b,data⟩:Ac) s=if o=true then(Co d i [vy] (wakeP d now [] [Q] {s with bufs:=s.bufs.set k ⟨s.bufs[k].depth,l,m,n⟩}),true) else(wakeP d now [] [Q] {s with bufs:=s.bufs.set k ⟨s.bufs[k].depth,l,m,n⟩},false)):=by
  show Gt d i now (⟨kind,k,b,data⟩:Ac) s=_;simp only[Gt,buA,prioA,dr,getD_at _ _ hk,bB,hw]
 have a9:=aO.OG (q:=i) (r:=pr) (by omega) (by omega);rw[hw] at a9;have bs:Hq (Ah d {s with bufs:=s.bufs.set k ⟨s.bufs[k].depth,l,m,n⟩}):=ok.Lp k a9.1;have bO:Q<(s.procs.length:Int):=by rw[ok.procs];exact a9.2.1
 have cj:Hq (Ah d (wakeP d now [] [Q] {s with bufs:=s.bufs.set k ⟨s.bufs[k].depth,l,m,n⟩})):=(Ah.IF (fun z N=>by cases N) bJ bK [Q] bs.o (fun z N=>by simp at N;subst N;exact bO)).1;have cz:Hq (Bf [vy]):=fun z N=>by simp at N;subst N;exact a9.2.2
 clear a9;clear hw bF bG bH aO;have cA:(k:Int)<(s.bufs.length:Int):=by omega
 obtain⟨H,HJ,aR,HG,HM,br⟩:=H6 h hj hD bV hM b6;clear h hj hD ok hc bV hM b6 bB P j1 S j3 j4 j5 j6 aL y0 y1 y2 y3;cases o with
 |true=>
  have HE:=bY.o;rw[if_pos rfl] at HE;have HE:=HH HE;go_enter func85,ntmps85;go_upto_region 1 with (fail);refine AS 34 [29] [24,25,26,27,30,31,32,33] [(20,fun v _=>v=I J pr),(21,(fun v w'=>∃ t c2 u c3 y c4,v=.tuple #[.agg #[I J s.bufs[k].depth,Y t l.length c2,Y u m.length c3,Y y n.length c4],I U vy,.bool true,I J Q,I J er]∧AA w' w.heap.size (Y t l.length c2) l∧Ax w' w.heap.size (Y u m.length c3) m∧Ax w' w.heap.size (Y y n.length c4) n)),(28,Bh w.heap.size #[I J 0,Y O 0 0,Y O 0 0,Y O 0 0] 111)] ⟨Ch,(fun v w1 w2 ⟨t,c2,u,c3,y,c4,e,L,h2,h3⟩ a=>⟨t,c2,u,c3,y,c4,e,Ty.below L a,Ty.below h2 a,Ty.below h3 a⟩),Bh.AX,trivial⟩ ?_
  iterate 20 (refine An rfl rfl rfl ?_;intro K hK;go_big_quiet_op;go_big_quiet_on)
  refine A9 rfl rfl (fun w' a hA=>?_) ?_
  ·refine AD (f:=116) (al:=[G (Z ⟨jb,0,O⟩)]) rfl rfl rfl Ho ?_;exact(b0.o w' a).mono fun e w2 h=>⟨_,h.1,h.2,rfl⟩
  intro v w' a M;obtain rfl:=M;clear a w';simp only[Au,cE,cG,cF];refine A9 rfl rfl (fun w' a hA=>?_) ?_
  ·refine AD (f:=124) (al:=[.agg #[I J s.bufs[k].depth,.slice av s.bufs[k].data.length cv,.slice ap s.bufs[k].put.length cp,.slice ag s.bufs[k].get.length cg],I J i,I J pr]) rfl rfl rfl Ov ?_;exact(HC.o w' a).mono fun e w2 h=>by
    obtain⟨u1,u2,u3,he,t1,t2,t3,bx⟩:=h;obtain⟨t,c2,bL⟩:=Ty.shape t1;obtain⟨u,c3,bM⟩:=Ty.shape t2;obtain⟨y,c4,bN⟩:=Ty.shape t3;subst bL bM bN;exact⟨_,he,bx,_,_,_,_,_,_,rfl,Ty.mono t1 a.size,Ty.mono t2 a.size,Ty.mono t3 a.size⟩
  intro v w' a M;obtain⟨t,c2,u,c3,y,c4,rfl,t1,t2,t3⟩:=M;clear a t1 t2 t3 w';simp only[Au,cE,cG,cF]
  iterate 2 (refine An rfl rfl rfl ?_;intro K hK;go_big_quiet_op;go_big_quiet_on)
  iterate 4 (refine Bi rfl rfl rfl ?_;intro K hK;go_big_quiet_op;go_big_quiet_on)
  refine A9 rfl rfl (fun w' a hA=>?_) ?_
  ·exact EY (T #[I J 0,Y O 0 0,Y O 0 0,Y O 0 0] 111) (by simp[execOp,go_sem]) ⟨w'.heap.size,a.size,rfl,cP _ _⟩
  intro v w' a M;obtain⟨q,hq,rfl,F⟩:=M;clear a hq F w';simp only[Au,cE,cG,cF];refine AH rfl ?_
  iterate 4 (refine Bi rfl rfl rfl ?_;intro K hK;go_big_quiet_op;go_big_quiet_on)
  refine AR ?_;intro C c E;have bI:=E 21 _ (by decide) rfl;obtain⟨bD,F⟩:=Bh.at_ (E 28 _ (by decide) rfl);obtain⟨a5,c5,a6,c6,a7,c7,e4,t1,t2,t3⟩:=bI;injection e4 with e4;simp only[dw,dt,ds,dp,true_and,and_true] at e4;obtain⟨⟨rfl,rfl⟩,⟨rfl,rfl⟩,rfl,rfl⟩:=e4;obtain⟨z0,z1,z2,z3⟩:=r4 F;obtain⟨f0,f1,f2,f3⟩:=f4 F;obtain⟨p,aN⟩:=ex ((((C.setCell ⟨q,0,O⟩ (I J s.bufs[k].depth)).setCell ⟨q,1,O⟩ (Y t l.length c2)).setCell ⟨q,2,O⟩ (Y u m.length c3)).setCell ⟨q,3,O⟩ (Y y n.length c4));refine AI (w':=p) (by rw[aN];simp[execOp,go_sem,z0,f0,z1,f1,z2,f2,z3,f3]) ?_;unfold A7;have X:p=setsAt C q 0 [(0,I J s.bufs[k].depth),(1,Y t l.length c2),(2,Y u m.length c3),(3,Y y n.length c4)]:=aN;have aM:Hq (Bl w p):=by rw[X];exact DH bD c _
  have af:p.heap[q]? =Z (T #[I J s.bufs[k].depth,Y t l.length c2,Y u m.length c3,Y y n.length c4] 111 (0,0)):=by rw[X];exact Di _ F
  have bn:Hq (A4 p D (Y t l.length c2) l):=by rw[X];exact Ny (AA.rd t1) (E9 t1 F (by decide)) aR.o
  have bp:Hq (Bm p D (Y u m.length c3) m):=by rw[X];exact Gb (Ax.rd t2) (E9 t2 F (by decide)) aR.o
  have bo:Hq (Bm p D (Y y n.length c4) n):=by rw[X];exact Gb (Ax.rd t3) (E9 t3 F (by decide)) aR.o
  clear t1 t2 t3;clear aN X c E F z0 f0 z1 f1 z2 f2 z3 f3 aU aS ay aG A b9 ca cb cc ah aT bl;have L:=H.o.below aM.o;have aH:=HJ.o.below aM.o;have am:q<p.heap.size:=Aa af;obtain⟨P,j1,S,j3,j4,j5,j6⟩:=aH.cells;have A:jb<p.heap.size:=Aa aH;have ah:=qC P A;have aT:=qC S A;have aL:=L.I8 a8;have aG:=L.lt;have aU:=qC aL aG;have aS:=L.bu.cap;have ay:=L.bu.lt;have bQ:=qC (show p.cell? ⟨q,0,O⟩=_ from Cr af) am;have bR:=qC (show p.cell? ⟨q,1,O⟩=_ from Cr af) am;have bS:=qC (show p.cell? ⟨q,2,O⟩=_ from Cr af) am;have bT:=qC (show p.cell? ⟨q,3,O⟩=_ from Cr af) am;obtain⟨H1,ci⟩:=H2 L aH;clear L aH P j1 S j3 j4 j5 j6 aL af;go_upto_region 2 with (fail);refine AS 16 [15] [] [] trivial ?_
  iterate 15 (refine An rfl rfl rfl ?_;intro K hK;go_big_quiet_op;go_big_quiet_on)
  refine AH rfl ?_;refine AR ?_;intro C c E;clear E;have h9:=H1.o.below c;have F9:∀ o,C.frozen? ⟨j.bu.b,o,O⟩=false:=h9.bu.frozen a8;obtain⟨v,pv,gv,aa,_,_,_⟩:=h9.bu.el k hk;have z0:C.cell? ⟨j.bu.b,k*4,O⟩=Z _:=aa 0 _ rfl;have f0:=F9 (k*4);have z1:C.cell? ⟨j.bu.b,k*4+1,O⟩=Z _:=aa 1 _ rfl;have f1:=F9 (k*4+1);have z2:C.cell? ⟨j.bu.b,k*4+2,O⟩=Z _:=aa 2 _ rfl;have f2:=F9 (k*4+2);have z3:C.cell? ⟨j.bu.b,k*4+3,O⟩=Z _:=aa 3 _ rfl;have f3:=F9 (k*4+3);have aI:=h9.Kr hk [(0,I J s.bufs[k].depth),(1,Y t l.length c2),(2,Y u m.length c3),(3,Y y n.length c4)] rfl aa (x:=⟨s.bufs[k].depth,l,m,n⟩) fun w' bz aQ=>⟨_,_,_,bz,(bn.o.Ag (.C9 c)).Ag aQ,(bp.o.Ag (.C9 c)).Ag aQ,(bo.o.Ag (.C9 c)).Ag aQ⟩;obtain⟨V,ak⟩:=ex ((((C.setCell ⟨j.bu.b,k*4,O⟩ (I J s.bufs[k].depth)).setCell ⟨j.bu.b,k*4+1,O⟩ (Y t l.length c2)).setCell ⟨j.bu.b,k*4+2,O⟩ (Y u m.length c3)).setCell ⟨j.bu.b,k*4+3,O⟩ (Y y n.length c4));refine AI (w':=V) (by rw[ak];simp[execOp,go_sem,z0,f0,z1,f1,z2,f2,z3,f3]) ?_;unfold A7;have aC:Hq (PA V D g d j {s with bufs:=s.bufs.set k ⟨s.bufs[k].depth,l,m,n⟩}):=by rw[ak];exact aI.1
  have cl:Hq (Upd (Mut g j) p V):=by rw[ak];exact(Upd.below c).trans aI.2
  have aY:Hq (Upd (Mut g j) w V):=by rw[ak];exact((Upd.below aM.o).trans (Upd.below (c.mono (cS _)))).trans aI.2
  clear ak aI aa F9 h9 c z0 f0 z1 f1 z2 f2 z3 f3 aU aS ay aG A bQ bR bS bT ah aT am;have h2:=aC.o;have R:=HJ.o.BG aY.o br.o;obtain⟨P,j1,S,j3,j4,j5,j6⟩:=R.cells;have A:jb<V.heap.size:=Aa R;have ah:=qC P A;have bP:=qC j6 A;have bZ:=HH R;clear h2 R P j1 S j3 j4 j5 j6;go_upto_region 3 with (fail);refine BQ 10 [(9,One V.heap.size (I J Q) 3)] ⟨One.AX,trivial⟩ ?_
  iterate 9 (refine AK rfl ?_;intro K hK;go_big_quiet_op;go_big_quiet_on)
  refine Ca rfl (fun w' a hA=>?_) ?_
  ·exact Bn (v:=Y (Z ⟨w'.heap.size,0,O⟩) 1 1) (w':=w'.alloc (T #[I J Q] 3)) (by simp[execOp,go_sem]) ⟨(cV _ _).alloc (cS _) _,⟨w'.heap.size,a.size,rfl,cP _ _⟩⟩
  intro v w' a M;obtain⟨q3,bC,rfl,bE⟩:=M;clear a bC bE w';simp only[Au,cE,cG,cF];refine BN ?_;intro C c E;simp only[cW,da,db];have o9:=E 9 _ (by decide) rfl;have aj:=aY.o.trans (Upd.below c);obtain⟨aV,aZ⟩:=H2 (IG B C D g d j _ now (Y O 0 0) (Y (Z ⟨q3,0,O⟩) 1 1) [] [Q] (HG.o.BG aj HM.o) HM.o (aC.o.below c) bs.o A4.nil ⟨o9.sl (fun q hq=>EF aC.o hq)|>.1,(o9.sl (fun q hq=>EF aC.o hq)).2⟩ (by simp) (fun z N=>by cases N) (by simp) (fun z N=>by simp at N;subst N;exact bO) bJ bK) aj;clear E c aj o9 ah bP A;go_wp2_with fail;refine aV.o.mono ?_;rintro e w3 ⟨rfl,p3,u3⟩;obtain⟨bc,bd⟩:=H2 p3 (aZ.o.trans u3);clear p3 u3 aV;have h2:=bc.o;have R:=HJ.o.BG bd.o br.o;obtain⟨P,j1,S,j3,j4,j5,j6⟩:=R.cells;have A:jb<w3.heap.size:=Aa R;have ah:=qC P A;have bl:=qC j5 A;have bZ:=HH R;clear h2 R P j1 S j3 j4 j5 j6;go_upto_region 5 with (fail);refine BQ 10 [(9,One w3.heap.size (I U vy) 5)] ⟨One.AX,trivial⟩ ?_
  iterate 9 (refine AK rfl ?_;intro K hK;go_big_quiet_op;go_big_quiet_on)
  refine Ca rfl (fun w' a hA=>?_) ?_
  ·exact Bn (v:=Y (Z ⟨w'.heap.size,0,O⟩) 1 1) (w':=w'.alloc (T #[I U vy] 5)) (by simp[execOp,go_sem]) ⟨(cV _ _).alloc (cS _) _,⟨w'.heap.size,a.size,rfl,cP _ _⟩⟩
  intro v w' a M;obtain⟨q4,cu,rfl,cw⟩:=M;clear a cu cw w';simp only[Au,cE,cG,cF];refine BN ?_;intro C c E;simp only[cW,da,db];have o9:=E 9 _ (by decide) rfl;have aj:=bd.o.trans (Upd.below c);obtain⟨bX,aZ⟩:=H2 (Iu B C D g d j _ i (Y (Z ⟨q4,0,O⟩) 1 1) [vy] (HG.o.BG aj HM.o) (bc.o.below c) cj.o hi (o9.sl (D:=fun _=>True) (fun _ _=>trivial)).1 (by simp)) aj;clear E c aj o9 ah bl A;go_wp2_with fail;refine bX.o.mono ?_;rintro e w5 ⟨rfl,p5,u5⟩;obtain⟨ck,cm⟩:=H2 p5 (aZ.o.trans u5);clear p5 u5 bX;go_wp2_with fail;go_ret;rw[HE.o];exact⟨rfl,ck.o,cm.o⟩
 |false=>
  have HE:=bY.o;rw[if_neg (by decide)] at HE;have HE:=HH HE;go_enter func85,ntmps85;go_upto_region 1 with (fail);refine AS 34 [29] [24,25,26,27,30,31,32,33] [(20,fun v _=>v=I J pr),(21,(fun v w'=>∃ t c2 u c3 y c4,v=.tuple #[.agg #[I J s.bufs[k].depth,Y t l.length c2,Y u m.length c3,Y y n.length c4],I U vy,.bool false,I J Q,I J er]∧AA w' w.heap.size (Y t l.length c2) l∧Ax w' w.heap.size (Y u m.length c3) m∧Ax w' w.heap.size (Y y n.length c4) n)),(28,Bh w.heap.size #[I J 0,Y O 0 0,Y O 0 0,Y O 0 0] 111)] ⟨Ch,(fun v w1 w2 ⟨t,c2,u,c3,y,c4,e,L,h2,h3⟩ a=>⟨t,c2,u,c3,y,c4,e,Ty.below L a,Ty.below h2 a,Ty.below h3 a⟩),Bh.AX,trivial⟩ ?_
  iterate 20 (refine An rfl rfl rfl ?_;intro K hK;go_big_quiet_op;go_big_quiet_on)
  refine A9 rfl rfl (fun w' a hA=>?_) ?_
  ·refine AD (f:=116) (al:=[G (Z ⟨jb,0,O⟩)]) rfl rfl rfl Ho ?_;exact(b0.o w' a).mono fun e w2 h=>⟨_,h.1,h.2,rfl⟩
  intro v w' a M;obtain rfl:=M;clear a w';simp only[Au,cE,cG,cF];refine A9 rfl rfl (fun w' a hA=>?_) ?_
  ·refine AD (f:=124) (al:=[.agg #[I J s.bufs[k].depth,.slice av s.bufs[k].data.length cv,.slice ap s.bufs[k].put.length cp,.slice ag s.bufs[k].get.length cg],I J i,I J pr]) rfl rfl rfl Ov ?_;exact(HC.o w' a).mono fun e w2 h=>by
    obtain⟨u1,u2,u3,he,t1,t2,t3,bx⟩:=h;obtain⟨t,c2,bL⟩:=Ty.shape t1;obtain⟨u,c3,bM⟩:=Ty.shape t2;obtain⟨y,c4,bN⟩:=Ty.shape t3;subst bL bM bN;exact⟨_,he,bx,_,_,_,_,_,_,rfl,Ty.mono t1 a.size,Ty.mono t2 a.size,Ty.mono t3 a.size⟩
  intro v w' a M;obtain⟨t,c2,u,c3,y,c4,rfl,t1,t2,t3⟩:=M;clear a t1 t2 t3 w';simp only[Au,cE,cG,cF]
  iterate 2 (refine An rfl rfl rfl ?_;intro K hK;go_big_quiet_op;go_big_quiet_on)
  iterate 4 (refine Bi rfl rfl rfl ?_;intro K hK;go_big_quiet_op;go_big_quiet_on)
  refine A9 rfl rfl (fun w' a hA=>?_) ?_
  ·exact EY (T #[I J 0,Y O 0 0,Y O 0 0,Y O 0 0] 111) (by simp[execOp,go_sem]) ⟨w'.heap.size,a.size,rfl,cP _ _⟩
  intro v w' a M;obtain⟨q,hq,rfl,F⟩:=M;clear a hq F w';simp only[Au,cE,cG,cF];refine AH rfl ?_
  iterate 4 (refine Bi rfl rfl rfl ?_;intro K hK;go_big_quiet_op;go_big_quiet_on)
  refine AR ?_;intro C c E;have bI:=E 21 _ (by decide) rfl;obtain⟨bD,F⟩:=Bh.at_ (E 28 _ (by decide) rfl);obtain⟨a5,c5,a6,c6,a7,c7,e4,t1,t2,t3⟩:=bI;injection e4 with e4;simp only[dw,dt,ds,dp,true_and,and_true] at e4;obtain⟨⟨rfl,rfl⟩,⟨rfl,rfl⟩,rfl,rfl⟩:=e4;obtain⟨z0,z1,z2,z3⟩:=r4 F;obtain⟨f0,f1,f2,f3⟩:=f4 F;obtain⟨p,aN⟩:=ex ((((C.setCell ⟨q,0,O⟩ (I J s.bufs[k].depth)).setCell ⟨q,1,O⟩ (Y t l.length c2)).setCell ⟨q,2,O⟩ (Y u m.length c3)).setCell ⟨q,3,O⟩ (Y y n.length c4));refine AI (w':=p) (by rw[aN];simp[execOp,go_sem,z0,f0,z1,f1,z2,f2,z3,f3]) ?_;unfold A7;have X:p=setsAt C q 0 [(0,I J s.bufs[k].depth),(1,Y t l.length c2),(2,Y u m.length c3),(3,Y y n.length c4)]:=aN;have aM:Hq (Bl w p):=by rw[X];exact DH bD c _
  have af:p.heap[q]? =Z (T #[I J s.bufs[k].depth,Y t l.length c2,Y u m.length c3,Y y n.length c4] 111 (0,0)):=by rw[X];exact Di _ F
  have bn:Hq (A4 p D (Y t l.length c2) l):=by rw[X];exact Ny (AA.rd t1) (E9 t1 F (by decide)) aR.o
  have bp:Hq (Bm p D (Y u m.length c3) m):=by rw[X];exact Gb (Ax.rd t2) (E9 t2 F (by decide)) aR.o
  have bo:Hq (Bm p D (Y y n.length c4) n):=by rw[X];exact Gb (Ax.rd t3) (E9 t3 F (by decide)) aR.o
  clear t1 t2 t3;clear aN X c E F z0 f0 z1 f1 z2 f2 z3 f3 aU aS ay aG A b9 ca cb cc ah aT bl;have L:=H.o.below aM.o;have aH:=HJ.o.below aM.o;have am:q<p.heap.size:=Aa af;obtain⟨P,j1,S,j3,j4,j5,j6⟩:=aH.cells;have A:jb<p.heap.size:=Aa aH;have ah:=qC P A;have aT:=qC S A;have aL:=L.I8 a8;have aG:=L.lt;have aU:=qC aL aG;have aS:=L.bu.cap;have ay:=L.bu.lt;have bQ:=qC (show p.cell? ⟨q,0,O⟩=_ from Cr af) am;have bR:=qC (show p.cell? ⟨q,1,O⟩=_ from Cr af) am;have bS:=qC (show p.cell? ⟨q,2,O⟩=_ from Cr af) am;have bT:=qC (show p.cell? ⟨q,3,O⟩=_ from Cr af) am;obtain⟨H1,ci⟩:=H2 L aH;clear L aH P j1 S j3 j4 j5 j6 aL af;go_upto_region 2 with (fail);refine AS 16 [15] [] [] trivial ?_
  iterate 15 (refine An rfl rfl rfl ?_;intro K hK;go_big_quiet_op;go_big_quiet_on)
  refine AH rfl ?_;refine AR ?_;intro C c E;clear E;have h9:=H1.o.below c;have F9:∀ o,C.frozen? ⟨j.bu.b,o,O⟩=false:=h9.bu.frozen a8;obtain⟨v,pv,gv,aa,_,_,_⟩:=h9.bu.el k hk;have z0:C.cell? ⟨j.bu.b,k*4,O⟩=Z _:=aa 0 _ rfl;have f0:=F9 (k*4);have z1:C.cell? ⟨j.bu.b,k*4+1,O⟩=Z _:=aa 1 _ rfl;have f1:=F9 (k*4+1);have z2:C.cell? ⟨j.bu.b,k*4+2,O⟩=Z _:=aa 2 _ rfl;have f2:=F9 (k*4+2);have z3:C.cell? ⟨j.bu.b,k*4+3,O⟩=Z _:=aa 3 _ rfl;have f3:=F9 (k*4+3);have aI:=h9.Kr hk [(0,I J s.bufs[k].depth),(1,Y t l.length c2),(2,Y u m.length c3),(3,Y y n.length c4)] rfl aa (x:=⟨s.bufs[k].depth,l,m,n⟩) fun w' bz aQ=>⟨_,_,_,bz,(bn.o.Ag (.C9 c)).Ag aQ,(bp.o.Ag (.C9 c)).Ag aQ,(bo.o.Ag (.C9 c)).Ag aQ⟩;obtain⟨V,ak⟩:=ex ((((C.setCell ⟨j.bu.b,k*4,O⟩ (I J s.bufs[k].depth)).setCell ⟨j.bu.b,k*4+1,O⟩ (Y t l.length c2)).setCell ⟨j.bu.b,k*4+2,O⟩ (Y u m.length c3)).setCell ⟨j.bu.b,k*4+3,O⟩ (Y y n.length c4));refine AI (w':=V) (by rw[ak];simp[execOp,go_sem,z0,f0,z1,f1,z2,f2,z3,f3]) ?_;unfold A7;have aC:Hq (PA V D g d j {s with bufs:=s.bufs.set k ⟨s.bufs[k].depth,l,m,n⟩}):=by rw[ak];exact aI.1
  have cl:Hq (Upd (Mut g j) p V):=by rw[ak];exact(Upd.below c).trans aI.2
  have aY:Hq (Upd (Mut g j) w V):=by rw[ak];exact((Upd.below aM.o).trans (Upd.below (c.mono (cS _)))).trans aI.2
  clear ak aI aa F9 h9 c z0 f0 z1 f1 z2 f2 z3 f3 aU aS ay aG A bQ bR bS bT ah aT am;have h2:=aC.o;have R:=HJ.o.BG aY.o br.o;obtain⟨P,j1,S,j3,j4,j5,j6⟩:=R.cells;have A:jb<V.heap.size:=Aa R;have ah:=qC P A;have bP:=qC j6 A;have bZ:=HH R;clear h2 R P j1 S j3 j4 j5 j6;go_upto_region 3 with (fail);refine BQ 10 [(9,One V.heap.size (I J Q) 3)] ⟨One.AX,trivial⟩ ?_
  iterate 9 (refine AK rfl ?_;intro K hK;go_big_quiet_op;go_big_quiet_on)
  refine Ca rfl (fun w' a hA=>?_) ?_
  ·exact Bn (v:=Y (Z ⟨w'.heap.size,0,O⟩) 1 1) (w':=w'.alloc (T #[I J Q] 3)) (by simp[execOp,go_sem]) ⟨(cV _ _).alloc (cS _) _,⟨w'.heap.size,a.size,rfl,cP _ _⟩⟩
  intro v w' a M;obtain⟨q3,bC,rfl,bE⟩:=M;clear a bC bE w';simp only[Au,cE,cG,cF];refine BN ?_;intro C c E;simp only[cW,da,db];have o9:=E 9 _ (by decide) rfl;have aj:=aY.o.trans (Upd.below c);obtain⟨aV,aZ⟩:=H2 (IG B C D g d j _ now (Y O 0 0) (Y (Z ⟨q3,0,O⟩) 1 1) [] [Q] (HG.o.BG aj HM.o) HM.o (aC.o.below c) bs.o A4.nil ⟨o9.sl (fun q hq=>EF aC.o hq)|>.1,(o9.sl (fun q hq=>EF aC.o hq)).2⟩ (by simp) (fun z N=>by cases N) (by simp) (fun z N=>by simp at N;subst N;exact bO) bJ bK) aj;clear E c aj o9 ah bP A;go_wp2_with fail;refine aV.o.mono ?_;rintro e w3 ⟨rfl,p3,u3⟩;obtain⟨bc,bd⟩:=H2 p3 (aZ.o.trans u3);clear p3 u3 aV;go_wp2_with fail;go_ret;rw[HE.o];exact⟨rfl,bc.o,bd.o⟩
def Ox:EG 126:=fun _ _=>by kernel_rfl
def Wa(B:Nat)(w:cQ)(D:Nat→Prop)(g:Nat)(d:Ad)(c:Hd)(s:Ae)(kind:Int)(k:Nat)(b:Int)(data:List Int)(N:Nat)(vd:dm)(i:Nat)(now:Int)(bc:Gl B w)(hM:∀ q∈Mut g c,B≤q)(h:PA w D g d c s)(ok:Ah d s)(hj:JB w N g kind k b vd i now)(bl:N∉Mut g c)(hD:∀ q,w.heap.size≤q→D q)(bP:0≤now)(bQ:now≤4294967296)(hk:k<s.boards.length)(hi:i<d.procs.length):
  cT prog 87 #[G (Z ⟨N,0,O⟩)] w fun e w'=>e=.returned (.bool (Gu d i (⟨kind,k,b,data⟩:Ac) s).2)∧PA w' D g d c (Gu d i (⟨kind,k,b,data⟩:Ac) s).1∧Upd (Mut g c) w w':=by
 generalize a4:(d.procs.getD i default).prio=pr;have bh:Hq (∀ W,Bl w W→cT prog 116 #[G (Z ⟨N,0,O⟩)] W fun e w'=>e=.returned (I J pr)∧Bl W w'):=fun W a=>by
  have:=Jm W D g d c s kind k b data N _ i now (h.below a) ok (hj.below a) (fun q hq=>hD q (c9 a.size hq)) hi;rwa [a4] at this
 obtain⟨M,j1,V,j3,j4,j5,j6⟩:=hj.cells;have t:N<w.heap.size:=Aa hj;have an:=qC M t;have aC:=qC V t;have aR:=qC j5 t;have aH:0<s.boards.length:=by omega
 have ao:=h.I7 aH;have af:=h.lt;have aD:=qC ao af;have aA:=h.bo.cap;have ae:=h.bo.lt;have h6:=ok.ok.procs;obtain⟨v,hc,hr⟩:=h.bo.el k hk;obtain⟨y0,y1,y2⟩:=EO hc;have bp:=qC y0 ae;have bq:=qC y1 ae;have br:=qC y2 ae;obtain⟨av,cv,rfl,_,_,_⟩:=hr.1.open_;have aQ:=(ok.bo _ (cU hk));obtain⟨l',vy,o,er,hw⟩:∃ l' vy o er,lookBd s.boards[k].has s.boards[k].val s.boards[k].wait i pr=(l',vy,o,er):=⟨_,_,_,_,rfl⟩;have HC:Hq (∀ W,Bl w W→cT prog 126 #[.agg #[.bool s.boards[k].has,I U s.boards[k].val,.slice av s.boards[k].wait.length cv],I J i,I J pr] W (NH W s.boards[k].has s.boards[k].val l' (I U vy) (.bool o) (I J er))):=fun W a=>by
  have:=Xi s.boards[k].has s.boards[k].val i pr (.slice av s.boards[k].wait.length cv) s.boards[k].wait W (hr.1.below a) (aQ.wf h6) (by have:=aQ.len;omega);rwa [hw] at this
 have bg:Hq (Gu d i (⟨kind,k,b,data⟩:Ac) s=if o=true then(Co d i [vy] {s with boards:=s.boards.set k ⟨s.boards[k].has,s.boards[k].val,l'⟩},true) else({s with boards:=s.boards.set k ⟨s.boards[k].has,s.boards[k].val,l'⟩},false)):=by
  show Gu d i (⟨kind,k,b,data⟩:Ac) s=_;simp only[Gu,boA,prioA,dr,getD_at _ _ hk,a4,hw]
 have bB:Hq (Ah d {s with boards:=s.boards.set k ⟨s.boards[k].has,s.boards[k].val,l'⟩}):=ok.Km k (by have:=Pv (b:=s.boards[k].has) (x:=s.boards[k].val) (p:=i) (r:=pr) aQ (by omega) (by omega);rw[hw] at this;exact this);clear hw hr aQ;have bO:(k:Int)<(s.boards.length:Int):=by omega
 obtain⟨H,HJ,bf,HG,HM,bz⟩:=H6 h hj hD bc hM bl;clear h hj hD ok hc bc hM bl a4 M j1 V j3 j4 j5 j6 ao y0 y1 y2;cases o with
 |true=>
  have HE:=bg.o;rw[if_pos rfl] at HE;have HE:=HH HE;go_enter func87,ntmps87;go_upto_region 1 with (fail);refine AS 32 [28] [24,25,26,29,30,31] [(20,fun v _=>v=I J pr),(21,(fun v w'=>∃ j c2,v=.tuple #[.agg #[.bool s.boards[k].has,I U s.boards[k].val,Y j l'.length c2],I U vy,.bool true,I J er]∧Ax w' w.heap.size (Y j l'.length c2) l')),(27,Bh w.heap.size #[.bool false,I U 0,Y O 0 0] 103)] ⟨Ch,(fun v w1 w2 ⟨j,c2,e,h⟩ a=>⟨j,c2,e,Ty.below h a⟩),Bh.AX,trivial⟩ ?_
  iterate 20 (refine An rfl rfl rfl ?_;intro K hK;go_big_quiet_op;go_big_quiet_on)
  refine A9 rfl rfl (fun w' a hA=>?_) ?_
  ·refine AD (f:=116) (al:=[G (Z ⟨N,0,O⟩)]) rfl rfl rfl Ho ?_;exact(bh.o w' a).mono fun e w2 h=>⟨_,h.1,h.2,rfl⟩
  intro v w' a C;obtain rfl:=C;clear a w';simp only[Au,cE,cG,cF];refine A9 rfl rfl (fun w' a hA=>?_) ?_
  ·refine AD (f:=126) (al:=[.agg #[.bool s.boards[k].has,I U s.boards[k].val,.slice av s.boards[k].wait.length cv],I J i,I J pr]) rfl rfl rfl Ox ?_;exact(HC.o w' a).mono fun e w2 h=>by
    obtain⟨u,he,hf,aX⟩:=h;obtain⟨j,c2,hu⟩:=Bc hf.fr;subst hu;exact⟨_,he,aX,_,_,rfl,Ty.mono hf a.size⟩
  intro v w' a C;obtain⟨j,c2,rfl,a0⟩:=C;clear a a0 w';simp only[Au,cE,cG,cF]
  iterate 2 (refine An rfl rfl rfl ?_;intro K hK;go_big_quiet_op;go_big_quiet_on)
  iterate 3 (refine Bi rfl rfl rfl ?_;intro K hK;go_big_quiet_op;go_big_quiet_on)
  refine A9 rfl rfl (fun w' a hA=>?_) ?_
  ·exact EY (T #[.bool false,I U 0,Y O 0 0] 103) (by simp[execOp,go_sem]) ⟨w'.heap.size,a.size,rfl,cP _ _⟩
  intro v w' a C;obtain⟨q,hq,rfl,y⟩:=C;clear a hq y w';simp only[Au,cE,cG,cF];refine AH rfl ?_
  iterate 3 (refine Bi rfl rfl rfl ?_;intro K hK;go_big_quiet_op;go_big_quiet_on)
  refine AR ?_;intro n m z;have a7:=z 21 _ (by decide) rfl;obtain⟨a5,y⟩:=Bh.at_ (z 27 _ (by decide) rfl);obtain⟨a3,c3,e3,ar⟩:=a7;injection e3 with e3;simp only[dw,dt,ds,dp,true_and,and_true] at e3;obtain⟨rfl,rfl⟩:=e3;obtain⟨Q,R,S⟩:=r3 y;obtain⟨f0,f1,f2⟩:=f3 y;obtain⟨l,aq⟩:=ex (((n.setCell ⟨q,0,O⟩ (.bool s.boards[k].has)).setCell ⟨q,1,O⟩ (I U s.boards[k].val)).setCell ⟨q,2,O⟩ (Y j l'.length c2));refine AI (w':=l) (by rw[aq];simp[execOp,go_sem,Q,f0,R,f1,S,f2]) ?_;unfold A7;have ac:l=setsAt n q 0 [(0,.bool s.boards[k].has),(1,I U s.boards[k].val),(2,Y j l'.length c2)]:=aq;have ap:Hq (Bl w l):=by rw[ac];exact DH a5 m _
  have P:l.heap[q]? =Z (T #[.bool s.boards[k].has,I U s.boards[k].val,Y j l'.length c2] 103 (0,0)):=by rw[ac];exact Di _ y
  have aT:Hq (Bm l D (Y j l'.length c2) l'):=by rw[ac];exact Gb ar.fr.rd (E9 ar y (by decide)) bf.o
  clear ar;clear aq ac m z y Q f0 R f1 S f2 aD aA ae af t bp bq br an aC aR;have A:=H.o.below ap.o;have ag:=HJ.o.below ap.o;have ai:q<l.heap.size:=Aa P;obtain⟨M,j1,V,j3,j4,j5,j6⟩:=ag.cells;have t:N<l.heap.size:=Aa ag;have an:=qC M t;have aC:=qC V t;have ao:=A.I7 aH;have af:=A.lt;have aD:=qC ao af;have aA:=A.bo.cap;have ae:=A.bo.lt;have a9:=qC (show l.cell? ⟨q,0,O⟩=_ from Cr P) ai;have ba:=qC (show l.cell? ⟨q,1,O⟩=_ from Cr P) ai;have bb:=qC (show l.cell? ⟨q,2,O⟩=_ from Cr P) ai;obtain⟨H1,bx⟩:=H2 A ag;clear A ag M j1 V j3 j4 j5 j6 ao P;go_upto_region 2 with (fail);refine AS 16 [15] [] [] trivial ?_
  iterate 15 (refine An rfl rfl rfl ?_;intro K hK;go_big_quiet_op;go_big_quiet_on)
  refine AH rfl ?_;refine AR ?_;intro n m z;clear z;have h9:=H1.o.below m;have X:∀ o,n.frozen? ⟨c.bo.b,o,O⟩=false:=h9.bo.frozen aH;obtain⟨v,L,_⟩:=h9.bo.el k hk;have Q:n.cell? ⟨c.bo.b,k*3,O⟩=Z _:=L 0 _ rfl;have f0:=X (k*3);have R:n.cell? ⟨c.bo.b,k*3+1,O⟩=Z _:=L 1 _ rfl;have f1:=X (k*3+1);have S:n.cell? ⟨c.bo.b,k*3+2,O⟩=Z _:=L 2 _ rfl;have f2:=X (k*3+2);have ah:=h9.Kq hk [(0,.bool s.boards[k].has),(1,I U s.boards[k].val),(2,Y j l'.length c2)] rfl L (x:=⟨s.boards[k].has,s.boards[k].val,l'⟩) fun w' aY a1=>⟨_,aY,(aT.o.Ag (.C9 m)).Ag a1⟩;obtain⟨E,F⟩:=ex (((n.setCell ⟨c.bo.b,k*3,O⟩ (.bool s.boards[k].has)).setCell ⟨c.bo.b,k*3+1,O⟩ (I U s.boards[k].val)).setCell ⟨c.bo.b,k*3+2,O⟩ (Y j l'.length c2));refine AI (w':=E) (by rw[F];simp[execOp,go_sem,Q,f0,R,f1,S,f2]) ?_;unfold A7;have aK:Hq (PA E D g d c {s with boards:=s.boards.set k ⟨s.boards[k].has,s.boards[k].val,l'⟩}):=by rw[F];exact ah.1
  have bD:Hq (Upd (Mut g c) l E):=by rw[F];exact(Upd.below m).trans ah.2
  have aL:Hq (Upd (Mut g c) w E):=by rw[F];exact((Upd.below ap.o).trans (Upd.below (m.mono (cS _)))).trans ah.2
  clear F ah L X h9 m Q f0 R f1 S f2 aD aA ae af t a9 ba bb an aC ai;have h2:=aK.o;have aO:=HJ.o.BG aL.o bz.o;obtain⟨M,j1,V,j3,j4,j5,j6⟩:=aO.cells;have t:N<E.heap.size:=Aa aO;have an:=qC M t;have aR:=qC j5 t;have bN:=HH aO;clear h2 aO M j1 V j3 j4 j5 j6;go_upto_region 4 with (fail);refine BQ 10 [(9,One E.heap.size (I U vy) 5)] ⟨One.AX,trivial⟩ ?_
  iterate 9 (refine AK rfl ?_;intro K hK;go_big_quiet_op;go_big_quiet_on)
  refine Ca rfl (fun w' a hA=>?_) ?_
  ·exact Bn (v:=Y (Z ⟨w'.heap.size,0,O⟩) 1 1) (w':=w'.alloc (T #[I U vy] 5)) (by simp[execOp,go_sem]) ⟨(cV _ _).alloc (cS _) _,⟨w'.heap.size,a.size,rfl,cP _ _⟩⟩
  intro v w' a C;obtain⟨q4,bJ,rfl,bK⟩:=C;clear a bJ bK w';simp only[Au,cE,cG,cF];refine BN ?_;intro n m z;simp only[cW,da,db];have o9:=z 9 _ (by decide) rfl;have aW:=aL.o.trans (Upd.below m);obtain⟨be,bF⟩:=H2 (Iu B n D g d c _ i (Y (Z ⟨q4,0,O⟩) 1 1) [vy] (HG.o.BG aW HM.o) (aK.o.below m) bB.o hi (o9.sl (D:=fun _=>True) (fun _ _=>trivial)).1 (by simp)) aW;clear z m aW o9 an aR t;go_wp2_with fail;refine be.o.mono ?_;rintro e w5 ⟨rfl,p5,u5⟩;obtain⟨bC,bE⟩:=H2 p5 (bF.o.trans u5);clear p5 u5 be;go_wp2_with fail;go_ret;rw[HE.o];exact⟨rfl,bC.o,bE.o⟩
 |false=>
  have HE:=bg.o;rw[if_neg (by decide)] at HE;have HE:=HH HE;go_enter func87,ntmps87;go_upto_region 1 with (fail);refine AS 32 [28] [24,25,26,29,30,31] [(20,fun v _=>v=I J pr),(21,(fun v w'=>∃ j c2,v=.tuple #[.agg #[.bool s.boards[k].has,I U s.boards[k].val,Y j l'.length c2],I U vy,.bool false,I J er]∧Ax w' w.heap.size (Y j l'.length c2) l')),(27,Bh w.heap.size #[.bool false,I U 0,Y O 0 0] 103)] ⟨Ch,(fun v w1 w2 ⟨j,c2,e,h⟩ a=>⟨j,c2,e,Ty.below h a⟩),Bh.AX,trivial⟩ ?_
  iterate 20 (refine An rfl rfl rfl ?_;intro K hK;go_big_quiet_op;go_big_quiet_on)
  refine A9 rfl rfl (fun w' a hA=>?_) ?_
  ·refine AD (f:=116) (al:=[G (Z ⟨N,0,O⟩)]) rfl rfl rfl Ho ?_;exact(bh.o w' a).mono fun e w2 h=>⟨_,h.1,h.2,rfl⟩
  intro v w' a C;obtain rfl:=C;clear a w';simp only[Au,cE,cG,cF];refine A9 rfl rfl (fun w' a hA=>?_) ?_
  ·refine AD (f:=126) (al:=[.agg #[.bool s.boards[k].has,I U s.boards[k].val,.slice av s.boards[k].wait.length cv],I J i,I J pr]) rfl rfl rfl Ox ?_;exact(HC.o w' a).mono fun e w2 h=>by
    obtain⟨u,he,hf,aX⟩:=h;obtain⟨j,c2,hu⟩:=Bc hf.fr;subst hu;exact⟨_,he,aX,_,_,rfl,Ty.mono hf a.size⟩
  intro v w' a C;obtain⟨j,c2,rfl,a0⟩:=C;clear a a0 w';simp only[Au,cE,cG,cF]
  iterate 2 (refine An rfl rfl rfl ?_;intro K hK;go_big_quiet_op;go_big_quiet_on)
  iterate 3 (refine Bi rfl rfl rfl ?_;intro K hK;go_big_quiet_op;go_big_quiet_on)
  refine A9 rfl rfl (fun w' a hA=>?_) ?_
  ·exact EY (T #[.bool false,I U 0,Y O 0 0] 103) (by simp[execOp,go_sem]) ⟨w'.heap.size,a.size,rfl,cP _ _⟩
  intro v w' a C;obtain⟨q,hq,rfl,y⟩:=C;clear a hq y w';simp only[Au,cE,cG,cF];refine AH rfl ?_
  iterate 3 (refine Bi rfl rfl rfl ?_;intro K hK;go_big_quiet_op;go_big_quiet_on)
  refine AR ?_;intro n m z;have a7:=z 21 _ (by decide) rfl;obtain⟨a5,y⟩:=Bh.at_ (z 27 _ (by decide) rfl);obtain⟨a3,c3,e3,ar⟩:=a7;injection e3 with e3;simp only[dw,dt,ds,dp,true_and,and_true] at e3;obtain⟨rfl,rfl⟩:=e3;obtain⟨Q,R,S⟩:=r3 y;obtain⟨f0,f1,f2⟩:=f3 y;obtain⟨l,aq⟩:=ex (((n.setCell ⟨q,0,O⟩ (.bool s.boards[k].has)).setCell ⟨q,1,O⟩ (I U s.boards[k].val)).setCell ⟨q,2,O⟩ (Y j l'.length c2));refine AI (w':=l) (by rw[aq];simp[execOp,go_sem,Q,f0,R,f1,S,f2]) ?_;unfold A7;have ac:l=setsAt n q 0 [(0,.bool s.boards[k].has),(1,I U s.boards[k].val),(2,Y j l'.length c2)]:=aq;have ap:Hq (Bl w l):=by rw[ac];exact DH a5 m _
  have P:l.heap[q]? =Z (T #[.bool s.boards[k].has,I U s.boards[k].val,Y j l'.length c2] 103 (0,0)):=by rw[ac];exact Di _ y
  have aT:Hq (Bm l D (Y j l'.length c2) l'):=by rw[ac];exact Gb ar.fr.rd (E9 ar y (by decide)) bf.o
  clear ar;clear aq ac m z y Q f0 R f1 S f2 aD aA ae af t bp bq br an aC aR;have A:=H.o.below ap.o;have ag:=HJ.o.below ap.o;have ai:q<l.heap.size:=Aa P;obtain⟨M,j1,V,j3,j4,j5,j6⟩:=ag.cells;have t:N<l.heap.size:=Aa ag;have an:=qC M t;have aC:=qC V t;have ao:=A.I7 aH;have af:=A.lt;have aD:=qC ao af;have aA:=A.bo.cap;have ae:=A.bo.lt;have a9:=qC (show l.cell? ⟨q,0,O⟩=_ from Cr P) ai;have ba:=qC (show l.cell? ⟨q,1,O⟩=_ from Cr P) ai;have bb:=qC (show l.cell? ⟨q,2,O⟩=_ from Cr P) ai;obtain⟨H1,bx⟩:=H2 A ag;clear A ag M j1 V j3 j4 j5 j6 ao P;go_upto_region 2 with (fail);refine AS 16 [15] [] [] trivial ?_
  iterate 15 (refine An rfl rfl rfl ?_;intro K hK;go_big_quiet_op;go_big_quiet_on)
  refine AH rfl ?_;refine AR ?_;intro n m z;clear z;have h9:=H1.o.below m;have X:∀ o,n.frozen? ⟨c.bo.b,o,O⟩=false:=h9.bo.frozen aH;obtain⟨v,L,_⟩:=h9.bo.el k hk;have Q:n.cell? ⟨c.bo.b,k*3,O⟩=Z _:=L 0 _ rfl;have f0:=X (k*3);have R:n.cell? ⟨c.bo.b,k*3+1,O⟩=Z _:=L 1 _ rfl;have f1:=X (k*3+1);have S:n.cell? ⟨c.bo.b,k*3+2,O⟩=Z _:=L 2 _ rfl;have f2:=X (k*3+2);have ah:=h9.Kq hk [(0,.bool s.boards[k].has),(1,I U s.boards[k].val),(2,Y j l'.length c2)] rfl L (x:=⟨s.boards[k].has,s.boards[k].val,l'⟩) fun w' aY a1=>⟨_,aY,(aT.o.Ag (.C9 m)).Ag a1⟩;obtain⟨E,F⟩:=ex (((n.setCell ⟨c.bo.b,k*3,O⟩ (.bool s.boards[k].has)).setCell ⟨c.bo.b,k*3+1,O⟩ (I U s.boards[k].val)).setCell ⟨c.bo.b,k*3+2,O⟩ (Y j l'.length c2));refine AI (w':=E) (by rw[F];simp[execOp,go_sem,Q,f0,R,f1,S,f2]) ?_;unfold A7;have aK:Hq (PA E D g d c {s with boards:=s.boards.set k ⟨s.boards[k].has,s.boards[k].val,l'⟩}):=by rw[F];exact ah.1
  have bD:Hq (Upd (Mut g c) l E):=by rw[F];exact(Upd.below m).trans ah.2
  have aL:Hq (Upd (Mut g c) w E):=by rw[F];exact((Upd.below ap.o).trans (Upd.below (m.mono (cS _)))).trans ah.2
  clear F ah L X h9 m Q f0 R f1 S f2 aD aA ae af t a9 ba bb an aC ai;go_wp2_with fail;go_ret;rw[HE.o];exact⟨rfl,aK.o,aL.o⟩
def Xw(n:Nat)(a:n≤6)(w:cQ):cT prog 110 #[I .u64 1,I .u64 (n:Int)] w fun e w'=>e=.returned (.tuple #[I .u64 0,I .u64 (n:Int)])∧w'=w:=by
 rcases(show n=0∨n=1∨n=2∨n=3∨n=4∨n=5∨n=6 by omega) with rfl|rfl|rfl|rfl|rfl|rfl|rfl<;>(go_enter func110,ntmps110;go_wp2;refine dL (v:=.tuple #[I .u64 0,_]) (by simp[results,results110,go_sem];rfl) rfl ⟨rfl,rfl⟩)
def DR:List dm:=[I U 1,I J 0,I J 0,I U 0,I U 0,I U 0,I U 0,I J 0,I J (-1),I J (-1),I U 0,I J 0]
def G9(cur:List dm)(k:Nat):Prop:=∀ j,j<k*12→cur[j]? =DR[j%12]?
def Qz:(prog.info? 51).map (·.size)=Z 12:=by kernel_rfl
def OW:(prog.info? 51).map (fun i=>(i.zero,i.size,i.bytes))=Z (Z (.agg #[I U 0,I J 0,I J 0,I U 0,I U 0,I U 0,I U 0,I J 0,I J 0,I J 0,I U 0,I J 0]),12,72):=by kernel_rfl
def Oq:∀ u∈DR,u.oneCell'=true:=by
 intro u a;simp only[DR,List.mem_cons,List.not_mem_nil,or_false] at a;rcases a with rfl|rfl|rfl|rfl|rfl|rfl|rfl|rfl|rfl|rfl|rfl|rfl<;>rfl
def SS{cur:List dm}{k:Nat}(h:G9 cur k){m:Nat}(e:m≤k)(c:k*12≤cur.length):(cur.take (m*12)).length=m*12∧(∀ u∈cur.take (m*12),u.oneCell'=true):=by
 refine⟨by simp;omega,fun u b=>?_⟩;obtain⟨j,a⟩:=List.mem_iff_getElem?.1 b;rw[df] at a;split at a
 ·rename_i d;rw[h j (by omega)] at a;exact Oq u (List.mem_of_getElem? a)
 ·cases a
def Ot{cur a:List dm}{k m:Nat}(h:G9 cur k)(f:a.length=m*12)(d:∀ j,j<m*12→a[j]? =DR[j%12]?)(g:k*12+m*12≤cur.length):G9 (splice cur (k*12) a) (k+m):=fun j c=>by
 unfold splice;rcases dW j (k*12) with b|b
 ·rw[dH (by simp;omega),df,if_pos b];exact h j b
 ·rw[List.getElem?_append_right (by simp;omega)];have e:j-(cur.take (k*12)).length=j-k*12:=by
   rw[dC,dU (by omega)]
  rw[e,dH (by rw[f];rw[Nat.add_mul] at c;omega),d _ (by rw[Nat.add_mul] at c;omega)]
  congr 1
  omega
def Rm(w:cQ)(n:Nat)(e:Ending)(w':cQ):Prop:=e=.returned (Y (Z ⟨w.heap.size,0,O⟩) n n)∧(∃ cur,w'.heap[w.heap.size]? =Z (T cur.toArray 51 (0,0))∧cur.length=n*12∧G9 cur n)∧Bl w w'
def Y0(b n:Nat)(w:cQ)(H:w.heap[b]? =Z (T DR.toArray 51 (0,0)))(hn:n≤6):
  cT prog 67 #[Y (Z ⟨b,0,O⟩) 1 1,I J (n:Int)] w (Rm w n):=by
 obtain⟨i0,V,ac,ad,ae⟩:=info_parts OW;have am:b<w.heap.size:=Aa H;obtain⟨d,M⟩:∃ d:Array dm,d=madeCells (Value.cells (.agg #[I U 0,I J 0,I J 0,I U 0,I U 0,I U 0,I U 0,I J 0,I J 0,I J 0,I U 0,I J 0])) (n*12):=⟨_,rfl⟩;have t:d.size=n*12:=by rw[M,size_madeCells]
 have X:∀ W:cQ,(Instr.makeSlice 33 (I J (n:Int)) (I J (n:Int))).run prog W=.ok (Y (Z ⟨W.heap.size,0,O⟩) n n) (W.alloc (T d 51)):=fun W=>by
  have:=run_make (P:=prog) W 33 51 i0 _ underlying33 V ac J J n n (by omega) (Int.le_refl _) (by rw[ae];omega) (by omega);rw[ad,dr,←M] at this;exact this
 obtain⟨f,r⟩:=ex (w.alloc (T d 51));have F:f.heap[w.heap.size]? =Z (T d.toList.toArray 51 (0,0)):=by
  rw[r];exact cP w _
 have D:f.heap[b]? =Z (T DR.toArray 51 (0,0)):=by
  rw[r,dk _ _ _ am];exact H
 have i:Bl w f:=by
  rw[r];exact(cV _ w).alloc (cS _) _
 obtain⟨k0,l⟩:=ex (dO 1 n);have ap:k0≤n:=by rw[l];exact dR _ _
 have aC:k0≤1:=by rw[l];exact dT _ _
 have aq:0<n→0<k0:=fun h=>by rw[l];exact Nat.le_min.2 ⟨cS _,h⟩
 have c:(DR.take (k0*12)).length=k0*12:=by
  rw[dC,show DR.length=12 from rfl];omega
 have an:∀ p,(dQ #[33,33] p #[Y (Z ⟨w.heap.size,0,O⟩) n n,Y (Z ⟨b,0,O⟩) 1 1]).run prog f=.ok (goInt k0) (f.setRow w.heap.size (splice d.toList 0 (DR.take (k0*12))).toArray):=fun p=>by
  rw[l];exact Jt f _ _ p 51 12 w.heap.size 0 n n ⟨b,0,O⟩ 1 1 d.toList _ (DR.take (dO 1 n*12)) underlying33 Qz F (by rw[←l];exact c)
   (fun j v a=>by
    rw[Cu,cell_of_row f b _ _ _ _ D];rw[df] at a;split at a
    ·simpa using a
    ·cases a) (by rw[←l,c];simp[t];omega) (fun u hu=>Oq u (List.mem_of_mem_take hu))
 obtain⟨Q,y⟩:=ex (f.setRow w.heap.size (splice d.toList 0 (DR.take (k0*12))).toArray);rw[←y,r] at an;have C:Hq (∃ cur,Q.heap[w.heap.size]? =Z (T cur.toArray 51 (0,0))∧cur.length=n*12∧G9 cur k0∧Bl w Q):=by
  refine⟨splice d.toList 0 (DR.take (k0*12)),by rw[y];exact setRow_heap f _ _ _ _ _ F,?_,?_,?_⟩
  ·rw[length_splice _ _ _ (by rw[c];simp[t];omega)];simp[t]
  ·have:=Ot (cur:=d.toList) (k:=0) (m:=k0) (fun j a=>by omega) c (fun j a=>by
    rw[df,if_pos a]
    congr 1
    omega) (by simp[t];omega)
   simpa using this
  ·rw[y];exact⟨i.os,i.tape,i.output,by simpa[dV] using i.size,fun q L=>(setRow_other f _ q _ (by omega)).trans (i.block q L)⟩
 have aa:=Xw n hn;have aH:¬((n:Int)<0):=by omega
 have aK:IntKind.u64.wrap (n:Int)=(n:Int):=by rw[IntKind.wrap_u64];omega
 have aI:IntKind.i64.wrap (n:Int)=(n:Int):=by rw[dq];omega
 have aA:¬((9223372036854775807:Int)<(n:Int)):=by omega
 obtain⟨ag,az⟩:=H2 aa (And.intro D i);clear l y r H F D i aa V ac ad ae c t M;go_enter func67,ntmps67;go_upto_region 8 with (first|(go_at_call 110;refine(ag.o _).mono ?_;rintro e w3 ⟨rfl,ab⟩;obtain rfl:w=w3:=ab.symm;clear ab)|fail)
 go_loopw [8] (fun v wr=>∃ k:Nat,k≤n∧(0<n→0<k)∧v=I J k∧Hq (∃ cur,wr.heap[w.heap.size]? =Z (T cur.toArray 51 (0,0))∧cur.length=n*12∧G9 cur k∧Bl w wr)) (fun v _=>n-(dl v).toNat)
 case atStart=>exact⟨k0,ap,aq,rfl,C.o⟩
 case round=>
  obtain⟨k,aD,ar,rfl,A⟩:=hrel;by_cases hk:k<n
  ·obtain⟨cur,x,K,B,R⟩:=A.o;have aE:(k:Int)<(n:Int):=by omega
   obtain⟨m,g⟩:=ex (dO k (n-k));have au:m≤k:=by rw[g];exact dT _ _
   have aF:m≤n-k:=by rw[g];exact dR _ _
   have aG:0<m:=by rw[g];exact Nat.le_min.2 ⟨ar (by omega),by omega⟩
   obtain⟨c,S⟩:=SS B au (by omega);have ao:∀ p E N,(dQ #[33,33] p #[Y (Z ⟨w.heap.size,k*12,O⟩) (n-k) E,Y (Z ⟨w.heap.size,0,O⟩) k N]).run prog wr.drew=.ok (goInt m) (wr.drew.setRow w.heap.size (splice cur (k*12) (cur.take (m*12))).toArray):=fun p E N=>by
    rw[g];exact Jt wr.drew _ _ p 51 12 w.heap.size (k*12) (n-k) E ⟨w.heap.size,0,O⟩ k N cur _ (cur.take (dO k (n-k)*12)) underlying33 Qz x (by rw[←g];exact c)
     (fun j v a=>by
      rw[Cu,cell_of_row wr.drew _ _ _ _ _ x];rw[df] at a;split at a
      ·simpa using a
      ·cases a) (by rw[←g,c,K];omega) (by rw[←g];exact S)
   obtain⟨W3,z⟩:=ex (wr.drew.setRow w.heap.size (splice cur (k*12) (cur.take (m*12))).toArray);have HN:Hq (∃ cur,W3.heap[w.heap.size]? =Z (T cur.toArray 51 (0,0))∧cur.length=n*12∧G9 cur (k+m)∧Bl w W3):=by
    refine⟨splice cur (k*12) (cur.take (m*12)),by rw[z];exact setRow_heap wr.drew _ _ _ _ _ x,?_,?_,?_⟩
    ·rw[length_splice _ _ _ (by rw[c];omega)];exact K
    ·exact Ot B c (fun j a=>by
      rw[df,if_pos a];exact B j (by omega)) (by omega)
    ·have s:Bl w wr.drew:=R.drew;rw[z];exact⟨s.os,s.tape,s.output,by simpa[dV] using s.size,fun q L=>(setRow_other wr.drew _ q _ (by omega)).trans (s.block q L)⟩
   rw[←z] at ao;have aJ:IntKind.i64.wrap ((k:Int)+(m:Int))=(k:Int)+(m:Int):=by rw[dq];omega
   clear g z x K B R c S A C X;go_wp2_with fail
   go_region
   go_roundw
   case rel=>exact⟨I J ((k:Int)+(m:Int)),_,_,_,_,_,_,_,_,_,_,_,_,_,⟨k+m,by omega,by omega,by simp,HN.o⟩,rfl⟩
   case measure=>simp[dl];omega
  ·obtain rfl:k=n:=by omega
   have HA:=HH A.o;clear A C X;go_wp2_with fail;go_ret;obtain⟨cur,h1,h2,h3,h4⟩:=HA.o;exact⟨rfl,⟨cur,h1,h2,h3⟩,h4⟩
def Wl(w:cQ)(D:Nat→Prop)(g:Nat)(d:Ad)(a:Hd)(s:Ae)(kind:Int)(k:Nat)(b:Int)(data:List Int)(r:Nat)(W:dm)(i:Nat)(now:Int)(h:PA w D g d a s)(ok:Ah d s)(n:JB w r g kind k b W i now)(F:∀ q,w.heap.size≤q→D q)(j:k<s.mem.length):
  cT prog 76 #[G (Z ⟨r,0,O⟩)] w fun e w'=>e=.returned (.bool true)∧PA w' D g d a (Q9 (⟨kind,k,b,data⟩:Ac) s)∧Upd (Mut g a) w w':=by
 obtain⟨y,Q,z,A,R,S,V⟩:=n.cells;have p:r<w.heap.size:=Aa n;have v:0<s.mem.length:=by omega
 have B:=h.YU v;have N:=h.lt;have ah:=qC B N;have aa:=h.me.cap;have L:=h.me.lt;have u:=h.me.el k j;have m:w.cell? ⟨a.me.b,k*1,O⟩=Z (I U s.mem[k]):=u 0 _ rfl;rw[dJ] at m;have qm:=qC m L;have ac:(k:Int)<(s.mem.length:Int):=by omega
 have H:=HH h;have ad:=qC y p;have ae:=qC z p;have af:=qC A p;clear h n F ok u m y Q z A R S V B;go_enter func76,ntmps76;go_upto_region 1 with (fail);refine AS 20 [19] [] [] trivial ?_
 iterate 19 (refine An rfl rfl rfl ?_;intro K hK;go_big_quiet_op;go_big_quiet_on)
 refine AH rfl ?_;refine AR ?_;intro t l P;have f:=H.o.below l;have f0:t.frozen? ⟨a.me.b,k,O⟩=false:=f.me.frozen v k;have X:t.cell? ⟨a.me.b,k,O⟩=Z (I U s.mem[k]):=by
  have:=f.me.el k j 0 _ rfl;rwa [dJ] at this
 have c:=f.YO j [(0,I U (b%256))] rfl (f.me.el k j) (x:=b%256) fun w' M ab=>M
 obtain⟨E,C⟩:=H2 c l;clear c f l P;refine AI (w':=t.setCell ⟨a.me.b,k,O⟩ (I U (b%256))) (by simp[execOp,go_sem,X,f0]) ?_;unfold A7;go_wp2_with fail;go_ret;have c:=E.o;simp only[setsAt,dJ,Nat.add_zero] at c;refine⟨rfl,?_,(Upd.below C.o).trans c.2⟩;show PA _ D g d a {s with mem:=s.mem.set ((k:Int).toNat) (b%256)};exact c.1
def cc12{w:cQ}{b o:Nat}{a c f g i k l m n p d e:dm}(h:∀ (j:Nat) (v:dm),[a,c,f,g,i,k,l,m,n,p,d,e][j]? =Z v→w.cell? ⟨b,o+j,O⟩=Z v):w.cell? ⟨b,o,O⟩=Z a∧w.cell? ⟨b,o+1,O⟩=Z c∧w.cell? ⟨b,o+2,O⟩=Z f∧w.cell? ⟨b,o+3,O⟩=Z g∧w.cell? ⟨b,o+4,O⟩=Z i∧w.cell? ⟨b,o+5,O⟩=Z k∧w.cell? ⟨b,o+6,O⟩=Z l∧w.cell? ⟨b,o+7,O⟩=Z m∧w.cell? ⟨b,o+8,O⟩=Z n∧w.cell? ⟨b,o+9,O⟩=Z p∧w.cell? ⟨b,o+10,O⟩=Z d∧w.cell? ⟨b,o+11,O⟩=Z e:=⟨h 0 _ rfl,h 1 _ rfl,h 2 _ rfl,h 3 _ rfl,h 4 _ rfl,h 5 _ rfl,h 6 _ rfl,h 7 _ rfl,h 8 _ rfl,h 9 _ rfl,h 10 _ rfl,h 11 _ rfl⟩
def Pb(B:Nat)(w:cQ)(D:Nat→Prop)(g:Nat)(d:Ad)(a:Hd)(s:Ae)(kind:Int)(k:Nat)(b:Int)(data:List Int)(v:Nat)(vd:dm)(i:Nat)(now:Int)(h:PA w D g d a s)(ok:Ah d s)(u:JB w v g kind k b vd i now)(hD:∀ q,w.heap.size≤q→D q)(c:Gl B w)(t:i<s.procs.length):
  cT prog 90 #[G (Z ⟨v,0,O⟩)] w fun e w'=>e=.returned (.bool true)∧PA w' D g d a (stopA i s)∧Upd (Mut g a) w w':=by
 obtain⟨j0,j1,j2,j3,j4,j5,j6⟩:=u.cells;have W:v<w.heap.size:=Aa u;have X:0<s.procs.length:=by omega
 have ad:=h.FC X;have aw:=h.lt;have aQ:=qC ad aw;have ar:=h.pr.cap;have m:=h.pr.lt;obtain⟨x0,x1,x2,x3,hx,V⟩:=h.pr.el i t;obtain⟨y0,y1,y2,y3,y4,y5,y6,y7,y8,y9,ag,ah⟩:=cc12 V;have n:0<w.heap.size:=by
  have:=c.hb;have:=c.hw;show 0<_;omega
 have z:w.cell? ⟨0,0,O⟩=Z (I U 1):=by have:=c.BC 0 _ rfl;simpa using this
 have A:w.cell? ⟨0,1,O⟩=Z (I J 0):=by have:=c.BC 1 _ rfl;simpa using this
 have F:w.cell? ⟨0,2,O⟩=Z (I J 0):=by have:=c.BC 2 _ rfl;simpa using this
 have L:w.cell? ⟨0,3,O⟩=Z (I U 0):=by have:=c.BC 3 _ rfl;simpa using this
 have M:w.cell? ⟨0,4,O⟩=Z (I U 0):=by have:=c.BC 4 _ rfl;simpa using this
 have N:w.cell? ⟨0,5,O⟩=Z (I U 0):=by have:=c.BC 5 _ rfl;simpa using this
 have P:w.cell? ⟨0,6,O⟩=Z (I U 0):=by have:=c.BC 6 _ rfl;simpa using this
 have Q:w.cell? ⟨0,7,O⟩=Z (I J 0):=by have:=c.BC 7 _ rfl;simpa using this
 have R:w.cell? ⟨0,8,O⟩=Z (I J (-1)):=by have:=c.BC 8 _ rfl;simpa using this
 have S:w.cell? ⟨0,9,O⟩=Z (I J (-1)):=by have:=c.BC 9 _ rfl;simpa using this
 have C:w.cell? ⟨0,10,O⟩=Z (I U 0):=by have:=c.BC 10 _ rfl;simpa using this
 have E:w.cell? ⟨0,11,O⟩=Z (I J 0):=by have:=c.BC 11 _ rfl;simpa using this
 have aE:=qC z n;have aF:=qC A n;have aI:=qC F n;have aJ:=qC L n;have aK:=qC M n;have aL:=qC N n;have aM:=qC P n;have aN:=qC Q n;have aO:=qC R n;have aP:=qC S n;have aG:=qC C n;have aH:=qC E n;have aR:=qC y0 m;have aS:=qC y1 m;have aV:=qC y2 m;have aW:=qC y3 m;have aX:=qC y4 m;have aY:=qC y5 m;have aZ:=qC y6 m;have a0:=qC y7 m;have a1:=qC y8 m;have a2:=qC y9 m;have aT:=qC ag m;have aU:=qC ah m;have bg:(i:Int)<(s.procs.length:Int):=by omega
 have H:=HH h;have bi:=qC j0 W;have bj:=qC j5 W;clear h u hD ok V c j0 j1 j2 j3 j4 j5 j6 ad y0 z y1 A y2 F y3 L y4 M y5 N y6 P y7 Q y8 R y9 S ag C ah E;go_enter func90,ntmps90;go_upto_region 1 with (fail);refine AS 15 [14] [] [] trivial ?_
 iterate 14 (refine An rfl rfl rfl ?_;intro K hK;go_big_quiet_op;go_big_quiet_on)
 refine AH rfl ?_;refine AR ?_;intro j r ax;have p:=H.o.below r;have l:∀ o,j.frozen? ⟨a.pr.b,o,O⟩=false:=p.pr.frozen X;obtain⟨u0,u1,u2,u3,hx,f⟩:=p.pr.el i t;have z0:j.cell? ⟨a.pr.b,i*12,O⟩=Z _:=f 0 _ rfl;have f0:=l (i*12);have z1:j.cell? ⟨a.pr.b,i*12+1,O⟩=Z _:=f 1 _ rfl;have f1:=l (i*12+1);have z2:j.cell? ⟨a.pr.b,i*12+2,O⟩=Z _:=f 2 _ rfl;have f2:=l (i*12+2);have z3:j.cell? ⟨a.pr.b,i*12+3,O⟩=Z _:=f 3 _ rfl;have f3:=l (i*12+3);have z4:j.cell? ⟨a.pr.b,i*12+4,O⟩=Z _:=f 4 _ rfl;have f4:=l (i*12+4);have z5:j.cell? ⟨a.pr.b,i*12+5,O⟩=Z _:=f 5 _ rfl;have f5:=l (i*12+5);have z6:j.cell? ⟨a.pr.b,i*12+6,O⟩=Z _:=f 6 _ rfl;have f6:=l (i*12+6);have z7:j.cell? ⟨a.pr.b,i*12+7,O⟩=Z _:=f 7 _ rfl;have f7:=l (i*12+7);have z8:j.cell? ⟨a.pr.b,i*12+8,O⟩=Z _:=f 8 _ rfl;have f8:=l (i*12+8);have z9:j.cell? ⟨a.pr.b,i*12+9,O⟩=Z _:=f 9 _ rfl;have f9:=l (i*12+9);have a6:j.cell? ⟨a.pr.b,i*12+10,O⟩=Z _:=f 10 _ rfl;have f10:=l (i*12+10);have a7:j.cell? ⟨a.pr.b,i*12+11,O⟩=Z _:=f 11 _ rfl;have f11:=l (i*12+11);have hp:=p.FY t [(0,I U 1),(1,I J 0),(2,I J 0),(3,I U 0),(4,I U 0),(5,I U 0),(6,I U 0),(7,I J 0),(8,I J (-1)),(9,I J (-1)),(10,I U 0),(11,I J 0)] rfl f (x:=EU) fun w' av bh=>⟨0,0,0,0,rfl,av⟩;obtain⟨y,aq⟩:=H2 hp r;clear hp p r ax f l aQ ar aE aR aF aS aI aV aJ aW aK aX aL aY aM aZ aN a0 aO a1 aP a2 aG aT aH aU;refine AI (w':=((((((((((((j.setCell ⟨a.pr.b,i*12,O⟩ (I U 1)).setCell ⟨a.pr.b,i*12+1,O⟩ (I J 0)).setCell ⟨a.pr.b,i*12+2,O⟩ (I J 0)).setCell ⟨a.pr.b,i*12+3,O⟩ (I U 0)).setCell ⟨a.pr.b,i*12+4,O⟩ (I U 0)).setCell ⟨a.pr.b,i*12+5,O⟩ (I U 0)).setCell ⟨a.pr.b,i*12+6,O⟩ (I U 0)).setCell ⟨a.pr.b,i*12+7,O⟩ (I J 0)).setCell ⟨a.pr.b,i*12+8,O⟩ (I J (-1))).setCell ⟨a.pr.b,i*12+9,O⟩ (I J (-1))).setCell ⟨a.pr.b,i*12+10,O⟩ (I U 0)).setCell ⟨a.pr.b,i*12+11,O⟩ (I J 0))) (by simp[execOp,go_sem,z0,f0,z1,f1,z2,f2,z3,f3,z4,f4,z5,f5,z6,f6,z7,f7,z8,f8,z9,f9,a6,f10,a7,f11]) ?_;unfold A7;go_wp2_with fail;go_ret;exact⟨rfl,y.o.1,(Upd.below aq.o).trans y.o.2⟩
def Wc(B:Nat)(w:cQ)(D:Nat→Prop)(g:Nat)(d:Ad)(a:Hd)(s:Ae)(kind:Int)(k:Nat)(b:Int)(data:List Int)(p:Nat)(vd:dm)(i:Nat)(now:Int)(h:PA w D g d a s)(ok:Ah d s)(j:JB w p g kind k b vd i now)(hD:∀ q,w.heap.size≤q→D q)(ae:Gl B w)(f:i<s.procs.length)(hid:i<d.procs.length):
  cT prog 89 #[G (Z ⟨p,0,O⟩)] w fun e w'=>e=.returned (.bool (nextA d i s).2)∧PA w' D g d a (nextA d i s).1∧Upd (Mut g a) w w':=by
 have HS:Hq (∀ W,Bl w W→cT prog 90 #[G (Z ⟨p,0,O⟩)] W fun e w'=>e=.returned (.bool true)∧PA w' D g d a (stopA i s)∧Upd (Mut g a) W w'):=fun W z=>
  Pb B W D g d a s kind k b data p vd i now (h.below z) ok (j.below z) (fun q hq=>hD q (c9 z.size hq)) (ae.below z) f
 obtain⟨m,Q,R,S,V,n,X⟩:=j.cells;have ah:p<w.heap.size:=Aa j;have aD:0<d.procs.length:=by omega
 have aq:=h.GW aD;have ag:=h.lt;have aI:=qC aq ag;have aK:=h.Ay.cap;have aA:=h.Ay.lt;obtain⟨nm,v,A,_⟩:=h.Ay.el i hid;have y2:w.cell? ⟨a.Ay.b,i*5+2,O⟩=Z (I J d.procs[i].period):=A 2 _ rfl;have aN:(i:Int)<(d.procs.length:Int):=by omega
 have aO:(i:Int)<(s.procs.length:Int):=by omega
 have N:0<s.procs.length:=by omega
 have r:=h.FC N;have ap:=qC r ag;have aL:=h.pr.cap;have aM:=h.pr.lt;have am:=qC m ah;have an:=qC n ah;have qp:=qC y2 aA;have y9:∃ v,w.cell? ⟨a.pr.b,i*12+9,O⟩=Z v:=by
  obtain⟨x0,x1,x2,x3,hx,A⟩:=h.pr.el i f;exact⟨_,A 9 _ rfl⟩
 obtain⟨v9,y9⟩:=y9;have C:Hq (nextA d i s=if d.procs[i].period=0 then(stopA i s,true) else({s with procs:=s.procs.set i {s.procs[i] with deadline:=-1}},false)):=by
  show nextA d i s=_;simp only[nextA,getD_at _ _ hid,getD_at _ _ f]
 generalize aE:d.procs[i].period=al at qp y2 C;clear aE;obtain⟨H,HJ⟩:=H2 h j;clear h j hD ok A ae y2 y9 m Q R S V n X aq r;go_enter func89,ntmps89;go_upto_region 1 with (fail);refine BQ 16 [] trivial ?_
 iterate 16 (refine AK rfl ?_;intro K hK;go_big_quiet_op;go_big_quiet_on)
 refine BN ?_;intro w9 c aH;simp only[cW,da,db];clear aH;by_cases P:al=0
 ·subst P;have HC:=HH (HS.o w9 c);have E:Hq (Upd (Mut g a) w w9):=Upd.below c;clear c;go_wp2_with fail;refine HC.o.mono ?_;rintro e w2 ⟨rfl,l,hu⟩;obtain⟨t,HU⟩:=H2 l (E.o.trans hu);clear l hu;go_wp2_with fail;go_ret;rw[C.o];exact⟨rfl,t.o,HU.o⟩
 ·have aQ:(al==0)=false:=by simpa using P
  have u:=H.o.below c;have M:=HJ.o.below c;have E:Hq (Upd (Mut g a) w w9):=Upd.below c;obtain⟨m,Q,R,S,V,n,X⟩:=M.cells;have ai:=Aa M;have r:=u.FC N;have aC:=u.lt;clear ap am an aI qp;have am:=qC m ai;have an:=qC n ai;have ap:=qC r aC;have H1:=HH u;clear u M m Q R S V n X r c;go_upto_region 3 with (fail);refine AS 15 [14] [] [] trivial ?_
  iterate 14 (refine An rfl rfl rfl ?_;intro K hK;go_big_quiet_op;go_big_quiet_on)
  refine AH rfl ?_;refine AR ?_;intro w8 F aG;have y:=H1.o.below F;obtain⟨u0,u1,u2,u3,hx,L⟩:=y.pr.el i f;have z0:w8.cell? ⟨a.pr.b,i*12+9,O⟩=Z _:=L 9 _ rfl;have f0:w8.frozen? ⟨a.pr.b,i*12+9,O⟩=false:=y.pr.frozen N _;have l:=y.FY f [(9,I J (-1))] rfl L (x:={s.procs[i] with deadline:=-1}) fun w' aB aP=>⟨u0,u1,u2,u3,hx,aB⟩;obtain⟨t,av⟩:=H2 l F;clear l y F aG L;refine AI (w':=w8.setCell ⟨a.pr.b,i*12+9,O⟩ (I J (-1))) (by simp[execOp,go_sem,z0,f0]) ?_;unfold A7;go_wp2_with fail;go_ret;rw[C.o,if_neg P];exact⟨rfl,t.o.1,(E.o.trans (Upd.below av.o)).trans t.o.2⟩
def Cv{α:Type}(l:List α)(i k:Nat)(v d:α):(l.set i v).getD k d=if i=k∧k<l.length then v else l.getD k d:=by
 simp only[cR,List.getElem?_set];by_cases h:i=k
 ·subst h;by_cases a:i<l.length
  ·simp[a]
  ·simp[a]
 ·simp[h]
def getD_mem{α:Type}{l:List α}{k:Nat}{d:α}(h:k<l.length):l.getD k d∈l:=by
 rw[cR,cZ h];exact cU h
def DP(s:Ae)(p b a:Int):Prop:=0≤p∧(s.procs.getD p.toNat default).status=3∧(s.procs.getD p.toNat default).why=b∧(s.procs.getD p.toNat default).on=a
def AF(s:Ae)(kind:Int)(k:Nat):List Wt:=
 if kind=3 then(s.queues.getD k default).wait
 else if kind=4 then(s.semas.getD k default).wait
 else if kind=8 then(s.events.getD k default).wait
 else if kind=9 then(s.bufs.getD k default).put
 else if kind=10 then(s.bufs.getD k default).get
 else if kind=12 then(s.boards.getD k default).wait
 else []
def Inv(s:Ae):Prop:=∀ kind k x,x∈AF s kind k→DP s x.proc kind k
section
variable {d:Ad} {s s':Ae} {i:Nat} {t now:Int} {data:List Int} {a:Ac}
def Inv.kinds(h:Inv s){kind:Int}{k:Nat}{x:Wt}(l:x∈AF s kind k):kind=3∨kind=4∨kind=8∨kind=9∨kind=10∨kind=12:=by
 unfold AF at l;by_cases e:kind=3
 ·exact .inl e
 by_cases f:kind=4
 ·exact .inr (.inl f)
 by_cases g:kind=8
 ·exact .inr (.inr (.inl g))
 by_cases j:kind=9
 ·exact .inr (.inr (.inr (.inl j)))
 by_cases b:kind=10
 ·exact .inr (.inr (.inr (.inr (.inl b))))
 by_cases c:kind=12
 ·exact .inr (.inr (.inr (.inr (.inr c))))
 simp[e,f,g,j,b,c] at l
def Z6(j:Int):∃ P,CT d t data s j={s with procs:=P}:=by
 unfold CT;split
 ·exact⟨_,rfl⟩
 ·exact⟨_,rfl⟩
def Kx:∀ (l:List Int) (s:Ae),∃ P,wakeP d t data l s={s with procs:=P}
 | [],s=>⟨_,rfl⟩
 |j::l,s=>by
  obtain⟨P,b⟩:=Z6 (d:=d) (t:=t) (data:=data) (s:=s) j;obtain⟨Q,c⟩:=Kx l (CT d t data s j);refine⟨Q,?_⟩;show wakeP d t data l (CT d t data s j)=_;rw[c,b]
def Z7(l:List Int)(kind:Int)(k:Nat):AF (wakeP d t data l s) kind k=AF s kind k:=by
 obtain⟨P,b⟩:=Kx (d:=d) (t:=t) (data:=data) l s;rw[b];rfl
def ON(l:List Ai)(x:St)(data:List Int):(DS l x data).pc=x.pc:=by
 unfold DS;split
 ·rfl
 ·split
  ·simp only[D2];split<;>rfl
  ·rfl
structure Wk(x y:BA)(m:Bool):Prop where
 same:m=false→y=x
 ready:m=true→y.status=2
 pc:y.s.pc=x.s.pc
 deadline:y.deadline=x.deadline
 release:y.release=x.release
def Wk.refl(x:BA):Wk x x false:=⟨fun _=>rfl,fun h=>(by cases h),rfl,rfl,rfl⟩
def Z5(j:Int)(k:Nat)(g:k<s.procs.length):Wk (s.procs.getD k default) ((CT d t data s j).procs.getD k default) (decide ((k:Int)=j)):=by
 unfold CT;by_cases c:0≤j
 ·rw[if_pos c];by_cases f:(k:Int)=j
  ·have e:j.toNat=k:=by omega
   rw[decide_eq_true f,e];have b:(En k t (Co d k data s)).procs.getD k default=readyR t (Hp d k data (s.procs.getD k default)):=by
    simp only[En,Co,Cv,dh];simp[g]
   rw[b];exact⟨fun h=>(by cases h),fun _=>rfl,ON _ _ _,rfl,rfl⟩
  ·have e:¬j.toNat=k:=by omega
   rw[decide_eq_false f];have b:(En j.toNat t (Co d j.toNat data s)).procs.getD k default=s.procs.getD k default:=by
    simp only[En,Co,Cv,dh];simp[e]
   rw[b];exact .refl _
 ·rw[if_neg c,decide_eq_false (by omega)];exact .refl _
def Wk.trans{x y z:BA}{m n:Bool}(h:Wk x y m)(k:Wk y z n):Wk x z (m||n):=
 ⟨fun e=>by
  simp only[Bool.or_eq_false_iff] at e;rw[k.same e.2,h.same e.1],fun e=>by
  cases n with
  |true=>exact k.ready rfl
  |false=>
   simp only[Bool.or_false] at e;rw[k.same rfl];exact h.ready e,k.pc.trans h.pc,k.deadline.trans h.deadline,k.release.trans h.release⟩
def Kw:∀ (l:List Int) (s:Ae) (k:Nat),k<s.procs.length→Wk (s.procs.getD k default) ((wakeP d t data l s).procs.getD k default) (decide ((k:Int)∈l))
 | [],s,k,_=>by
  rw[decide_eq_false (by simp)];exact .refl _
 |j::l,s,k,b=>by
  have c:=Z5 (d:=d) (t:=t) (data:=data) (s:=s) j k b;have f:=Kw l (CT d t data s j) k (by rw[L8];exact b);have:=c.trans f;have e:(decide ((k:Int)=j)||decide ((k:Int)∈l))=decide ((k:Int)∈j::l):=by
   rw[←Bool.decide_or];exact decide_eq_decide.2 (by simp)
  rw[e] at this;exact this
def N3(l:List Int)(s:Ae):(wakeP d t data l s).procs.length=s.procs.length:=by
 induction l generalizing s with
 |nil=>rfl
 |cons j l b=>
  show(wakeP d t data l (CT d t data s j)).procs.length=_;rw[b,L8]
def DP.lt{p f e:Int}(h:DP s p f e):p.toNat<s.procs.length:=by
 rcases dW p.toNat s.procs.length with b|b
 ·exact b
 ·have c:=h.2.1;rw[cR,di b] at c;cases c
def DP.uniq{p a b c e:Int}(h:DP s p a b)(k:DP s p c e):a=c∧b=e:=⟨h.2.2.1.symm.trans k.2.2.1,h.2.2.2.symm.trans k.2.2.2⟩
def Inv.IF(l:List Int)(h:∀ kind k x,x∈AF s kind k→DP s x.proc kind k∧x.proc∉l):Inv (wakeP d t data l s):=fun kind k x c=>by
 rw[Z7] at c;obtain⟨b,e⟩:=h kind k x c;have:=(Kw (d:=d) (t:=t) (data:=data) l s x.proc.toNat b.lt).same (decide_eq_false (by rw[dK b.1];exact e));unfold DP at b ⊢;rw[this];exact b
def Inv.own(h:Inv s)(c:(s.procs.getD i default).status≠3)(y:BA):Inv {s with procs:=s.procs.set i y}:=fun kind k x j=>by
 have b:=h kind k x j;have g:¬i=x.proc.toNat:=by
  rintro e;rw[e] at c;exact c b.2.1
 unfold DP at b ⊢;have e:({s with procs:=s.procs.set i y}:Ae).procs.getD x.proc.toNat default=s.procs.getD x.proc.toNat default:=by
  show(s.procs.set i y).getD _ _=_;rw[Cv,if_neg (fun f=>g f.1)]
 rw[e];exact b
def Inv.block(h:Inv s)(g:s'.procs=s.procs)(f:(s.procs.getD i default).status≠3)(r:i<s.procs.length)(y:BA)
  (o:∀ kind k x,x∈AF s' kind k→x∈AF s kind k∨(x.proc=(i:Int)∧y.why=kind∧y.on=(k:Int))) (p:y.status=3):Inv {s' with procs:=s'.procs.set i y}:=fun kind k x c=>by
 rcases o kind k x c with c|⟨q,j,l⟩
 ·have b:=h kind k x c;have n:¬i=x.proc.toNat:=by
   rintro e;rw[e] at f;exact f b.2.1
  unfold DP at b ⊢;have e:({s' with procs:=s'.procs.set i y}:Ae).procs.getD x.proc.toNat default=s.procs.getD x.proc.toNat default:=by
   show(s'.procs.set i y).getD _ _=_;rw[Cv,if_neg (fun m=>n m.1),g]
  rw[e];exact b
 ·have e:({s' with procs:=s'.procs.set i y}:Ae).procs.getD x.proc.toNat default=y:=by
   show(s'.procs.set i y).getD _ _=_;rw[Cv,if_pos ⟨by omega,by rw[g];omega⟩]
  unfold DP;rw[e];exact⟨by omega,p,j,l⟩
end
section
variable {s:Ae} {k0:Nat}
def Xh(v:BU)(kind:Int)(k:Nat)(x:Wt)(h:x∈AF {s with semas:=s.semas.set k0 v} kind k):x∈AF s kind k∨(kind=4∧k0=k∧x∈v.wait):=by
 unfold AF at h ⊢;by_cases e:kind=4
 ·subst e;simp only[de,if_false,if_true] at h ⊢;rw[Cv] at h;split at h
  ·rename_i a;exact .inr ⟨trivial,a.1,h⟩
  ·exact .inl h
 ·simp only[e,if_false] at h ⊢;exact .inl h
def Xe(v:C3)(kind:Int)(k:Nat)(x:Wt)(h:x∈AF {s with events:=s.events.set k0 v} kind k):x∈AF s kind k∨(kind=8∧k0=k∧x∈v.wait):=by
 unfold AF at h ⊢;by_cases e:kind=8
 ·subst e;simp only[de,if_false,if_true] at h ⊢;rw[Cv] at h;split at h
  ·rename_i a;exact .inr ⟨trivial,a.1,h⟩
  ·exact .inl h
 ·simp only[e,if_false] at h ⊢;exact .inl h
def Xc(v:BE)(kind:Int)(k:Nat)(x:Wt)(h:x∈AF {s with boards:=s.boards.set k0 v} kind k):x∈AF s kind k∨(kind=12∧k0=k∧x∈v.wait):=by
 unfold AF at h ⊢;by_cases e:kind=12
 ·subst e;simp only[de,if_false,if_true] at h ⊢;rw[Cv] at h;split at h
  ·rename_i a;exact .inr ⟨trivial,a.1,h⟩
  ·exact .inl h
 ·simp only[e,if_false] at h ⊢;exact .inl h
def Xg(v:AO)(kind:Int)(k:Nat)(x:Wt)(h:x∈AF {s with queues:=s.queues.set k0 v} kind k):x∈AF s kind k∨(kind=3∧k0=k∧x∈v.wait):=by
 unfold AF at h ⊢;by_cases e:kind=3
 ·subst e;simp only[if_true] at h ⊢;rw[Cv] at h;split at h
  ·rename_i a;exact .inr ⟨trivial,a.1,h⟩
  ·exact .inl h
 ·simp only[e,if_false] at h ⊢;exact .inl h
def Xd(v:AT)(kind:Int)(k:Nat)(x:Wt)(h:x∈AF {s with bufs:=s.bufs.set k0 v} kind k):x∈AF s kind k∨(kind=9∧k0=k∧x∈v.put)∨(kind=10∧k0=k∧x∈v.get):=by
 unfold AF at h ⊢;by_cases e:kind=9
 ·subst e;simp only[de,if_false,if_true] at h ⊢;rw[Cv] at h;split at h
  ·rename_i a;exact .inr (.inl ⟨trivial,a.1,h⟩)
  ·exact .inl h
 ·by_cases b:kind=10
  ·subst b;simp only[de,if_false,if_true] at h ⊢;rw[Cv] at h;split at h
   ·rename_i a;exact .inr (.inr ⟨trivial,a.1,h⟩)
   ·exact .inl h
  ·simp only[e,b,if_false] at h ⊢;exact .inl h
def Jg{l:List Wt}{x y:Wt}:x∈Cl l y↔x=y∨x∈l:=by
 unfold Cl;rw[(M9 l _ y).mem_iff];simp
def Xm{l:List Wt}{x:Wt}{p:Int}:x∈leaveW l p↔x∈l∧x.proc≠p:=by simp[leaveW]
end
def TL(w:cQ)(g:Nat)(E D:Int)(R:List Int)(x:Ai)(L F:dm)(k a b:Int)(h:Ao w g E D R x L k a b F)(i:0≤x.a)(j:x.a≤3)(y:0≤x.b)(A:x.b≤3)(n:∀ z∈R,0≤z∧z≤255):
  cT prog 250 #[G (Z ⟨g,0,O⟩)] w fun e w'=>e=.returned (.tuple #[])∧Ao w' g E D (R.set x.a.toNat ((R.getD x.a.toNat 0+R.getD x.b.toNat 0)%256)) x L k a b F∧Upd [g] w w':=by
 have d:=h.CB x.a i j;have m:=h.CB x.b y A;obtain⟨P,c1,t,u,S,Q⟩:=h.cell;have l:=h.lt;have H:=HH h;have B:=E8 n x.a.toNat
 have C:=E8 n x.b.toNat
 clear h n;generalize R.getD x.a.toNat 0=z1 at d B ⊢;generalize R.getD x.b.toNat 0=z2 at m C ⊢;obtain⟨y1,y2⟩:=B;obtain⟨y3,y4⟩:=C;have q1:∀ p:Ak w,p.W.cell? ⟨g,2+x.a.toNat,O⟩=Z (I U z1):=fun p=>(p.h.cell (p:=⟨g,_,O⟩) l).trans d;have q2:∀ p:Ak w,p.W.cell? ⟨g,2+x.b.toNat,O⟩=Z (I U z2):=fun p=>(p.h.cell (p:=⟨g,_,O⟩) l).trans m;have q7:∀ p:Ak w,p.W.cell? ⟨g,7,O⟩=Z (I J x.a):=fun p=>(p.h.cell (p:=⟨g,_,O⟩) l).trans t;have q8:∀ p:Ak w,p.W.cell? ⟨g,8,O⟩=Z (I J x.b):=fun p=>(p.h.cell (p:=⟨g,_,O⟩) l).trans u;go_enter func250,ntmps250;refine BQ 20 [(6,fun v _=>v=G (Z ⟨g,2+x.a.toNat,O⟩)),(15,fun v _=>v=G (Z ⟨g,2+x.b.toNat,O⟩))] ⟨Ch,Ch,trivial⟩ ?_
 iterate 6 (refine AK rfl ?_;intro K hK;go_big_quiet_op;go_big_quiet_on)
 refine Ca rfl (fun w' c V=>?_) ?_
 ·refine AD (f:=280) (al:=[G (Z ⟨g,0,O⟩),I J x.a]) rfl rfl rfl Gm ?_;exact(D3 w' g x.a i j).mono fun e w2 h=>⟨_,h.1,h.2 ▸ ⟨cV _ _,rfl⟩⟩
 intro v w' c r;obtain rfl:=r;clear c w';simp only[FV,cE,cG,cF]
 iterate 8 (refine AK rfl ?_;intro K hK;go_big_quiet_op;go_big_quiet_on)
 refine Ca rfl (fun w' c V=>?_) ?_
 ·refine AD (f:=280) (al:=[G (Z ⟨g,0,O⟩),I J x.b]) rfl rfl rfl Gm ?_;exact(D3 w' g x.b y A).mono fun e w2 h=>⟨_,h.1,h.2 ▸ ⟨cV _ _,rfl⟩⟩
 intro v w' c r;obtain rfl:=r;clear c w';simp only[FV,cE,cG,cF]
 iterate 4 (refine AK rfl ?_;intro K hK;go_big_quiet_op;go_big_quiet_on)
 refine BN ?_;intro w9 q X;simp only[cW,da,db];clear X P c1 t u S Q d m q1 q2 q7 q8;have h:=H.o.bel q;have d:=h.CB x.a i j;have fr:=h.frozen (2+x.a.toNat);obtain⟨N,s⟩:=H2 (Upd.below (M:=[g]) q) h;clear h q;go_wp2_with fail
 go_end0
 exact⟨rfl,s.o.I5 _ _ i j,N.o.trans (s.o.below _)⟩
def Uj(w:cQ)(g:Nat)(E D:Int)(R:List Int)(x:Ai)(L F:dm)(k a b:Int)(h:Ao w g E D R x L k a b F)(i:0≤x.a)(j:x.a≤3)(y:0≤x.b)(A:x.b≤3)(n:∀ z∈R,0≤z∧z≤255):
  cT prog 258 #[G (Z ⟨g,0,O⟩)] w fun e w'=>e=.returned (.tuple #[])∧Ao w' g E D (R.set x.a.toNat ((R.getD x.a.toNat 0-R.getD x.b.toNat 0)%256)) x L k a b F∧Upd [g] w w':=by
 have d:=h.CB x.a i j;have m:=h.CB x.b y A;obtain⟨P,c1,t,u,S,Q⟩:=h.cell;have l:=h.lt;have H:=HH h;have B:=E8 n x.a.toNat
 have C:=E8 n x.b.toNat
 clear h n;generalize R.getD x.a.toNat 0=z1 at d B ⊢;generalize R.getD x.b.toNat 0=z2 at m C ⊢;obtain⟨y1,y2⟩:=B;obtain⟨y3,y4⟩:=C;have q1:∀ p:Ak w,p.W.cell? ⟨g,2+x.a.toNat,O⟩=Z (I U z1):=fun p=>(p.h.cell (p:=⟨g,_,O⟩) l).trans d;have q2:∀ p:Ak w,p.W.cell? ⟨g,2+x.b.toNat,O⟩=Z (I U z2):=fun p=>(p.h.cell (p:=⟨g,_,O⟩) l).trans m;have q7:∀ p:Ak w,p.W.cell? ⟨g,7,O⟩=Z (I J x.a):=fun p=>(p.h.cell (p:=⟨g,_,O⟩) l).trans t;have q8:∀ p:Ak w,p.W.cell? ⟨g,8,O⟩=Z (I J x.b):=fun p=>(p.h.cell (p:=⟨g,_,O⟩) l).trans u;go_enter func258,ntmps258;refine BQ 20 [(6,fun v _=>v=G (Z ⟨g,2+x.a.toNat,O⟩)),(15,fun v _=>v=G (Z ⟨g,2+x.b.toNat,O⟩))] ⟨Ch,Ch,trivial⟩ ?_
 iterate 6 (refine AK rfl ?_;intro K hK;go_big_quiet_op;go_big_quiet_on)
 refine Ca rfl (fun w' c V=>?_) ?_
 ·refine AD (f:=280) (al:=[G (Z ⟨g,0,O⟩),I J x.a]) rfl rfl rfl Gm ?_;exact(D3 w' g x.a i j).mono fun e w2 h=>⟨_,h.1,h.2 ▸ ⟨cV _ _,rfl⟩⟩
 intro v w' c r;obtain rfl:=r;clear c w';simp only[FV,cE,cG,cF]
 iterate 8 (refine AK rfl ?_;intro K hK;go_big_quiet_op;go_big_quiet_on)
 refine Ca rfl (fun w' c V=>?_) ?_
 ·refine AD (f:=280) (al:=[G (Z ⟨g,0,O⟩),I J x.b]) rfl rfl rfl Gm ?_;exact(D3 w' g x.b y A).mono fun e w2 h=>⟨_,h.1,h.2 ▸ ⟨cV _ _,rfl⟩⟩
 intro v w' c r;obtain rfl:=r;clear c w';simp only[FV,cE,cG,cF]
 iterate 4 (refine AK rfl ?_;intro K hK;go_big_quiet_op;go_big_quiet_on)
 refine BN ?_;intro w9 q X;simp only[cW,da,db];clear X P c1 t u S Q d m q1 q2 q7 q8;have h:=H.o.bel q;have d:=h.CB x.a i j;have fr:=h.frozen (2+x.a.toNat);obtain⟨N,s⟩:=H2 (Upd.below (M:=[g]) q) h;clear h q;go_wp2_with fail
 go_end0
 exact⟨rfl,s.o.I5 _ _ i j,N.o.trans (s.o.below _)⟩
def OB{x s:Int}(h:Aw 1 x s=true):1≤x∧x≤2000:=by simp[Aw,Cp,De] at h;exact h
def OC{x s:Int}(h:Aw 3 x s=true):0≤x∧x≤255:=by simp[Aw,Cp,De] at h;exact h
def Ml{x s:Int}(h:Aw 4 x s=true):0≤x∧x≤4095:=by simp[Aw,Cp,De] at h;exact h
def OD{x s:Int}(h:Aw 5 x s=true):1≤x∧x≤64:=by simp[Aw,Cp,De] at h;exact h
def CN{x s:Int}(h:Aw 6 x s=true):0≤x:=by simp[Aw,Cp,De] at h;exact h
def IU{x s:Int}(h:Aw 7 x s=true):0≤x∧x<s:=by simp[Aw,Cp,De] at h;omega
def Cn(w:cQ)(c:Option dv)(b:List Int):Prop:=∀ k (d:k<b.length),∃ a,c=Z ⟨a,0,O⟩∧a<w.heap.size∧w.cell? ⟨a,k,O⟩=Z (I U b[k])
def C4(w:cQ)(g:Nat)(x:Ai)(d:dm)(r:St×Ac)(e:Ending)(w':cQ):Prop:=
 e=.returned (.tuple #[])∧∃ c,Ao w' g r.1.pc r.1.left r.1.AG x d r.2.kind r.2.a r.2.b c∧Af U w' w.heap.size c r.2.data∧Upd [g] w w'
def Vw(w:cQ)(g:Nat)(c a:Int)(R:List Int)(d i j m:Int)(k:Option dv)(l:Nat)(b:List Int)(h:Ao w g c a R ⟨1,d,i,j⟩ (Y k b.length l) 0 0 0 (Y O 0 0))(u:Bb ⟨1,d,i,j⟩ m=true)(s:1≤c)(t:c≤1000000)(q:0≤a)(r:a≤2000)(v:∀ z∈R,0≤z∧z≤255)(x:Cn w k b)(y:b.length≤l):
  cT prog (BZ 1) #[G (Z ⟨g,0,O⟩)] w (C4 w g ⟨1,d,i,j⟩ (Y k b.length l) (As ⟨1,d,i,j⟩ ⟨c,a,R⟩ b)):=by
 have f:Aw 1 d m=true:=AV u 0 1 rfl;replace f:=OB f;exact(Um w g c a R _ _ _ _ _ _ h q r f.1 f.2 s t).mono fun e w' ⟨n,o,p⟩=>⟨n,_,o,Af.nil _ _ _,p⟩
def V8(w:cQ)(g:Nat)(d b:Int)(R:List Int)(f a j m:Int)(k:Option dv)(l:Nat)(c:List Int)(h:Ao w g d b R ⟨2,f,a,j⟩ (Y k c.length l) 0 0 0 (Y O 0 0))(o:Bb ⟨2,f,a,j⟩ m=true)(y:1≤d)(A:d≤1000000)(t:0≤b)(u:b≤2000)(s:∀ z∈R,0≤z∧z≤255)(v:Cn w k c)(x:c.length≤l):
  cT prog (BZ 2) #[G (Z ⟨g,0,O⟩)] w (C4 w g ⟨2,f,a,j⟩ (Y k c.length l) (As ⟨2,f,a,j⟩ ⟨d,b,R⟩ c)):=by
 have i:Aw 2 f m=true:=AV o 0 2 rfl;replace i:=C0 i;have n:Aw 3 a m=true:=AV o 1 3 rfl;replace n:=OC n;have e:a%256=a:=by omega
 exact(Ud w g d b R _ _ _ _ _ _ h i.1 i.2).mono fun e w' ⟨p,q,r⟩=>⟨p,_,q,Af.nil _ _ _,r⟩
def V9(w:cQ)(g:Nat)(c a:Int)(R:List Int)(d f k n:Int)(l:Option dv)(m:Nat)(b:List Int)(h:Ao w g c a R ⟨3,d,f,k⟩ (Y l b.length m) 0 0 0 (Y O 0 0))(o:Bb ⟨3,d,f,k⟩ n=true)(y:1≤c)(A:c≤1000000)(t:0≤a)(u:a≤2000)(s:∀ z∈R,0≤z∧z≤255)(v:Cn w l b)(x:b.length≤m):
  cT prog (BZ 3) #[G (Z ⟨g,0,O⟩)] w (C4 w g ⟨3,d,f,k⟩ (Y l b.length m) (As ⟨3,d,f,k⟩ ⟨c,a,R⟩ b)):=by
 have i:Aw 2 d n=true:=AV o 0 2 rfl;replace i:=C0 i;have j:Aw 2 f n=true:=AV o 1 2 rfl;replace j:=C0 j;exact(TL w g c a R _ _ _ _ _ _ h i.1 i.2 j.1 j.2 s).mono fun e w' ⟨p,q,r⟩=>⟨p,_,q,Af.nil _ _ _,r⟩
def VA(w:cQ)(g:Nat)(c a:Int)(R:List Int)(d f k n:Int)(l:Option dv)(m:Nat)(b:List Int)(h:Ao w g c a R ⟨4,d,f,k⟩ (Y l b.length m) 0 0 0 (Y O 0 0))(o:Bb ⟨4,d,f,k⟩ n=true)(y:1≤c)(A:c≤1000000)(t:0≤a)(u:a≤2000)(s:∀ z∈R,0≤z∧z≤255)(v:Cn w l b)(x:b.length≤m):
  cT prog (BZ 4) #[G (Z ⟨g,0,O⟩)] w (C4 w g ⟨4,d,f,k⟩ (Y l b.length m) (As ⟨4,d,f,k⟩ ⟨c,a,R⟩ b)):=by
 have i:Aw 2 d n=true:=AV o 0 2 rfl;replace i:=C0 i;have j:Aw 2 f n=true:=AV o 1 2 rfl;replace j:=C0 j;exact(Uj w g c a R _ _ _ _ _ _ h i.1 i.2 j.1 j.2 s).mono fun e w' ⟨p,q,r⟩=>⟨p,_,q,Af.nil _ _ _,r⟩
def VB(w:cQ)(g:Nat)(f d:Int)(R:List Int)(i b a o:Int)(l:Option dv)(m:Nat)(c:List Int)(h:Ao w g f d R ⟨5,i,b,a⟩ (Y l c.length m) 0 0 0 (Y O 0 0))(u:Bb ⟨5,i,b,a⟩ o=true)(F:1≤f)(H:f≤1000000)(D:0≤d)(E:d≤2000)(s:∀ z∈R,0≤z∧z≤255)(A:Cn w l c)(C:c.length≤m):
  cT prog (BZ 5) #[G (Z ⟨g,0,O⟩)] w (C4 w g ⟨5,i,b,a⟩ (Y l c.length m) (As ⟨5,i,b,a⟩ ⟨f,d,R⟩ c)):=by
 have n:Aw 2 i o=true:=AV u 0 2 rfl;replace n:=C0 n;have j:Aw 4 b o=true:=AV u 1 4 rfl;replace j:=Ml j;have k:Aw 2 a o=true:=AV u 2 2 rfl;replace k:=C0 k;by_cases t:(c.length:Int)≤b+R.getD a.toNat 0
 ·have e:As ⟨5,i,b,a⟩ ⟨f,d,R⟩ c=(⟨f,d,R⟩,Gq 2 0):=if_pos t;rw[e];exact(TV w g f d R _ l _ m _ _ _ _ h k.1 k.2 s j.1 j.2 t).mono fun e w' ⟨p,q,r⟩=>⟨p,_,q,Af.nil _ _ _,r⟩
 ·have e:As ⟨5,i,b,a⟩ ⟨f,d,R⟩ c=(⟨f,d,R.set i.toNat (c.getD (b+R.getD a.toNat 0).toNat 0)⟩,zeroA):=if_neg t;have K:=E8 s a.toNat
  obtain⟨v,B,x,y⟩:=A (b+R.getD a.toNat 0).toNat (by omega);rw[e,show c.getD (b+R.getD a.toNat 0).toNat 0=c[(b+R.getD a.toNat 0).toNat]'(by omega) by rw[cR,cZ (by omega)];rfl];exact(TU w g f d R _ l _ m _ _ _ _ h n.1 n.2 k.1 k.2 s j.1 j.2 (by simp only;omega) C v B _ x y).mono fun e w' ⟨p,q,r⟩=>⟨p,_,q,Af.nil _ _ _,r⟩
def VC(w:cQ)(g:Nat)(b a:Int)(R:List Int)(i c d o:Int)(l:Option dv)(m:Nat)(f:List Int)(h:Ao w g b a R ⟨6,i,c,d⟩ (Y l f.length m) 0 0 0 (Y O 0 0))(t:Bb ⟨6,i,c,d⟩ o=true)(B:1≤b)(C:b≤1000000)(v:0≤a)(x:a≤2000)(u:∀ z∈R,0≤z∧z≤255)(y:Cn w l f)(A:f.length≤m):
  cT prog (BZ 6) #[G (Z ⟨g,0,O⟩)] w (C4 w g ⟨6,i,c,d⟩ (Y l f.length m) (As ⟨6,i,c,d⟩ ⟨b,a,R⟩ f)):=by
 have n:Aw 2 i o=true:=AV t 0 2 rfl;replace n:=C0 n;have j:Aw 4 c o=true:=AV t 1 4 rfl;replace j:=Ml j;have k:Aw 2 d o=true:=AV t 2 2 rfl;replace k:=C0 k;by_cases s:(f.length:Int)≤c+R.getD d.toNat 0
 ·have e:As ⟨6,i,c,d⟩ ⟨b,a,R⟩ f=(⟨b,a,R⟩,Gq 2 0):=if_pos s;rw[e];exact(Ui w g b a R _ l _ m _ _ _ _ h k.1 k.2 u j.1 j.2 s).mono fun e w' ⟨p,q,r⟩=>⟨p,_,q,Af.nil _ _ _,r⟩
 ·have e:As ⟨6,i,c,d⟩ ⟨b,a,R⟩ f=(⟨b,a,R⟩,⟨1,c+R.getD d.toNat 0,R.getD i.toNat 0,[]⟩):=if_neg s;rw[e];exact(Uh w g b a R _ l _ m _ _ _ _ h n.1 n.2 k.1 k.2 u j.1 j.2 (by simp only;omega)).mono fun e w' ⟨p,q,r⟩=>⟨p,_,q,Af.nil _ _ _,r⟩
def VD(w:cQ)(g:Nat)(c a:Int)(R:List Int)(d f i l:Int)(n:Option dv)(o:Nat)(b:List Int)(h:Ao w g c a R ⟨7,d,f,i⟩ (Y n b.length o) 0 0 0 (Y O 0 0))(m:Bb ⟨7,d,f,i⟩ l=true)(C:1≤c)(D:c≤1000000)(x:0≤a)(y:a≤2000)(u:∀ z∈R,0≤z∧z≤255)(A:Cn w n b)(B:b.length≤o):
  cT prog (BZ 7) #[G (Z ⟨g,0,O⟩)] w (C4 w g ⟨7,d,f,i⟩ (Y n b.length o) (As ⟨7,d,f,i⟩ ⟨c,a,R⟩ b)):=by
 have p:Aw 6 d l=true:=AV m 0 6 rfl;replace p:=CN p;have j:Aw 2 f l=true:=AV m 1 2 rfl;replace j:=C0 j;have k:Aw 5 i l=true:=AV m 2 5 rfl;replace k:=OD k;exact(Uc w g c a R _ _ _ _ _ _ h j.1 j.2 k.1 k.2 u).mono fun e w' ⟨q,v,r,s,t⟩=>⟨q,v,r,s,t⟩
def VE(w:cQ)(g:Nat)(c a:Int)(R:List Int)(d f i j:Int)(l:Option dv)(m:Nat)(b:List Int)(h:Ao w g c a R ⟨8,d,f,i⟩ (Y l b.length m) 0 0 0 (Y O 0 0))(k:Bb ⟨8,d,f,i⟩ j=true)(D:1≤c)(E:c≤1000000)(y:0≤a)(A:a≤2000)(x:∀ z∈R,0≤z∧z≤255)(B:Cn w l b)(C:b.length≤m):
  cT prog (BZ 8) #[G (Z ⟨g,0,O⟩)] w (C4 w g ⟨8,d,f,i⟩ (Y l b.length m) (As ⟨8,d,f,i⟩ ⟨c,a,R⟩ b)):=by
 have n:Aw 6 d j=true:=AV k 0 6 rfl;replace n:=CN n;have o:Aw 2 f j=true:=AV k 1 2 rfl;replace o:=C0 o;have p:Aw 2 i j=true:=AV k 2 2 rfl;replace p:=C0 p;obtain⟨q,r,r2,r3,rfl,v⟩:=h;exact(Ub w g c a q r r2 r3 _ _ _ _ _ _ v).mono fun e w' ⟨s,t,u⟩=>⟨s,_,⟨q,r,r2,r3,rfl,t⟩,Af.nil _ _ _,u⟩
def VF(w:cQ)(g:Nat)(c a:Int)(R:List Int)(d f i o:Int)(j:Option dv)(k:Nat)(b:List Int)(h:Ao w g c a R ⟨9,d,f,i⟩ (Y j b.length k) 0 0 0 (Y O 0 0))(s:Bb ⟨9,d,f,i⟩ o=true)(B:1≤c)(C:c≤1000000)(v:0≤a)(x:a≤2000)(u:∀ z∈R,0≤z∧z≤255)(y:Cn w j b)(A:b.length≤k):
  cT prog (BZ 9) #[G (Z ⟨g,0,O⟩)] w (C4 w g ⟨9,d,f,i⟩ (Y j b.length k) (As ⟨9,d,f,i⟩ ⟨c,a,R⟩ b)):=by
 have l:Aw 6 d o=true:=AV s 0 6 rfl;replace l:=CN l;obtain⟨m,n,r2,r3,rfl,t⟩:=h;exact(Ul w g c a m n r2 r3 _ _ _ _ _ _ t).mono fun e w' ⟨p,q,r⟩=>⟨p,_,⟨m,n,r2,r3,rfl,q⟩,Af.nil _ _ _,r⟩
def Vm(w:cQ)(g:Nat)(c a:Int)(R:List Int)(d f i o:Int)(j:Option dv)(k:Nat)(b:List Int)(h:Ao w g c a R ⟨10,d,f,i⟩ (Y j b.length k) 0 0 0 (Y O 0 0))(s:Bb ⟨10,d,f,i⟩ o=true)(B:1≤c)(C:c≤1000000)(v:0≤a)(x:a≤2000)(u:∀ z∈R,0≤z∧z≤255)(y:Cn w j b)(A:b.length≤k):
  cT prog (BZ 10) #[G (Z ⟨g,0,O⟩)] w (C4 w g ⟨10,d,f,i⟩ (Y j b.length k) (As ⟨10,d,f,i⟩ ⟨c,a,R⟩ b)):=by
 have l:Aw 6 d o=true:=AV s 0 6 rfl;replace l:=CN l;obtain⟨m,n,r2,r3,rfl,t⟩:=h;exact(Uf w g c a m n r2 r3 _ _ _ _ _ _ t).mono fun e w' ⟨p,q,r⟩=>⟨p,_,⟨m,n,r2,r3,rfl,q⟩,Af.nil _ _ _,r⟩
def Vn(w:cQ)(g:Nat)(c a:Int)(R:List Int)(d f i o:Int)(j:Option dv)(k:Nat)(b:List Int)(h:Ao w g c a R ⟨11,d,f,i⟩ (Y j b.length k) 0 0 0 (Y O 0 0))(s:Bb ⟨11,d,f,i⟩ o=true)(B:1≤c)(C:c≤1000000)(v:0≤a)(x:a≤2000)(u:∀ z∈R,0≤z∧z≤255)(y:Cn w j b)(A:b.length≤k):
  cT prog (BZ 11) #[G (Z ⟨g,0,O⟩)] w (C4 w g ⟨11,d,f,i⟩ (Y j b.length k) (As ⟨11,d,f,i⟩ ⟨c,a,R⟩ b)):=by
 have l:Aw 6 d o=true:=AV s 0 6 rfl;replace l:=CN l;obtain⟨m,n,r2,r3,rfl,t⟩:=h;exact(Ua w g c a m n r2 r3 _ _ _ _ _ _ t).mono fun e w' ⟨p,q,r⟩=>⟨p,_,⟨m,n,r2,r3,rfl,q⟩,Af.nil _ _ _,r⟩
def Vo(w:cQ)(g:Nat)(c a:Int)(R:List Int)(d f i o:Int)(j:Option dv)(k:Nat)(b:List Int)(h:Ao w g c a R ⟨12,d,f,i⟩ (Y j b.length k) 0 0 0 (Y O 0 0))(s:Bb ⟨12,d,f,i⟩ o=true)(B:1≤c)(C:c≤1000000)(v:0≤a)(x:a≤2000)(u:∀ z∈R,0≤z∧z≤255)(y:Cn w j b)(A:b.length≤k):
  cT prog (BZ 12) #[G (Z ⟨g,0,O⟩)] w (C4 w g ⟨12,d,f,i⟩ (Y j b.length k) (As ⟨12,d,f,i⟩ ⟨c,a,R⟩ b)):=by
 have l:Aw 6 d o=true:=AV s 0 6 rfl;replace l:=CN l;obtain⟨m,n,r2,r3,rfl,t⟩:=h;exact(TX w g c a m n r2 r3 _ _ _ _ _ _ t).mono fun e w' ⟨p,q,r⟩=>⟨p,_,⟨m,n,r2,r3,rfl,q⟩,Af.nil _ _ _,r⟩
def Vp(w:cQ)(g:Nat)(c a:Int)(R:List Int)(d f i o:Int)(j:Option dv)(k:Nat)(b:List Int)(h:Ao w g c a R ⟨13,d,f,i⟩ (Y j b.length k) 0 0 0 (Y O 0 0))(s:Bb ⟨13,d,f,i⟩ o=true)(B:1≤c)(C:c≤1000000)(v:0≤a)(x:a≤2000)(u:∀ z∈R,0≤z∧z≤255)(y:Cn w j b)(A:b.length≤k):
  cT prog (BZ 13) #[G (Z ⟨g,0,O⟩)] w (C4 w g ⟨13,d,f,i⟩ (Y j b.length k) (As ⟨13,d,f,i⟩ ⟨c,a,R⟩ b)):=by
 have l:Aw 6 d o=true:=AV s 0 6 rfl;replace l:=CN l;obtain⟨m,n,r2,r3,rfl,t⟩:=h;exact(Uk w g c a m n r2 r3 _ _ _ _ _ _ t).mono fun e w' ⟨p,q,r⟩=>⟨p,_,⟨m,n,r2,r3,rfl,q⟩,Af.nil _ _ _,r⟩
def Vq(w:cQ)(g:Nat)(c a:Int)(R:List Int)(d f j m:Int)(k:Option dv)(l:Nat)(b:List Int)(h:Ao w g c a R ⟨14,d,f,j⟩ (Y k b.length l) 0 0 0 (Y O 0 0))(o:Bb ⟨14,d,f,j⟩ m=true)(B:1≤c)(C:c≤1000000)(u:0≤a)(x:a≤2000)(t:∀ z∈R,0≤z∧z≤255)(y:Cn w k b)(A:b.length≤l):
  cT prog (BZ 14) #[G (Z ⟨g,0,O⟩)] w (C4 w g ⟨14,d,f,j⟩ (Y k b.length l) (As ⟨14,d,f,j⟩ ⟨c,a,R⟩ b)):=by
 have n:Aw 6 d m=true:=AV o 0 6 rfl;replace n:=CN n;have i:Aw 2 f m=true:=AV o 1 2 rfl;replace i:=C0 i;exact(TZ w g c a R _ _ _ _ _ _ h i.1 i.2).mono fun e w' ⟨p,v,q,r,s⟩=>⟨p,v,q,r,s⟩
def Vr(w:cQ)(g:Nat)(c a:Int)(R:List Int)(d f i l:Int)(j:Option dv)(k:Nat)(b:List Int)(h:Ao w g c a R ⟨15,d,f,i⟩ (Y j b.length k) 0 0 0 (Y O 0 0))(o:Bb ⟨15,d,f,i⟩ l=true)(C:1≤c)(D:c≤1000000)(x:0≤a)(y:a≤2000)(v:∀ z∈R,0≤z∧z≤255)(A:Cn w j b)(B:b.length≤k):
  cT prog (BZ 15) #[G (Z ⟨g,0,O⟩)] w (C4 w g ⟨15,d,f,i⟩ (Y j b.length k) (As ⟨15,d,f,i⟩ ⟨c,a,R⟩ b)):=by
 have m:Aw 6 d l=true:=AV o 0 6 rfl;replace m:=CN m;have n:Aw 2 f l=true:=AV o 1 2 rfl;replace n:=C0 n;obtain⟨p,q,r2,r3,rfl,u⟩:=h;exact(TP w g c a p q r2 r3 _ _ _ _ _ _ u).mono fun e w' ⟨r,s,t⟩=>⟨r,_,⟨p,q,r2,r3,rfl,s⟩,Af.nil _ _ _,t⟩
def Vs(w:cQ)(g:Nat)(c a:Int)(R:List Int)(d f j m:Int)(k:Option dv)(l:Nat)(b:List Int)(h:Ao w g c a R ⟨16,d,f,j⟩ (Y k b.length l) 0 0 0 (Y O 0 0))(o:Bb ⟨16,d,f,j⟩ m=true)(B:1≤c)(C:c≤1000000)(u:0≤a)(x:a≤2000)(t:∀ z∈R,0≤z∧z≤255)(y:Cn w k b)(A:b.length≤l):
  cT prog (BZ 16) #[G (Z ⟨g,0,O⟩)] w (C4 w g ⟨16,d,f,j⟩ (Y k b.length l) (As ⟨16,d,f,j⟩ ⟨c,a,R⟩ b)):=by
 have n:Aw 6 d m=true:=AV o 0 6 rfl;replace n:=CN n;have i:Aw 2 f m=true:=AV o 1 2 rfl;replace i:=C0 i;exact(Ue w g c a R _ _ _ _ _ _ h i.1 i.2).mono fun e w' ⟨p,v,q,r,s⟩=>⟨p,v,q,r,s⟩
def Vt(w:cQ)(g:Nat)(c a:Int)(R:List Int)(d f i l:Int)(j:Option dv)(k:Nat)(b:List Int)(h:Ao w g c a R ⟨17,d,f,i⟩ (Y j b.length k) 0 0 0 (Y O 0 0))(o:Bb ⟨17,d,f,i⟩ l=true)(C:1≤c)(D:c≤1000000)(x:0≤a)(y:a≤2000)(v:∀ z∈R,0≤z∧z≤255)(A:Cn w j b)(B:b.length≤k):
  cT prog (BZ 17) #[G (Z ⟨g,0,O⟩)] w (C4 w g ⟨17,d,f,i⟩ (Y j b.length k) (As ⟨17,d,f,i⟩ ⟨c,a,R⟩ b)):=by
 have m:Aw 6 d l=true:=AV o 0 6 rfl;replace m:=CN m;have n:Aw 2 f l=true:=AV o 1 2 rfl;replace n:=C0 n;obtain⟨p,q,r2,r3,rfl,u⟩:=h;exact(TW w g c a p q r2 r3 _ _ _ _ _ _ u).mono fun e w' ⟨r,s,t⟩=>⟨r,_,⟨p,q,r2,r3,rfl,s⟩,Af.nil _ _ _,t⟩
def Vu(w:cQ)(g:Nat)(c a:Int)(R:List Int)(d f i o:Int)(j:Option dv)(k:Nat)(b:List Int)(h:Ao w g c a R ⟨18,d,f,i⟩ (Y j b.length k) 0 0 0 (Y O 0 0))(s:Bb ⟨18,d,f,i⟩ o=true)(B:1≤c)(C:c≤1000000)(v:0≤a)(x:a≤2000)(u:∀ z∈R,0≤z∧z≤255)(y:Cn w j b)(A:b.length≤k):
  cT prog (BZ 18) #[G (Z ⟨g,0,O⟩)] w (C4 w g ⟨18,d,f,i⟩ (Y j b.length k) (As ⟨18,d,f,i⟩ ⟨c,a,R⟩ b)):=by
 have l:Aw 6 d o=true:=AV s 0 6 rfl;replace l:=CN l;obtain⟨m,n,r2,r3,rfl,t⟩:=h;exact(TM w g c a m n r2 r3 _ _ _ _ _ _ t).mono fun e w' ⟨p,q,r⟩=>⟨p,_,⟨m,n,r2,r3,rfl,q⟩,Af.nil _ _ _,r⟩
def Vv(w:cQ)(g:Nat)(c a:Int)(R:List Int)(d f i r:Int)(j:Option dv)(k:Nat)(b:List Int)(h:Ao w g c a R ⟨19,d,f,i⟩ (Y j b.length k) 0 0 0 (Y O 0 0))(B:Bb ⟨19,d,f,i⟩ r=true)(y:1≤c)(A:c≤1000000)(t:0≤a)(u:a≤2000)(s:∀ z∈R,0≤z∧z≤255)(v:Cn w j b)(x:b.length≤k):
  cT prog (BZ 19) #[G (Z ⟨g,0,O⟩)] w (C4 w g ⟨19,d,f,i⟩ (Y j b.length k) (As ⟨19,d,f,i⟩ ⟨c,a,R⟩ b)):=by
 obtain⟨l,m,r2,r3,rfl,q⟩:=h;exact(TY w g c a l m r2 r3 _ _ _ _ _ _ q).mono fun e w' ⟨n,o,p⟩=>⟨n,_,⟨l,m,r2,r3,rfl,o⟩,Af.nil _ _ _,p⟩
def Vx(w:cQ)(g:Nat)(c a:Int)(R:List Int)(d f i o:Int)(j:Option dv)(k:Nat)(b:List Int)(h:Ao w g c a R ⟨20,d,f,i⟩ (Y j b.length k) 0 0 0 (Y O 0 0))(s:Bb ⟨20,d,f,i⟩ o=true)(B:1≤c)(C:c≤1000000)(v:0≤a)(x:a≤2000)(u:∀ z∈R,0≤z∧z≤255)(y:Cn w j b)(A:b.length≤k):
  cT prog (BZ 20) #[G (Z ⟨g,0,O⟩)] w (C4 w g ⟨20,d,f,i⟩ (Y j b.length k) (As ⟨20,d,f,i⟩ ⟨c,a,R⟩ b)):=by
 have l:Aw 7 d o=true:=AV s 0 7 rfl;replace l:=IU l;obtain⟨m,n,r2,r3,rfl,t⟩:=h;exact(TQ w g c a m n r2 r3 _ _ _ _ _ _ t).mono fun e w' ⟨p,q,r⟩=>⟨p,_,⟨m,n,r2,r3,rfl,q⟩,Af.nil _ _ _,r⟩
def Vy(w:cQ)(g:Nat)(b a:Int)(R:List Int)(c d i m:Int)(k:Option dv)(l:Nat)(f:List Int)(h:Ao w g b a R ⟨21,c,d,i⟩ (Y k f.length l) 0 0 0 (Y O 0 0))(o:Bb ⟨21,c,d,i⟩ m=true)(A:1≤b)(B:b≤1000000)(u:0≤a)(v:a≤2000)(t:∀ z∈R,0≤z∧z≤255)(x:Cn w k f)(y:f.length≤l):
  cT prog (BZ 21) #[G (Z ⟨g,0,O⟩)] w (C4 w g ⟨21,c,d,i⟩ (Y k f.length l) (As ⟨21,c,d,i⟩ ⟨b,a,R⟩ f)):=by
 have j:Aw 2 c m=true:=AV o 0 2 rfl;replace j:=C0 j;have n:Aw 7 d m=true:=AV o 1 7 rfl;replace n:=IU n;have s:=Un w g b a R _ _ _ _ _ _ h j.1 j.2;have e:As ⟨21,c,d,i⟩ ⟨b,a,R⟩ f=(⟨if R.getD c.toNat 0=0 then d else b,a,R⟩,zeroA):=by
  show((if R.getD c.toNat 0=0 then(⟨d,a,R⟩:St) else⟨b,a,R⟩),zeroA)=_;split<;>rfl
 rw[e];exact s.mono fun e w' ⟨p,q,r⟩=>⟨p,_,q,Af.nil _ _ _,r⟩
def Vz(w:cQ)(g:Nat)(b a:Int)(R:List Int)(c d f l:Int)(n:Option dv)(o:Nat)(i:List Int)(h:Ao w g b a R ⟨22,c,d,f⟩ (Y n i.length o) 0 0 0 (Y O 0 0))(m:Bb ⟨22,c,d,f⟩ l=true)(B:1≤b)(C:b≤1000000)(v:0≤a)(x:a≤2000)(t:∀ z∈R,0≤z∧z≤255)(y:Cn w n i)(A:i.length≤o):
  cT prog (BZ 22) #[G (Z ⟨g,0,O⟩)] w (C4 w g ⟨22,c,d,f⟩ (Y n i.length o) (As ⟨22,c,d,f⟩ ⟨b,a,R⟩ i)):=by
 have j:Aw 2 c l=true:=AV m 0 2 rfl;replace j:=C0 j;have k:Aw 2 d l=true:=AV m 1 2 rfl;replace k:=C0 k;have p:Aw 7 f l=true:=AV m 2 7 rfl;replace p:=IU p;have u:=TS w g b a R _ _ _ _ _ _ h j.1 j.2 k.1 k.2 t;have e:As ⟨22,c,d,f⟩ ⟨b,a,R⟩ i=(⟨if R.getD c.toNat 0<R.getD d.toNat 0 then f else b,a,R⟩,zeroA):=by
  show((if R.getD c.toNat 0<R.getD d.toNat 0 then(⟨f,a,R⟩:St) else⟨b,a,R⟩),zeroA)=_;split<;>rfl
 rw[e];exact u.mono fun e w' ⟨q,r,s⟩=>⟨q,_,r,Af.nil _ _ _,s⟩
def V5(w:cQ)(g:Nat)(b a:Int)(R:List Int)(c d i s:Int)(q:Option dv)(r:Nat)(f:List Int)(h:Ao w g b a R ⟨23,c,d,i⟩ (Y q f.length r) 0 0 0 (Y O 0 0))(t:Bb ⟨23,c,d,i⟩ s=true)(B:1≤b)(C:b≤1000000)(v:0≤a)(x:a≤2000)(u:∀ z∈R,0≤z∧z≤255)(y:Cn w q f)(A:f.length≤r):
  cT prog (BZ 23) #[G (Z ⟨g,0,O⟩)] w (C4 w g ⟨23,c,d,i⟩ (Y q f.length r) (As ⟨23,c,d,i⟩ ⟨b,a,R⟩ f)):=by
 have j:Aw 2 c s=true:=AV t 0 2 rfl;replace j:=C0 j;have k:Aw 2 d s=true:=AV t 1 2 rfl;replace k:=C0 k;have l:=TN w g b a R _ _ _ _ _ _ h j.1 j.2 k.1 k.2 u;by_cases m:R.getD d.toNat 0=0
 ·simp only[m,if_true] at l;have e:As ⟨23,c,d,i⟩ ⟨b,a,R⟩ f=(⟨b,a,R⟩,Gq 4 0):=if_pos m;rw[e];exact l.mono fun e w' ⟨n,o,p⟩=>⟨n,_,o,Af.nil _ _ _,p⟩
 ·simp only[if_neg m] at l;have e:As ⟨23,c,d,i⟩ ⟨b,a,R⟩ f=(⟨b,a,R.set c.toNat (R.getD c.toNat 0/R.getD d.toNat 0)⟩,zeroA):=if_neg m;rw[e];exact l.mono fun e w' ⟨n,o,p⟩=>⟨n,_,o,Af.nil _ _ _,p⟩
def V6(w:cQ)(g:Nat)(c a:Int)(R:List Int)(d f i m:Int)(j:Option dv)(k:Nat)(b:List Int)(h:Ao w g c a R ⟨24,d,f,i⟩ (Y j b.length k) 0 0 0 (Y O 0 0))(q:Bb ⟨24,d,f,i⟩ m=true)(x:1≤c)(y:c≤1000000)(s:0≤a)(t:a≤2000)(r:∀ z∈R,0≤z∧z≤255)(u:Cn w j b)(v:b.length≤k):
  cT prog (BZ 24) #[G (Z ⟨g,0,O⟩)] w (C4 w g ⟨24,d,f,i⟩ (Y j b.length k) (As ⟨24,d,f,i⟩ ⟨c,a,R⟩ b)):=by
 have l:Aw 3 d m=true:=AV q 0 3 rfl;replace l:=OC l;exact(TO w g c a R _ _ _ _ _ _ h).mono fun e w' ⟨n,o,p⟩=>⟨n,_,o,Af.nil _ _ _,p⟩
def V7(w:cQ)(g:Nat)(c a:Int)(R:List Int)(d f i t:Int)(j:Option dv)(k:Nat)(b:List Int)(h:Ao w g c a R ⟨25,d,f,i⟩ (Y j b.length k) 0 0 0 (Y O 0 0))(B:Bb ⟨25,d,f,i⟩ t=true)(q:1≤c)(r:c≤1000000)(v:0≤a)(x:a≤2000)(u:∀ z∈R,0≤z∧z≤255)(y:Cn w j b)(A:b.length≤k):
  cT prog (BZ 25) #[G (Z ⟨g,0,O⟩)] w (C4 w g ⟨25,d,f,i⟩ (Y j b.length k) (As ⟨25,d,f,i⟩ ⟨c,a,R⟩ b)):=by
 obtain⟨l,m,r2,r3,rfl,s⟩:=h;exact(Ug w g c a l m r2 r3 _ _ _ _ _ _ s q r).mono fun e w' ⟨n,o,p⟩=>⟨n,_,⟨l,m,r2,r3,rfl,o⟩,Af.nil _ _ _,p⟩
structure JE(d:Ad)(x:Ai):Prop where
 send:x.op=7→x.a<(d.Ab.length:Int)∧(d.Ab.getD x.a.toNat default).o=true
 recv:x.op=8→x.a<(d.Ab.length:Int)∧(d.Ab.getD x.a.toNat default).o=false
 Ep:x.op=9∨x.op=10→x.a<(d.semas.length:Int)
 event:x.op=11∨x.op=12∨x.op=13→x.a<d.events
 Eg:x.op=14∨x.op=15→x.a<(d.bufs.length:Int)
 Dz:x.op=16∨x.op=17∨x.op=18→x.a<d.boards
def K0(d:Ad):Prop:=∀ c∈d.procs,∀ x∈c.code,JE d x
structure Cz(d:Ad)(m:Nat)(a:Ac):Prop where
 kind:0≤a.kind∧a.kind≤16
 nn:0≤a.a
 data:a.data.length≤64
 bytes:Bf a.data
 store:a.kind=1→(0≤a.a∧a.a<(m:Int))∧0≤a.b∧a.b≤255
 send:a.kind=2→(0≤a.a∧a.a<(d.Ab.length:Int))∧(d.Ab.getD a.a.toNat default).o=true∧0<a.data.length
 recv:a.kind=3→(0≤a.a∧a.a<(d.Ab.length:Int))∧(d.Ab.getD a.a.toNat default).o=false
 Ep:a.kind=4∨a.kind=5→0≤a.a∧a.a<(d.semas.length:Int)
 event:a.kind=6∨a.kind=7∨a.kind=8→0≤a.a∧a.a<d.events
 Eg:a.kind=9∨a.kind=10→0≤a.a∧a.a<(d.bufs.length:Int)
 Dz:a.kind=11∨a.kind=12∨a.kind=13→0≤a.a∧a.a<d.boards
 one:a.kind=9∨a.kind=11→0<a.data.length
structure Ed(n:Nat)(s:St):Prop where
 AG:s.AG.length=4
 bytes:Bf s.AG
 pc:0≤s.pc∧s.pc≤(n:Int)
 left:0≤s.left∧s.left≤2000
def FL(d:Ad)(m:Nat):Cz d m zeroA:=⟨by decide,by decide,by decide,(by intro z a;cases a),(by intro h;cases h),(by intro h;cases h),(by intro h;cases h),(by rintro(h|h)<;>cases h),(by rintro(h|h|h)<;>cases h),(by rintro(h|h)<;>cases h),(by rintro(h|h|h)<;>cases h),by rintro(h|h)<;>cases h⟩
def JK(d:Ad)(m:Nat)(f c:Int)(a:0≤f):Cz d m (Gq f c):=⟨by show 0≤(15:Int)∧(15:Int)≤16;decide,a,by show(0:Nat)≤64;decide,(by intro z b;cases b),(by intro h;cases h),(by intro h;cases h),(by intro h;cases h),(by rintro(h|h)<;>cases h),(by rintro(h|h|h)<;>cases h),(by rintro(h|h)<;>cases h),(by rintro(h|h|h)<;>cases h),by rintro(h|h)<;>cases h⟩
def Zj{x:Ai}{a:Int}(h:Bb x a=true):∀ (i:Nat) o,(opsOf x.op)[i]? =Z o→Aw o (Dy x i) a=true:=fun i o b=>AV h i o b
def Js{s:St}(h:Bf s.AG)(i:Int):0≤CY s i∧CY s i≤255:=E8 h i.toNat
def Mr{l:List Int}(h:Bf l)(i:Nat):0≤l.getD i 0∧l.getD i 0≤255:=E8 h i
def Ed.CB{n:Nat}{s:St}(h:Ed n s)(i:Int){v:Int}(a:0≤v∧v≤255):Ed n (D2 s i v):=⟨by simp[D2,h.AG],Le h.bytes _ a,h.pc,h.left⟩
def Ed.G3{n:Nat}{s:St}(h:Ed n s){p:Int}(a:0≤p∧p≤(n:Int)):Ed n {s with pc:=p}:=⟨h.AG,h.bytes,a,h.left⟩
def Ol(f:Int)(n:Nat):(countP f n).length=n:=by simp[countP]
def Sy(f:Int)(n:Nat):Bf (countP f n):=fun z a=>by
 simp only[countP,dn,List.mem_range] at a;obtain⟨i,_,rfl⟩:=a;omega
section
variable {d:Ad} {n:Nat} {s:St} {mem:List Int} {op xa xb xc:Int}
def GD{k:Int}{m:Nat}(a:0≤xa)(j:k=3∨k=4∨k=5∨k=6∨k=7∨k=8∨k=10∨k=12∨k=13)
  (e:k=3→(0≤xa∧xa<(d.Ab.length:Int))∧(d.Ab.getD xa.toNat default).o=false) (f:k=4∨k=5→0≤xa∧xa<(d.semas.length:Int)) (g:k=6∨k=7∨k=8→0≤xa∧xa<d.events) (b:k=10→0≤xa∧xa<(d.bufs.length:Int)) (c:k=12∨k=13→0≤xa∧xa<d.boards):Cz d m ⟨k,xa,0,[]⟩:=
 ⟨(by show 0≤k∧k≤16;omega),a,(by simp),(fun z i=>by cases i),(fun h=>by have h:k=1:=h;omega),(fun h=>by have h:k=2:=h;omega),e,f,g,(fun h=>b (by have h:k=9∨k=10:=h;omega)),(fun h=>c (by have h:k=11∨k=12∨k=13:=h;omega)),fun h=>by have h:k=9∨k=11:=h;omega⟩
def Uo(j:Bb ⟨op,xa,xb,xc⟩ n=true)(e:JE d ⟨op,xa,xb,xc⟩)(b:Ed n s)(p:1≤s.pc)(m:Bf mem):Ed n (As ⟨op,xa,xb,xc⟩ s mem).1∧Cz d mem.length (As ⟨op,xa,xb,xc⟩ s mem).2:=by
 have q:1≤op∧op≤25:=by
  have h:=j;simp only[Bb,du,decide_eq_true_eq] at h;exact h.1
 have c:=Zj j;rcases(show op=1∨op=2∨op=3∨op=4∨op=5∨op=6∨op=7∨op=8∨op=9∨op=10∨op=11∨op=12∨op=13∨op=14∨op=15∨op=16∨op=17∨op=18∨op=19∨op=20∨op=21∨op=22∨op=23∨op=24∨op=25 by omega) with rfl|rfl|rfl|rfl|rfl|rfl|rfl|rfl|rfl|rfl|rfl|rfl|rfl|rfl|rfl|rfl|rfl|rfl|rfl|rfl|rfl|rfl|rfl|rfl|rfl
 ·have a:=OB (c 0 1 rfl);have r:=b.left;have o:=b.pc;simp only[Dy] at a;refine⟨⟨b.AG,b.bytes,?_,?_⟩,FL _ _⟩
  ·simp only[As];split<;>omega
  ·simp only[As];split<;>omega
 ·exact⟨b.CB _ (by omega),FL _ _⟩
 ·exact⟨b.CB _ (by omega),FL _ _⟩
 ·exact⟨b.CB _ (by omega),FL _ _⟩
 ·simp only[As];split
  ·exact⟨b,JK _ _ _ _ (by decide)⟩
  ·exact⟨b.CB _ (Mr m _),FL _ _⟩
 ·have k:=Ml (c 1 4 rfl);have g:=Js b.bytes xc;have i:=Js b.bytes xa;simp only[Dy] at k;simp only[As];split
  ·exact⟨b,JK _ _ _ _ (by decide)⟩
  ·rename_i t;exact⟨b,{kind:=by simp,nn:=(by show 0≤xb+CY s xc;omega),data:=by simp,bytes:=fun z f=>(by cases f),store:=fun _=>⟨⟨by show 0≤xb+CY s xc;omega,by show xb+CY s xc<_;omega⟩,i⟩,send:=by simp,recv:=by simp,Ep:=by simp,event:=by simp,Eg:=by simp,Dz:=by simp,one:=by simp}⟩
 ·have a:=CN (c 0 6 rfl);have l:=OD (c 2 5 rfl);simp only[Dy] at a l;simp only[As];exact⟨b,{kind:=by simp,nn:=a,data:=by show(countP _ _).length≤64;rw[Ol];omega,bytes:=Sy _ _,store:=by simp,send:=fun _=>⟨⟨a,(e.send rfl).1⟩,(e.send rfl).2,by show 0<(countP _ _).length;rw[Ol];omega⟩,recv:=by simp,Ep:=by simp,event:=by simp,Eg:=by simp,Dz:=by simp,one:=by simp}⟩
 ·have a:=CN (c 0 6 rfl);exact⟨b,GD a (by omega) (fun _=>⟨⟨a,(e.recv rfl).1⟩,(e.recv rfl).2⟩) (by omega) (by omega) (by omega) (by omega)⟩
 ·have a:=CN (c 0 6 rfl);exact⟨b,GD a (by omega) (by omega) (fun _=>⟨a,e.Ep (.inl rfl)⟩) (by omega) (by omega) (by omega)⟩
 ·have a:=CN (c 0 6 rfl);exact⟨b,GD a (by omega) (by omega) (fun _=>⟨a,e.Ep (.inr rfl)⟩) (by omega) (by omega) (by omega)⟩
 ·have a:=CN (c 0 6 rfl);exact⟨b,GD a (by omega) (by omega) (by omega) (fun _=>⟨a,e.event (.inl rfl)⟩) (by omega) (by omega)⟩
 ·have a:=CN (c 0 6 rfl);exact⟨b,GD a (by omega) (by omega) (by omega) (fun _=>⟨a,e.event (.inr (.inl rfl))⟩) (by omega) (by omega)⟩
 ·have a:=CN (c 0 6 rfl);exact⟨b,GD a (by omega) (by omega) (by omega) (fun _=>⟨a,e.event (.inr (.inr rfl))⟩) (by omega) (by omega)⟩
 ·have a:=CN (c 0 6 rfl);have g:=Js b.bytes xb;exact⟨b,{kind:=by simp[As],nn:=a,data:=by simp[As],bytes:=fun z f=>(by simp only[As,cO] at f;subst f;exact g),store:=by simp[As],send:=by simp[As],recv:=by simp[As],Ep:=by simp[As],event:=by simp[As],Eg:=fun _=>⟨a,e.Eg (.inl rfl)⟩,Dz:=by simp[As],one:=by simp[As]}⟩
 ·have a:=CN (c 0 6 rfl);exact⟨b,GD a (by omega) (by omega) (by omega) (by omega) (fun _=>⟨a,e.Eg (.inr rfl)⟩) (by omega)⟩
 ·have a:=CN (c 0 6 rfl);have g:=Js b.bytes xb;exact⟨b,{kind:=by simp[As],nn:=a,data:=by simp[As],bytes:=fun z f=>(by simp only[As,cO] at f;subst f;exact g),store:=by simp[As],send:=by simp[As],recv:=by simp[As],Ep:=by simp[As],event:=by simp[As],Eg:=by simp[As],Dz:=fun _=>⟨a,e.Dz (.inl rfl)⟩,one:=by simp[As]}⟩
 ·have a:=CN (c 0 6 rfl);exact⟨b,GD a (by omega) (by omega) (by omega) (by omega) (by omega) (fun _=>⟨a,e.Dz (.inr (.inl rfl))⟩)⟩
 ·have a:=CN (c 0 6 rfl);exact⟨b,GD a (by omega) (by omega) (by omega) (by omega) (by omega) (fun _=>⟨a,e.Dz (.inr (.inr rfl))⟩)⟩
 ·exact⟨b,{kind:=by simp[As],nn:=(by simp[As]),data:=by simp[As],bytes:=fun z f=>(by cases f),store:=by simp[As],send:=by simp[As],recv:=by simp[As],Ep:=by simp[As],event:=by simp[As],Eg:=by simp[As],Dz:=by simp[As],one:=by simp[As]}⟩
 ·have a:=IU (c 0 7 rfl);replace a:0≤xa∧xa<(n:Int):=a;exact⟨b.G3 ⟨a.1,Int.le_of_lt a.2⟩,FL _ _⟩
 ·have a:=IU (c 1 7 rfl);simp only[Dy] at a;simp only[As];split
  ·exact⟨b.G3 ⟨a.1,by omega⟩,FL _ _⟩
  ·exact⟨b,FL _ _⟩
 ·have a:=IU (c 2 7 rfl);simp only[Dy] at a;simp only[As];split
  ·exact⟨b.G3 ⟨a.1,by omega⟩,FL _ _⟩
  ·exact⟨b,FL _ _⟩
 ·have g:=Js b.bytes xa;have i:=Js b.bytes xb;simp only[As];split
  ·exact⟨b,JK _ _ _ _ (by decide)⟩
  ·refine⟨b.CB _ ⟨Int.ediv_nonneg g.1 i.1,Int.le_trans (Int.ediv_le_self _ g.1) g.2⟩,FL _ _⟩
 ·exact⟨b,JK _ _ _ _ (by decide)⟩
 ·have o:=b.pc;refine⟨b.G3 ⟨by omega,by omega⟩,{kind:=by simp[As],nn:=(by simp[As]),data:=by simp[As],bytes:=fun z f=>(by cases f),store:=by simp[As],send:=by simp[As],recv:=by simp[As],Ep:=by simp[As],event:=by simp[As],Eg:=by simp[As],Dz:=by simp[As],one:=by simp[As]}⟩
def Q8{a:List Ai}(e:∀ x∈a,JE d x)(b:Ed a.length s)(f:Bf mem):Ed a.length (FZ a s mem).1∧Cz d mem.length (FZ a s mem).2:=by
 unfold FZ;cases c:CM a s.pc with
 |none=>exact⟨b,JK _ _ _ _ (by decide)⟩
 |some x=>
  obtain⟨g,i,j,h⟩:=Ip c;obtain⟨op,xa,xb,xc⟩:=x;exact Uo g (e _ h) (b.G3 ⟨by omega,by omega⟩) (by show 1≤s.pc+1;omega) f
end
def QE(w:cQ)(a b c:Obj):(((w.alloc a).alloc b).alloc c).heap[w.heap.size]? =Z a∧(((w.alloc a).alloc b).alloc c).heap[w.heap.size+1]? =Z b∧(((w.alloc a).alloc b).alloc c).heap[w.heap.size+1+1]? =Z c:=by
 refine⟨?_,?_,?_⟩
 ·rw[dk _ _ _ (by simp;omega),dk _ _ _ (by simp)];exact cP w a
 ·rw[dk _ _ _ (by simp)];have:=cP (w.alloc a) b;simpa using this
 ·have:=cP ((w.alloc a).alloc b) c;simpa using this
def J0(w:cQ)(a b c:Obj):Bl w (((w.alloc a).alloc b).alloc c):=(((cV _ w).alloc (cS _) _).alloc (by simp) _).alloc (by simp;omega) _
def LK(w:cQ)(r:St×Ac)(e:Ending)(w':cQ):Prop:=∃ c,e=.returned (.tuple #[DE r.1,.agg #[I U r.2.kind,I J r.2.a,I J r.2.b,c]])∧Af U w' w.heap.size c r.2.data∧Bl w w'
def Np{w w':cQ}{B sz n:Nat}{v:dm}{c:List dm}(h:Sl w B sz v n c)(k:Sl w' 0 sz v n c):Sl w' B sz v n c:=by
 obtain⟨i,cap,f,m,p,q,r⟩:=k;refine⟨i,cap,f,m,p,q,fun e=>?_⟩;obtain⟨b,o,d,_,j,l⟩:=r e;refine⟨b,o,d,?_,j,l⟩;obtain⟨t,x,g,_,_,_,s⟩:=h;rw[f] at g;injection g with e5 _ _;obtain⟨u,z,a,y,_⟩:=s e;rw[←e5,d] at a;injection a with a;injection a with a;omega
def Qj{q B:Nat}{v:dm}{l:List Int}(r:List (Nat×dm)){W:cQ}(h:Af U W B v l)(e:q<B):Af U (setsAt W q 0 r) B v l:=by
 have d:Ct (fun b=>b≠q) v:=Ja h fun b a _=>by omega
 have c:=A4.Ag (D:=fun b=>b≠q) (w':=setsAt W q 0 r) ⟨h.mono (dd _),d⟩ ⟨by rw[BO];exact cS _,fun b a _=>AU a r W⟩;refine Np h ?_;exact c.1
def Za(B:Nat)(r:dm)(l:List Ai)(a b c d r2 r3:Int)(C:Option dv)(D:Nat)(E:List Int)(w:cQ)(t:Gl B w)(h:DG w r l)(z:FJ l)(X:-1≤a)(aa:a≤1000000)(x:CM l a=O):
  cT prog 75 #[r,.agg #[I J a,I J b,I U c,I U d,I U r2,I U r3],Y C E.length D] w (LK w (⟨a,b,[c,d,r2,r3]⟩,Gq 5 0)):=by
 have j:=Hl B r l a (((w.alloc (T #[I J a,I J b,I U c,I U d,I U r2,I U r3] 49)).alloc (T #[I J 0,I J 0,I U 0,I U 0,I U 0,I U 0] 49)).alloc (T #[I U 0,I J 0,I J 0,Y O 0 0] 40)) (t.below (J0 w _ _ _)) (h.below (J0 w _ _ _)) z;obtain⟨F,H,rfl,_,_⟩:=h.open_;rw[x] at j;simp only[GH] at j;have u:=HH j;obtain⟨t0,t1,t2⟩:=QE w (T #[I J a,I J b,I U c,I U d,I U r2,I U r3] 49) (T #[I J 0,I J 0,I U 0,I U 0,I U 0,I U 0] 49) (T #[I U 0,I J 0,I J 0,Y O 0 0] 40);have k:Hq (Bl w (((w.alloc (T #[I J a,I J b,I U c,I U d,I U r2,I U r3] 49)).alloc (T #[I J 0,I J 0,I U 0,I U 0,I U 0,I U 0] 49)).alloc (T #[I U 0,I J 0,I J 0,Y O 0 0] 40))):=J0 w _ _ _;obtain⟨m,n,p⟩:=H3 t0 t1 t2;clear t0 t1 t2 j h;clear x t z;go_enter func75,ntmps75;go_wp2_with fail;refine u.o.mono ?_;rintro e s ⟨rfl,f⟩;have g0:=(f.block _ (Aa m.o)).trans m.o;have g:=(f.block _ (Aa n.o)).trans n.o;have i:=(f.block _ (Aa p.o)).trans p.o;have ab:w.heap.size<s.heap.size:=Aa g0;have ad:w.heap.size+1<s.heap.size:=Aa g;have ae:w.heap.size+1+1<s.heap.size:=Aa i;have A:=HH (k.o.trans (f.mono k.o.size));obtain⟨y0,y1,y2,y3,y4,y5⟩:=r6 g0;obtain⟨x0,x1,x2,x3,x4,x5⟩:=r6 g;obtain⟨K,L,M,N,P,Q⟩:=f6 g;obtain⟨z0,z1,z2,z3⟩:=r4 i;obtain⟨R,S,V,W⟩:=f4 i;clear u f g0 g i m n p k;go_wp2_with fail;refine dL (v:=.tuple #[.agg #[I J a,I J b,I U c,I U d,I U r2,I U r3],.agg #[I U 15,I J 5,I J 0,Y O 0 0]]) (by simp[results,results75,go_sem, *]) rfl ?_;refine⟨_,rfl,Af.nil _ _ _,?_⟩;have y:=DH (q:=w.heap.size+1+1) (by omega) (DH (q:=w.heap.size+1) (by omega) A.o [(0,I J a),(1,I J b),(2,I U c),(3,I U d),(4,I U r2),(5,I U r3)]) [(0,I U 15),(1,I J 5),(2,I J 0),(3,Y O 0 0)];exact y.alloc y.size (T #[I U 0,I J 0,I J 0,I J 0] 64)
def N8(k:Nat)(f:FuncId):Prop:=∀ (w:cQ) (g:Nat) (c b:Int) (R:List Int) (d e h l:Int) (i:Option dv) (j:Nat) (a:List Int),Ao w g c b R ⟨k,d,e,h⟩ (Y i a.length j) 0 0 0 (Y O 0 0)→Bb ⟨k,d,e,h⟩ l=true→1≤c→c≤1000000→0≤b→b≤2000→(∀ z∈R,0≤z∧z≤255)→Cn w i a→a.length≤j→
  cT prog f #[G (Z ⟨g,0,O⟩)] w (C4 w g ⟨k,d,e,h⟩ (Y i a.length j) (As ⟨k,d,e,h⟩ ⟨c,b,R⟩ a))
def YZ(B:Nat)(vc:dm)(l:List Ai)(c d g i r2 r3:Int)(V:Option dv)(X:Nat)(m:List Int)(w:cQ)(aI:Gl B w)(h:DG w vc l)(hl:FJ l)(cm:c≤1000000)(bK:0≤d)(bL:d≤2000)(hR:∀ z∈ [g,i,r2,r3],0≤z∧z≤255)(hm:Cn w V m)(bj:m.length≤X)(k:Nat)(bJ:1≤k)(hk:k<26)(f:FuncId)(hf:BZ k=f)(eg:∀ args w,(callFunc f args).run prog w=.ok (.enter f args) w)(r s t:Int)(bx:N8 k f)(ha:CM l c=Z ⟨k,r,s,t⟩):
  cT prog 75 #[vc,.agg #[I J c,I J d,I U g,I U i,I U r2,I U r3],Y V m.length X] w (LK w (As ⟨k,r,s,t⟩ ⟨c+1,d,[g,i,r2,r3]⟩ m)):=by
 obtain⟨hv,bM,bN,_⟩:=Ip ha;have cq:IntKind.i64.wrap (c+1)=c+1:=by rw[dq];omega
 have HI:=HH hv;have HP:Hq (0≤c∧c+1≤1000000):=⟨bM,by have:=hl.1;omega⟩;have cl:(0:Int)≤k:=by omega
 have ck:(k:Int)<26:=by omega
 clear bN;have hA:=Hl B vc l c (((w.alloc (T #[I J c,I J d,I U g,I U i,I U r2,I U r3] 49)).alloc (T #[I J 0,I J 0,I U 0,I U 0,I U 0,I U 0] 49)).alloc (T #[I U 0,I J 0,I J 0,Y O 0 0] 40)) (aI.below (J0 w _ _ _)) (h.below (J0 w _ _ _)) hl;obtain⟨ac,cc,rfl,_,_⟩:=h.open_;rw[ha] at hA;simp only[GH] at hA;have HA:=HH hA;obtain⟨t0,t1,t2⟩:=QE w (T #[I J c,I J d,I U g,I U i,I U r2,I U r3] 49) (T #[I J 0,I J 0,I U 0,I U 0,I U 0,I U 0] 49) (T #[I U 0,I J 0,I J 0,Y O 0 0] 40);have B0:Hq (Bl w (((w.alloc (T #[I J c,I J d,I U g,I U i,I U r2,I U r3] 49)).alloc (T #[I J 0,I J 0,I U 0,I U 0,I U 0,I U 0] 49)).alloc (T #[I U 0,I J 0,I J 0,Y O 0 0] 40))):=J0 w _ _ _;obtain⟨T0,T1,T2⟩:=H3 t0 t1 t2;clear t0 t1 t2 hA h;obtain⟨GG,HL,HR,a2,bz⟩:=H5 aI (And.intro bK bL) hR hm bj;clear ha aI hl hR hm bj hv;go_enter func75,ntmps75;go_wp2_with fail;refine HA.o.mono ?_;rintro e a ⟨rfl,b1⟩;have g0:=(b1.block _ (Aa T0.o)).trans T0.o;have g1:=(b1.block _ (Aa T1.o)).trans T1.o;have g2:=(b1.block _ (Aa T2.o)).trans T2.o;have bP:w.heap.size<a.heap.size:=Aa g0;have bQ:w.heap.size+1<a.heap.size:=Aa g1;have bR:w.heap.size+1+1<a.heap.size:=Aa g2;have BB:=HH (B0.o.trans (b1.mono B0.o.size));obtain⟨y0,y1,y2,y3,y4,y5⟩:=r6 g0;have gi:a.cell? ⟨1,k,O⟩=Z (.func (.func (BZ k)) #[] #[]):=(GG.o.below BB.o).ins k bJ hk;obtain⟨G0,G1,G2⟩:=H3 g0 g1 g2;clear HA b1 T0 T1 T2 B0 g0 g1 g2;rw[hf] at gi;clear hf;have bH:∀ o1 o2,((a.alloc o1).alloc o2).cell? ⟨1,k,O⟩=_:=fun o1 o2=>(((cV _ a).alloc (cS _) o1).alloc (by simp) o2).cell (p:=⟨1,k,O⟩) (World.block_lt_of_cell? _ _ gi)|>.trans gi;go_wp2_with fail;obtain⟨W4,aw⟩:=ex ((a.alloc (T #[I U k,I J r,I J s,I J t] 64)).alloc (T #[I J (c+1),I J d,I U g,I U i,I U r2,I U r3,I U k,I J r,I J s,I J t,Y V m.length X,I U 0,I J 0,I J 0,Y O 0 0] 189));rw[←aw];have B4:Hq (Bl a W4):=by
  rw[aw];exact((cV _ a).alloc (cS _) _).alloc (by simp) _
 have q4:W4.heap[a.heap.size+1]? =Z (T #[I J (c+1),I J d,I U g,I U i,I U r2,I U r3,I U k,I J r,I J s,I J t,Y V m.length X,I U 0,I J 0,I J 0,Y O 0 0] 189 (0,0)):=by
  rw[aw];have:=cP (a.alloc (T #[I U k,I J r,I J s,I J t] 64)) (T #[I J (c+1),I J d,I U g,I U i,I U r2,I U r3,I U k,I J r,I J s,I J t,Y V m.length X,I U 0,I J 0,I J 0,Y O 0 0] 189);simpa using this
 have hX:Ao W4 (a.heap.size+1) (c+1) d [g,i,r2,r3] (⟨k,r,s,t⟩:Ai) (Y V m.length X) 0 0 0 (Y O 0 0):=⟨g,i,r2,r3,rfl,q4⟩;have u:=HH (BB.o.trans (B4.o.mono (dX bP)));have HC:=HH (bx W4 (a.heap.size+1) (c+1) d [g,i,r2,r3] r s t l.length V X m hX HI.o (by have:=HP.o;omega) (by have:=HP.o;omega) HL.o.1 HL.o.2 HR.o (fun k hk=>by
  obtain⟨bm,e1,e2,e3⟩:=a2.o k hk;exact⟨bm,e1,cX e2 u.o.size,(u.o.cell (p:=⟨bm,k,O⟩) e2).trans e3⟩) bz.o)
 clear hX q4 aw y0 y1 y2 y3 y4 y5 gi bH;refine HC.o.mono ?_;obtain⟨rr,aS⟩:∃ rr,As (⟨k,r,s,t⟩:Ai) ⟨c+1,d,[g,i,r2,r3]⟩ m=rr:=⟨_,rfl⟩;rw[aS];have bB:=HH aS;obtain⟨⟨H,F,R'⟩,E,L,M,n⟩:=rr;clear aS;rintro e R ⟨rfl,vd,⟨s0,N,P,Q,rfl,A⟩,aP,y⟩;obtain⟨C,D,rfl,_,_⟩:=aP.open_;have x1:=(y.block _ (cX (by omega) B4.o.size) (by simp;omega)).trans ((B4.o.block _ bQ).trans G1.o);have x2:=(y.block _ (cX (by omega) B4.o.size) (by simp;omega)).trans ((B4.o.block _ bR).trans G2.o);have cp:=y.size;have cn:=B4.o.size;have BW:Hq (Bl w R):=⟨y.os.trans u.o.os,y.tape.trans u.o.tape,y.output.trans u.o.output,c9 u.o.size y.size,fun j hj=>(y.block _ (cX hj u.o.size) (by simp;omega)).trans (u.o.block _ hj)⟩;obtain⟨bu,ce,X1,X2⟩:=H4 aP A x1 x2;have cj:=Aa A;simp only at A;obtain⟨bS,bT,bY,bZ,b0,b2⟩:=q6 A;have bU:∀ p:MC.FI (MC.Dj R [a.heap.size+1]),p.W.cell? ⟨a.heap.size+1,11,O⟩=Z (I U E):=fun p=>(p.cell (by simp)).trans (Cr A);have bV:∀ p:MC.FI (MC.Dj R [a.heap.size+1]),p.W.cell? ⟨a.heap.size+1,12,O⟩=Z (I J L):=fun p=>(p.cell (by simp)).trans (Cr A);have bW:∀ p:MC.FI (MC.Dj R [a.heap.size+1]),p.W.cell? ⟨a.heap.size+1,13,O⟩=Z (I J M):=fun p=>(p.cell (by simp)).trans (Cr A);have bX:∀ p:MC.FI (MC.Dj R [a.heap.size+1]),p.W.cell? ⟨a.heap.size+1,14,O⟩=Z (Y C n.length D):=fun p=>(p.cell (by simp)).trans (Cr A);clear HC x1 x2 A aP y u GG BB G0 G1 G2 a2;go_upto_region 7 with (fail);refine MC.AS (MC.Dj R [a.heap.size+1]) 10 [8,9] [4,5,6,7] [] (MC.LP (fun b hb=>by simp only[cO] at hb;omega)) trivial ?_
 iterate 4 (refine MC.An rfl rfl rfl ?_;intro K hK;go_big_quiet_op;go_big_quiet_on)
 iterate 4 (refine MC.Bi rfl rfl rfl ?_;intro K hK;go_big_quiet_op;go_big_quiet_on)
 refine MC.AH rfl ?_;refine MC.AH rfl ?_;refine MC.AR ?_;intro w9 ab bO;clear bO;have n1:=(ab.block _ (show w.heap.size+1<R.heap.size by omega)).trans X1.o;have n2:=(ab.block _ (show w.heap.size+1+1<R.heap.size by omega)).trans X2.o;obtain⟨x0,x1,x2,x3,x4,x5⟩:=r6 n1;obtain⟨a6,a7,a8,a9,ba,bb⟩:=f6 n1;obtain⟨z0,z1,z2,z3⟩:=r4 n2;obtain⟨ao,ap,aq,ar⟩:=f4 n2;obtain⟨x,ax⟩:=ex ((((((w9.setCell ⟨w.heap.size+1,0,O⟩ (I J H)).setCell ⟨w.heap.size+1,1,O⟩ (I J F)).setCell ⟨w.heap.size+1,2,O⟩ (I U s0)).setCell ⟨w.heap.size+1,3,O⟩ (I U N)).setCell ⟨w.heap.size+1,4,O⟩ (I U P)).setCell ⟨w.heap.size+1,5,O⟩ (I U Q));refine MC.AI (w':=x) (by rw[ax];simp[execOp,go_sem,x0,a6,x1,a7,x2,a8,x3,a9,x4,ba,x5,bb]) (fun b hb=>by
  simp only[cO] at hb;rw[show x=setsAt w9 (w.heap.size+1) 0 [(0,I J H),(1,I J F),(2,I U s0),(3,I U N),(4,I U P),(5,I U Q)] from ax,AU (by omega)];exact ab.block b (by omega)) ?_
 have eA:x=setsAt w9 (w.heap.size+1) 0 [(0,I J H),(1,I J F),(2,I U s0),(3,I U N),(4,I U P),(5,I U Q)]:=ax;have m1:x.heap[w.heap.size+1]? =Z (T #[I J H,I J F,I U s0,I U N,I U P,I U Q] 49 (0,0)):=by
  rw[eA];have hh:=Di [(0,I J H),(1,I J F),(2,I U s0),(3,I U N),(4,I U P),(5,I U Q)] n1;simp only[Er,cE,cG,cF] at hh;exact hh
 have m2:x.heap[w.heap.size+1+1]? =Z (T #[I U 0,I J 0,I J 0,Y O 0 0] 40 (0,0)):=by
  rw[eA,AU (by omega)];exact n2
 have B6:Hq (Below (w.heap.size+1) w9 x):=by rw[eA];exact DH (cS _) (cV _ _) _
 have bd:=HH eA;clear ax eA n1 n2 x0 a6 x1 a7 x2 a8 x3 a9 x4 ba x5 bb z0 ao z1 ap z2 aq z3 ar bS bT bY bZ b0 b2 bU bV bW bX;obtain⟨z0,z1,z2,z3⟩:=r4 m2;obtain⟨ao,ap,aq,ar⟩:=f4 m2;obtain⟨S,ay⟩:=ex ((((x.setCell ⟨w.heap.size+1+1,0,O⟩ (I U E)).setCell ⟨w.heap.size+1+1,1,O⟩ (I J L)).setCell ⟨w.heap.size+1+1,2,O⟩ (I J M)).setCell ⟨w.heap.size+1+1,3,O⟩ (Y C n.length D));refine MC.AI (w':=S) (by rw[ay];simp[execOp,go_sem,z0,ao,z1,ap,z2,aq,z3,ar]) (fun b hb=>by
  simp only[cO] at hb;rw[show S=setsAt x (w.heap.size+1+1) 0 [(0,I U E),(1,I J L),(2,I J M),(3,Y C n.length D)] from ay,bd.o,AU (by omega),AU (by omega)];exact ab.block b (by omega)) ?_
 unfold MC.A7;have eB:S=setsAt x (w.heap.size+1+1) 0 [(0,I U E),(1,I J L),(2,I J M),(3,Y C n.length D)]:=ay;have o1:S.heap[w.heap.size+1]? =Z (T #[I J H,I J F,I U s0,I U N,I U P,I U Q] 49 (0,0)):=by
  rw[eB,AU (by omega)];exact m1
 have o2:S.heap[w.heap.size+1+1]? =Z (T #[I U E,I J L,I J M,Y C n.length D] 40 (0,0)):=by
  rw[eB];have hh:=Di [(0,I U E),(1,I J L),(2,I J M),(3,Y C n.length D)] m2;simp only[Er,cE,cG,cF] at hh;exact hh
 have B7:Hq (Below (w.heap.size+1) w9 S):=by rw[eB];exact DH (Nat.le_succ _) B6.o _
 have R7:Hq (Af U S W4.heap.size (Y C n.length D) n):=by
  rw[eB];have h1:=bu.o.below ab;have h2:=Qj (q:=w.heap.size+1) [(0,I J H),(1,I J F),(2,I U s0),(3,I U N),(4,I U P),(5,I U Q)] h1 (by omega);rw[←bd.o] at h2;exact Qj (q:=w.heap.size+1+1) [(0,I U E),(1,I J L),(2,I J M),(3,Y C n.length D)] h2 (by omega)
 clear ay eB m1 m2 B6 z0 ao z1 ap z2 aq z3 ar;obtain⟨u0,u1,u2,u3,u4,u5⟩:=r6 o1;obtain⟨v0,v1,v2,v3⟩:=r4 o2;go_wp2_with fail;refine dL (v:=.tuple #[.agg #[I J H,I J F,I U s0,I U N,I U P,I U Q],.agg #[I U E,I J L,I J M,Y C n.length D]]) (by simp[results,results75,go_sem,u0,u1,u2,u3,u4,u5,v0,v1,v2,v3]) rfl ?_;rw[bB.o];exact⟨_,rfl,R7.o.mono (by omega),BW.o.trans ((ab.mono (by omega)).trans (B7.o.mono (by omega)))⟩
def Tr:∀ k,1≤k→k<26→∀ args w,(callFunc (BZ k) args).run prog w=.ok (.enter (BZ k) args) w
 |1,_,_=>fun _ _=>by kernel_rfl
 |2,_,_=>fun _ _=>by kernel_rfl
 |3,_,_=>fun _ _=>by kernel_rfl
 |4,_,_=>fun _ _=>by kernel_rfl
 |5,_,_=>fun _ _=>by kernel_rfl
 |6,_,_=>fun _ _=>by kernel_rfl
 |7,_,_=>fun _ _=>by kernel_rfl
 |8,_,_=>fun _ _=>by kernel_rfl
 |9,_,_=>fun _ _=>by kernel_rfl
 |10,_,_=>fun _ _=>by kernel_rfl
 |11,_,_=>fun _ _=>by kernel_rfl
 |12,_,_=>fun _ _=>by kernel_rfl
 |13,_,_=>fun _ _=>by kernel_rfl
 |14,_,_=>fun _ _=>by kernel_rfl
 |15,_,_=>fun _ _=>by kernel_rfl
 |16,_,_=>fun _ _=>by kernel_rfl
 |17,_,_=>fun _ _=>by kernel_rfl
 |18,_,_=>fun _ _=>by kernel_rfl
 |19,_,_=>fun _ _=>by kernel_rfl
 |20,_,_=>fun _ _=>by kernel_rfl
 |21,_,_=>fun _ _=>by kernel_rfl
 |22,_,_=>fun _ _=>by kernel_rfl
 |23,_,_=>fun _ _=>by kernel_rfl
 |24,_,_=>fun _ _=>by kernel_rfl
 |25,_,_=>fun _ _=>by kernel_rfl
 |0,h,_=>absurd h (by decide)
 |k+26,_,h=>absurd h (by omega)
def VP:∀ k,1≤k→k<26→N8 k (BZ k)
 |1,_,_=>fun w g e a R i j l f b c d=>Vw w g e a R i j l f b c d
 |2,_,_=>fun w g e a R i j l f b c d=>V8 w g e a R i j l f b c d
 |3,_,_=>fun w g e a R i j l f b c d=>V9 w g e a R i j l f b c d
 |4,_,_=>fun w g e a R i j l f b c d=>VA w g e a R i j l f b c d
 |5,_,_=>fun w g e a R i j l f b c d=>VB w g e a R i j l f b c d
 |6,_,_=>fun w g e a R i j l f b c d=>VC w g e a R i j l f b c d
 |7,_,_=>fun w g e a R i j l f b c d=>VD w g e a R i j l f b c d
 |8,_,_=>fun w g e a R i j l f b c d=>VE w g e a R i j l f b c d
 |9,_,_=>fun w g e a R i j l f b c d=>VF w g e a R i j l f b c d
 |10,_,_=>fun w g e a R i j l f b c d=>Vm w g e a R i j l f b c d
 |11,_,_=>fun w g e a R i j l f b c d=>Vn w g e a R i j l f b c d
 |12,_,_=>fun w g e a R i j l f b c d=>Vo w g e a R i j l f b c d
 |13,_,_=>fun w g e a R i j l f b c d=>Vp w g e a R i j l f b c d
 |14,_,_=>fun w g e a R i j l f b c d=>Vq w g e a R i j l f b c d
 |15,_,_=>fun w g e a R i j l f b c d=>Vr w g e a R i j l f b c d
 |16,_,_=>fun w g e a R i j l f b c d=>Vs w g e a R i j l f b c d
 |17,_,_=>fun w g e a R i j l f b c d=>Vt w g e a R i j l f b c d
 |18,_,_=>fun w g e a R i j l f b c d=>Vu w g e a R i j l f b c d
 |19,_,_=>fun w g e a R i j l f b c d=>Vv w g e a R i j l f b c d
 |20,_,_=>fun w g e a R i j l f b c d=>Vx w g e a R i j l f b c d
 |21,_,_=>fun w g e a R i j l f b c d=>Vy w g e a R i j l f b c d
 |22,_,_=>fun w g e a R i j l f b c d=>Vz w g e a R i j l f b c d
 |23,_,_=>fun w g e a R i j l f b c d=>V5 w g e a R i j l f b c d
 |24,_,_=>fun w g e a R i j l f b c d=>V6 w g e a R i j l f b c d
 |25,_,_=>fun w g e a R i j l f b c d=>V7 w g e a R i j l f b c d
 |0,h,_=>absurd h (by decide)
 |k+26,_,h=>absurd h (by omega)
def YY(B:Nat)(o:dm)(l:List Ai)(s:St)(g:Option dv)(i:Nat)(e:List Int)(w:cQ)(u:Gl B w)(h:DG w o l)(y:FJ l)(D:-1≤s.pc)(p:s.pc≤1000000)(A:0≤s.left)(C:s.left≤2000)(H:s.AG.length=4)(v:∀ z∈s.AG,0≤z∧z≤255)(K:Cn w g e)(L:e.length≤i):
  cT prog 75 #[o,DE s,Y g e.length i] w (LK w (FZ l s e)):=by
 obtain⟨t,F,R⟩:=s;obtain⟨m,n,r2,r3,rfl⟩:∃ m n r2 r3,R=[m,n,r2,r3]:=by
  match R,H with
  | [a,b,c,d],_=>exact⟨a,b,c,d,rfl⟩
 simp only at D p A C v;unfold FZ;cases f:CM l t with
 |none=>
  simp only[f];exact Za B o l t F m n r2 r3 g i e w u h y D p f
 |some x=>
  simp only[f];obtain⟨j,M,N,P⟩:=x;obtain⟨E,_⟩:=Ip f;have Q:1≤j∧j≤25:=by
   simp only[Bb,du,decide_eq_true_eq] at E;exact E.1
  obtain⟨k,rfl⟩:∃ k:Nat,j=k:=⟨j.toNat,by omega⟩;have q:1≤k:=by omega
  have r:k<26:=by omega
  exact YZ B o l t F m n r2 r3 g i e w u h y p A C v K L k q r _ rfl (Tr k q r) M N P (VP k q r) f
section
variable {d:Ad} {s:Ae} {i:Nat} {now:Int} {a:Ac}
def Ah.YN(h:Ah d s)(k:Nat){v:Int}(b:0≤v∧v≤255):Ah d {s with mem:=s.mem.set k v}:={h with mem:=by simpa using h.mem,I0:=Le h.I0 k b}
def Ji:D5 EU:=⟨rfl,by intro z b;simp[EU] at b;omega,by decide,by decide,by decide,by decide,by decide⟩
def okSa_write{p:CV}{x:Ee}(h:K6 x){m:List Int}(f:m.length≤64∧Bf m):K6 (writeSa p x now m).1:=by
 unfold writeSa;split
 ·exact h
 ·split
  ·exact h
  ·rename_i e _;refine⟨f.1,f.2,?_⟩;simp only[not_or] at e;have b:=e.1;simp only[Bool.not_eq_false] at b;simp only[Ff,DZ,du,decide_eq_true_eq] at b;have c:=b.1.2;have g:=b.2;refine⟨?_,g.2⟩;split at c
   ·simp only[du,decide_eq_true_eq] at c;show 0≤now;omega
   ·simp only[du,decide_eq_true_eq,beq_iff_eq] at c;show 0≤now;omega
def J5(h:Ah d s){l:List Int}{data:List Int}(b:Bf data)(e:0≤now)(f:now≤4294967296)(c:∀ z∈l,z<(s.procs.length:Int)):Ah d (wakeP d now data l s):=(Ah.IF b e f l h c).1
def Ah.act(h:Ah d s)(F:∀ x∈s.boards,0≤x.val∧x.val≤255)(y:i<s.procs.length)(g:Cz d s.mem.length a)(B:0≤now)(C:now≤4294967296):Ah d (actA d i now a s).1:=by
 have hid:i<d.procs.length:=by have:=h.procs;omega
 have w:(i:Int)<(d.procs.length:Int):=by omega
 have t:(0:Int)≤(i:Int):=by omega
 have A:=h.procs;unfold actA;split
 ·rename_i f;obtain⟨_,D⟩:=g.store f;exact h.YN _ (by omega)
 ·rename_i f;have o:=(g.send f).1;show Ah d (EJ d now a s);unfold EJ;split
  ·exact h.Nj _ (okSa_write (h.sa _ (getD_mem (by have:=h.samples;omega))) ⟨g.data,g.bytes⟩)
  ·exact h.Ko _ (FK.Ng (h.qu _ (getD_mem (by have:=h.queues;omega))) ⟨g.data,g.bytes⟩).1
 ·rename_i f;have o:=(g.recv f).1;unfold Fg;split
  ·have n:=FK.Ql (k:=(portA d a).kind) (s:=(portA d a).size) (d:=(portA d a).depth) (r:=(portA d a).At) (p:=i) (u:=prioA d i) (h.qu _ (getD_mem (l:=s.queues) (k:=a.a.toNat) (d:=default) (by have:=h.queues;omega))) t w;have E:=h.Ko a.a.toNat n.1;simp only[];split
   ·exact E.Fq y n.2.2
   ·exact E
  ·have n:=h.sa _ (getD_mem (l:=s.samples) (k:=a.a.toNat) (d:=default) (by have:=h.samples;omega));refine h.Fq y ?_;split
   ·unfold DN;split
    ·intro z e;cases e
    ·split
     ·intro z e;cases e
     ·exact n.bytes
   ·intro z e;cases e
 ·rename_i f;have o:=g.Ep (.inl f);exact h.Nk _ (waitS_w (h.se _ (getD_mem (by have:=h.semas;omega))) t w)
 ·rename_i f;have o:=g.Ep (.inr f);have m:=h.se _ (getD_mem (l:=s.semas) (k:=a.a.toNat) (d:=default) (by have:=h.semas;omega));refine J5 (h.Nk _ (Qx m)) (fun z e=>by cases e) B C (fun z e=>?_);simp only[cO] at e;subst e;have:=Qy (c:=(Ia a s).count) m;show _<(s.procs.length:Int);rw[A];exact this
 ·rename_i f;have o:=g.event (.inl f);have m:=h.ev _ (getD_mem (l:=s.events) (k:=a.a.toNat) (d:=default) (by have:=h.events;omega));have j:=Qc (u:=(EW a s).up) m;refine J5 (h.Lq _ j.1) (fun z e=>by cases e) B C (fun z e=>?_);show _<(s.procs.length:Int);rw[A];exact j.2.1 z e
 ·rename_i f;have o:=g.event (.inr (.inl f));have m:=h.ev _ (getD_mem (l:=s.events) (k:=a.a.toNat) (d:=default) (by have:=h.events;omega));exact h.Lq _ m
 ·rename_i f;have o:=g.event (.inr (.inr f));exact h.Lq _ (untilE_w (h.ev _ (getD_mem (l:=s.events) (k:=a.a.toNat) (d:=default) (by have:=h.events;omega))) t w)
 ·rename_i f;have o:=g.Eg (.inl f);have D:=h.bu _ (getD_mem (l:=s.bufs) (k:=a.a.toNat) (d:=default) (by have:=h.bufs;omega));have n:=g.one (.inl f);have j:=D.PU (q:=i) (r:=prioA d i) (v:=a.data.getD 0 0) t w (Mr g.bytes 0);refine J5 (h.Lp _ j.1) g.bytes B C (fun z e=>?_);simp only[cO] at e;subst e;show _<(s.procs.length:Int);rw[A];exact j.2
 ·rename_i f;have o:=g.Eg (.inr f);have D:=h.bu _ (getD_mem (l:=s.bufs) (k:=a.a.toNat) (d:=default) (by have:=h.bufs;omega));have j:=D.OG (q:=i) (r:=prioA d i) t w;have n:Ah d (wakeP d now [] [(getBu (buA a s).depth (buA a s).data (buA a s).put (buA a s).get i (prioA d i)).2.2.2.2.2.1] {s with bufs:=s.bufs.set a.a.toNat ⟨(buA a s).depth,(getBu (buA a s).depth (buA a s).data (buA a s).put (buA a s).get i (prioA d i)).1,(getBu (buA a s).depth (buA a s).data (buA a s).put (buA a s).get i (prioA d i)).2.1,(getBu (buA a s).depth (buA a s).data (buA a s).put (buA a s).get i (prioA d i)).2.2.1⟩}):=by
   refine J5 (h.Lp _ j.1) (fun z e=>by cases e) B C (fun z e=>?_);simp only[cO] at e;subst e;show _<(s.procs.length:Int);rw[A];exact j.2.1
  unfold Gt;simp only[];split
  ·refine n.Fq (by rw[N3];exact y) (fun z e=>?_);simp only[cO] at e;subst e;exact j.2.2
  ·exact n
 ·rename_i f;have o:=g.Dz (.inl f);have m:=h.bo _ (getD_mem (l:=s.boards) (k:=a.a.toNat) (d:=default) (by have:=h.boards;omega));have j:=Qt (b:=(boA a s).has) (x:=(boA a s).val) (v:=a.data.getD 0 0) m;refine J5 (h.Km _ j.1) g.bytes B C (fun z e=>?_);show _<(s.procs.length:Int);rw[A];exact j.2.1 z e
 ·rename_i f;have o:=g.Dz (.inr (.inl f));have m:=h.bo _ (getD_mem (l:=s.boards) (k:=a.a.toNat) (d:=default) (by have:=h.boards;omega));have n:=h.Km a.a.toNat (x:=⟨(boA a s).has,(boA a s).val,(lookBd (boA a s).has (boA a s).val (boA a s).wait i (prioA d i)).1⟩) (Pv m t w);unfold Gu;simp only[];split
  ·refine n.Fq y (fun z e=>?_);simp only[cO] at e;subst e;have H:=F _ (getD_mem (l:=s.boards) (k:=a.a.toNat) (d:=default) (by have:=h.boards;omega));unfold lookBd;split
   ·exact(show(0:Int)≤0∧(0:Int)≤255 by decide)
   ·split
    ·exact H
    ·exact(show(0:Int)≤0∧(0:Int)≤255 by decide)
  ·exact n
 ·rename_i f;have o:=g.Dz (.inr (.inr f));have m:=h.bo _ (getD_mem (l:=s.boards) (k:=a.a.toNat) (d:=default) (by have:=h.boards;omega));exact h.Km _ m
 ·rename_i f;unfold nextA;split
  ·exact h.G4 i Ji
  ·refine h.G4 i ?_;have:=h.at_ y;exact {this with deadline:=(show(-1:Int)≤ -1∧(-1:Int)≤4294967296 by decide)}
 ·exact h.G4 i Ji
 ·exact h
end
def upTo{α:Type}(f:Nat→α→α)(k:Nat)(l:List α):List α:=l.mapIdx fun i x=>if i<k then f i x else x
section
variable {α:Type} {f:Nat→α→α} {k:Nat} {l:List α}
def upTo_len:(upTo f k l).length=l.length:=by simp[upTo]
def IC:upTo f 0 l=l:=by
 refine dy upTo_len fun i a b=>?_
 simp[upTo]
def IB:upTo f l.length l=l.mapIdx f:=by
 refine dy (by simp[upTo]) fun i b a=>?_
 have:i<l.length:=by simpa using a
 simp[upTo,this]
def GX(h:k<l.length):(upTo f k l)[k]'(by rw[upTo_len];exact h)=l[k]:=by simp[upTo]
def If(h:k<l.length):(upTo f k l).set k (f k l[k])=upTo f (k+1) l:=by
 refine dy (by simp[upTo]) fun i b c=>?_
 rw[List.getElem_set];by_cases e:k=i
 ·subst e;simp[upTo]
 ·rw[if_neg e];simp only[upTo,List.getElem_mapIdx];by_cases a:i<k
  ·rw[if_pos a,if_pos (by omega)]
  ·rw[if_neg a,if_neg (by omega)]
def Je{β:Type}(g:α→β)(l:List α):(l.mapIdx fun _ x=>g x)=l.map g:=by
 refine dy (by simp) fun i a b=>?_
 simp
end
def Re(w:cQ)(b o:Nat)(l:List Wt)(e:Ending)(w':cQ):Prop:=e=.returned (.tuple #[])∧∃ a u,w'=a.setCell ⟨b,o,O⟩ u∧Bl w a∧Al a w.heap.size u l
def Tv:EG 69:=fun _ _=>by kernel_rfl
def Jd(w:cQ)(a b:Nat)(v:dm)(l:List Wt)(i:Int)(q:Nat)(n:w.cell? ⟨a,b,O⟩=Z v)(m:a<w.heap.size)(x:w.frozen? ⟨a,b,O⟩=false)(y:w.cell? ⟨q,0,O⟩=Z (I J i))(R:q<w.heap.size)(r:Al w 0 v l)(hl:l.length≤1000):
  cT prog 68 #[G (Z ⟨a,b,O⟩),G (Z ⟨q,0,O⟩)] w (Re w a b (leaveW l i)):=by
 obtain⟨s,t,rfl,_,_,_⟩:=r.open_;have F:Hq (∀ W,Bl w W→cT prog 69 #[Y s l.length t,I J i] W fun e w'=>II W (leaveW l i) e w'):=fun W c=>WR _ _ i W (r.below c) (by omega);have X:=qC n m;have q2:=qC y R;obtain⟨H,L⟩:=H2 x n;clear n y r x;go_enter func68,ntmps68;refine AS 8 [7] [] [(5,(fun v w'=>∃ d c2,v=Y d (leaveW l i).length c2∧Al w' w.heap.size (Y d (leaveW l i).length c2) (leaveW l i)))] ⟨(fun v w1 w2 ⟨d,c2,e,h⟩ c=>⟨d,c2,e,h.below c⟩),trivial⟩ ?_
 iterate 5 (refine An rfl rfl rfl ?_;intro K hK;go_big_quiet_op;go_big_quiet_on)
 refine A9 rfl rfl (fun w' c hA=>?_) ?_
 ·refine AD (f:=69) (al:=[Y s l.length t,I J i]) rfl rfl rfl Tv ?_;exact(F.o w' c).mono fun e w2 h=>by
   obtain⟨u,P,A,N⟩:=h;obtain⟨d,c2,S⟩:=Bq A;subst S;exact⟨_,P,N,_,_,rfl,(Al.mono (B:=w'.heap.size) (Sl.Bw A) c.size)⟩
 intro v w' c V;obtain⟨d,c2,rfl,Q⟩:=V;clear c Q w';simp only[Au,cE,cG,cF]
 iterate 1 (refine An rfl rfl rfl ?_;intro K hK;go_big_quiet_op;go_big_quiet_on)
 refine AH rfl ?_;refine AR ?_;intro j g D;obtain⟨a3,c3,k,C⟩:=D 5 _ (by decide) rfl;injection k with k _ e4;subst k e4;have z:j.cell? ⟨a,b,O⟩=Z _:=(g.cell (p:=⟨a,b,O⟩) m).trans L.o;have f:j.frozen? ⟨a,b,O⟩=false:=(g.frozen (p:=⟨a,b,O⟩) m).trans H.o;refine AI (w':=j.setCell ⟨a,b,O⟩ (Y d (leaveW l i).length c2)) (by simp[execOp,go_sem,z,f]) ?_;unfold A7;obtain⟨E,M⟩:=H2 g C;clear g C D X q2;go_wp2_with fail
 go_end0
 exact⟨rfl,j,_,rfl,E.o,M.o⟩
def Ph(w:cQ)(D:Nat→Prop)(g:Nat)(d:Ad)(j:Hd)(s:Ae)(i:Nat)(h:PA w D g d j s)(ok:Ah d s)(hD:∀ q,w.heap.size≤q→D q):
  cT prog 41 #[G (Z ⟨g,0,O⟩),I J i] w fun e w'=>e=.returned (.tuple #[])∧PA w' D g d j (CX i s)∧Upd (Mut g j) w w':=by
 obtain⟨ak,OK,H⟩:=H3 hD ok h;have h6:=ok.ok.procs;have bz:=ok.procs;have bn:=ok.queues;have bl:=ok.bufs;have bk:=ok.boards;have bp:=ok.semas;have bm:=ok.events;have k1:=ok.ok.Ab;have k2:=ok.ok.bufs;have k3:=ok.ok.boards;have k4:=ok.ok.semas;have k5:=ok.ok.events;have ao:Hq (s.queues.length≤8∧s.bufs.length≤8∧s.boards.length≤8∧s.semas.length≤8∧s.events.length≤8):=⟨by omega,by omega,by omega,by omega,by omega⟩;have bC:=h.lt;obtain⟨W0,ap⟩:=ex (w.alloc (T #[I J i] 3));have aI:Bl w W0:=by
  rw[ap];exact(cV _ w).alloc (cS _) _
 have aT:W0.heap[w.heap.size]? =Z (T #[I J i] 3 (0,0)):=by
  rw[ap];exact cP w _
 have aL:Hq (PA W0 D g d j s):=h.below aI;have a2:Hq (Upd (Mut g j) w W0):=.below aI;have aW:=HH aT;have al:Hq (w.heap.size∉Mut g j):=EF h (cS _);have bx:Hq (∀ W D s o,PA W D g d j s→W.cell? ⟨g,o,O⟩=(CR d j s)[o]?):=fun W D s o h=>by rw[Cr h.blk]
 clear ok bn bl bk bp bm k1 k2 k3 k4 k5 aI aT hD;have c0:=H.o.cell 12;go_enter func41,ntmps41
 -- queues
 have bD:=ao.o.1;obtain⟨bq,ba⟩:=ex (dz j.qu.a s.queues.length j.qu.c);have B:w.cell? ⟨g,12,O⟩=Z (Y j.qu.a s.queues.length j.qu.c):=H.o.cell 12;clear c0 h;have a9:(w.alloc (T #[I J i] 3)).cell? ⟨g,12,O⟩=Z (Y j.qu.a s.queues.length j.qu.c):=by rw[←ap];exact aL.o.cell 12
 go_wp2_with fail;rw[←ap];clear B a9 ap;clear bq ba
 go_loopw [5,17] (fun _ v wr=>∃ k:Nat,k≤s.queues.length∧v=I J k∧Hq (PA wr D g d j {s with queues:=upTo (fun _=>AO.leave i) k s.queues}∧Upd (Mut g j) w wr∧wr.heap[w.heap.size]? =Z (T #[I J i] 3 (0,0)))) (fun _ v _=>s.queues.length-(dl v).toNat)
 case atStart=>exact⟨0,dd _,rfl,by rw[IC];exact aL.o,a2.o,aW.o⟩
 case round=>
  obtain⟨k,aD,rfl,A⟩:=hrel;by_cases y:k<s.queues.length
  ·have aE:(k:Int)<(s.queues.length:Int):=by omega
   obtain⟨m,t,l⟩:=A.o;have r:k<(upTo (fun _=>AO.leave i) k s.queues).length:=by rw[upTo_len];exact y
   have N:j.qu.b<wr.heap.size:=m.qu.lt;have B:=m.Ib (by show 0<(upTo (fun _=>AO.leave i) k s.queues).length;omega);have cap:=m.qu.cap;simp only[upTo_len] at B cap;obtain⟨v,u,n,z,R⟩:=m.qu.el k r;have C:=GX (f:=fun _=>AO.leave i) y;simp only[C] at n;have y1:wr.cell? ⟨j.qu.b,k*3+1,O⟩=Z u:=n 1 _ rfl;have L:=m.qu.frozen (by show 0<(upTo (fun _=>AO.leave i) k s.queues).length;omega);simp only[C] at R;obtain⟨V,HA,ag⟩:=H3 (Jd wr j.qu.b (k*3+1) u s.queues[k].wait i w.heap.size y1 N (L _) (by rw[Cr l];rfl) (Aa l) R.1 (by have:=((OK.o.qu _ (cU y)).wait).len;omega)) (show PA wr D g d j {s with queues:=upTo (fun _=>AO.leave i) k s.queues}∧Upd (Mut g j) w wr∧wr.heap[w.heap.size]? =Z (T #[I J i] 3 (0,0)) from⟨m,t,l⟩) C;clear m t l n z R L y1 A C r N;go_wp2_with fail;refine V.o.mono ?_;rintro e w2 ⟨rfl,w1,u1,rfl,K,r1⟩;obtain⟨E,aj⟩:=H2 K r1;clear K r1 V B cap;go_wp2_with fail
   go_roundw
   case rel=>
    obtain⟨m,t,l⟩:=HA.o;have M:=m.below E.o;have r:k<(upTo (fun _=>AO.leave i) k s.queues).length:=by rw[upTo_len];exact y
    obtain⟨v,u,n,z,R⟩:=M.qu.el k r;have F:=M.Jv r [(1,u1)] rfl n (x:=AO.leave i s.queues[k]) fun w' P Q=>?el
    ·have S:=F.1;have ac:=F.2;rw[If (f:=fun _=>AO.leave i) y] at S;exact⟨k+1,by omega,by go_num,S,(t.trans (Upd.below E.o)).trans ac,((ac.block _ (cX (Aa l) E.o.size) al.o).trans (E.o.block _ (Aa l))).trans l⟩
    case el=>
     simp only[ag.o] at P z;exact⟨_,_,P,z.Ag Q,(Al.CZ aj.o fun q l _=>ak.o q (c9 t.size l)).Ag Q⟩
   case measure=>simp[dl];omega
  ·obtain rfl:k=s.queues.length:=by omega
   have X:Hq (PA wr D g d j {s with queues:=s.queues.map (AO.leave i)}):=by
    have:=A.o.1;rw[IB,Je] at this;exact this
   have ab:=HH A.o.2.1;have aa:=HH A.o.2.2;clear A;obtain⟨W1,aq⟩:=ex wr;have aM:Hq (PA W1 D g d j {s with queues:=s.queues.map (AO.leave i)}):=by rw[aq];exact X.o
   have a3:Hq (Upd (Mut g j) w W1):=by rw[aq];exact ab.o
   have aX:Hq (W1.heap[w.heap.size]? =Z (T #[I J i] 3 (0,0))):=by rw[aq];exact aa.o
   rw[←aq];clear X ab aa aq
   -- bufs
   have bE:=ao.o.2.1;obtain⟨br,bb⟩:=ex (dz j.bu.a s.bufs.length j.bu.c);have B:W1.cell? ⟨g,13,O⟩=Z (Y j.bu.a s.bufs.length j.bu.c):=aM.o.cell 13;go_wp2_with fail;clear B;clear br bb
   go_loopw [6,37] (fun _ v wr=>∃ k:Nat,k≤s.bufs.length∧v=I J k∧Hq (PA wr D g d j {s with queues:=s.queues.map (AO.leave i),bufs:=upTo (fun _=>AT.leave i) k s.bufs}∧Upd (Mut g j) w wr∧wr.heap[w.heap.size]? =Z (T #[I J i] 3 (0,0)))) (fun _ v _=>s.bufs.length-(dl v).toNat)
   case atStart=>exact⟨0,dd _,rfl,by rw[IC];exact aM.o,a3.o,aX.o⟩
   case round=>
    obtain⟨k,aD,rfl,A⟩:=hrel;by_cases y:k<s.bufs.length
    ·have aE:(k:Int)<(s.bufs.length:Int):=by omega
     obtain⟨m,t,l⟩:=A.o;have r:k<(upTo (fun _=>AT.leave i) k s.bufs).length:=by rw[upTo_len];exact y
     have N:j.bu.b<wr.heap.size:=m.bu.lt;have B:=m.I8 (by show 0<(upTo (fun _=>AT.leave i) k s.bufs).length;omega);have cap:=m.bu.cap;simp only[upTo_len] at B cap;obtain⟨v,p,gg,n,z,R,h3⟩:=m.bu.el k r;have C:=GX (f:=fun _=>AT.leave i) y;simp only[C] at n;have y2:wr.cell? ⟨j.bu.b,k*4+2,O⟩=Z p:=n 2 _ rfl;have y3:wr.cell? ⟨j.bu.b,k*4+3,O⟩=Z gg:=n 3 _ rfl;have L:=m.bu.frozen (by show 0<(upTo (fun _=>AT.leave i) k s.bufs).length;omega);simp only[C] at z R h3;obtain⟨V,HA,ag⟩:=H3 (Jd wr j.bu.b (k*4+2) p s.bufs[k].put i w.heap.size y2 N (L _) (by rw[Cr l];rfl) (Aa l) R.1 (by have:=(OK.o.bu _ (cU y)).put.len;omega)) (show PA wr D g d j {s with queues:=s.queues.map (AO.leave i),bufs:=upTo (fun _=>AT.leave i) k s.bufs}∧Upd (Mut g j) w wr∧wr.heap[w.heap.size]? =Z (T #[I J i] 3 (0,0)) from⟨m,t,l⟩) C;clear m t l n z R h3 L y2 y3 A C r N;go_wp2_with fail;refine V.o.mono ?_;rintro e w2 ⟨rfl,w1,u1,aU,K,r1⟩;have aK:Hq (PA w2 D g d j {s with queues:=s.queues.map (AO.leave i),bufs:=(upTo (fun _=>AT.leave i) k s.bufs).set k ⟨s.bufs[k].depth,s.bufs[k].data,leaveW s.bufs[k].put i,s.bufs[k].get⟩}∧Upd (Mut g j) w w2∧w2.heap[w.heap.size]? =Z (T #[I J i] 3 (0,0))):=by
      obtain⟨m,t,l⟩:=HA.o;have M:=m.below K;have r:k<(upTo (fun _=>AT.leave i) k s.bufs).length:=by rw[upTo_len];exact y
      obtain⟨v,p,gg,n,z,R,h3⟩:=M.bu.el k r;have F:=M.Kr r [(2,u1)] rfl n (x:=⟨s.bufs[k].depth,s.bufs[k].data,leaveW s.bufs[k].put i,s.bufs[k].get⟩) fun w' P Q=>?el
      ·rw[aU];exact⟨F.1,(t.trans (Upd.below K)).trans F.2,((F.2.block _ (cX (Aa l) K.size) al.o).trans (K.block _ (Aa l))).trans l⟩
      case el=>
       simp only[ag.o] at P z h3;exact⟨_,_,_,P,z.Ag Q,(Al.CZ r1 fun q l _=>ak.o q (c9 t.size l)).Ag Q,h3.Ag Q⟩
     obtain⟨m,t,l⟩:=aK.o;have r:k<((upTo (fun _=>AT.leave i) k s.bufs).set k ⟨s.bufs[k].depth,s.bufs[k].data,leaveW s.bufs[k].put i,s.bufs[k].get⟩).length:=by rw[dh,upTo_len];exact y
     have N:j.bu.b<w2.heap.size:=m.bu.lt;have aR:=m.I8 (by show 0<((upTo (fun _=>AT.leave i) k s.bufs).set k ⟨s.bufs[k].depth,s.bufs[k].data,leaveW s.bufs[k].put i,s.bufs[k].get⟩).length;omega);simp only[upTo_len,dh] at aR;obtain⟨v,p,gg,n,z,R,h3⟩:=m.bu.el k r;simp only[dc] at n z R h3;have y3:w2.cell? ⟨j.bu.b,k*4+3,O⟩=Z gg:=n 3 _ rfl;have L:=m.bu.frozen (by show 0<((upTo (fun _=>AT.leave i) k s.bufs).set k ⟨s.bufs[k].depth,s.bufs[k].data,leaveW s.bufs[k].put i,s.bufs[k].get⟩).length;omega);have aJ:=HH (Jd w2 j.bu.b (k*4+3) gg s.bufs[k].get i w.heap.size y3 N (L _) (by rw[Cr l];rfl) (Aa l) h3.1 (by have:=(OK.o.bu _ (cU y)).get.len;omega));clear m t l n z R h3 L y3 r N aU K r1 V B HA ag;go_wp2_with fail;refine aJ.o.mono ?_;rintro e w4 ⟨rfl,w3,u3,rfl,b3,r3⟩;obtain⟨ay,a1⟩:=H2 b3 r3;clear b3 r3 aJ aR cap;go_wp2_with fail
     go_roundw
     case rel=>
      obtain⟨m,t,l⟩:=aK.o;have M:=m.below ay.o;have r:k<((upTo (fun _=>AT.leave i) k s.bufs).set k ⟨s.bufs[k].depth,s.bufs[k].data,leaveW s.bufs[k].put i,s.bufs[k].get⟩).length:=by rw[dh,upTo_len];exact y
      obtain⟨v,p,gg,n,z,R,h3⟩:=M.bu.el k r;simp only[dc] at n z R h3;have F:=M.Kr r [(3,u3)] rfl n (x:=AT.leave i s.bufs[k]) fun w' P Q=>?el
      ·have S:=F.1;have ac:=F.2;simp only[dB] at S;rw[If (f:=fun _=>AT.leave i) y] at S;exact⟨k+1,by omega,by go_num,S,(t.trans (Upd.below ay.o)).trans ac,((ac.block _ (cX (Aa l) ay.o.size) al.o).trans (ay.o.block _ (Aa l))).trans l⟩
      case el=>exact⟨_,_,_,P,z.Ag Q,R.Ag Q,(Al.CZ a1.o fun q l _=>ak.o q (c9 t.size l)).Ag Q⟩
     case measure=>simp[dl];omega
    ·obtain rfl:k=s.bufs.length:=by omega
     have X:Hq (PA wr D g d j {s with queues:=s.queues.map (AO.leave i),bufs:=s.bufs.map (AT.leave i)}):=by
      have:=A.o.1;rw[IB,Je] at this;exact this
     have ab:=HH A.o.2.1;have aa:=HH A.o.2.2;clear A;obtain⟨W2,ar⟩:=ex wr;have aN:Hq (PA W2 D g d j {s with queues:=s.queues.map (AO.leave i),bufs:=s.bufs.map (AT.leave i)}):=by rw[ar];exact X.o
     have a4:Hq (Upd (Mut g j) w W2):=by rw[ar];exact ab.o
     have aY:Hq (W2.heap[w.heap.size]? =Z (T #[I J i] 3 (0,0))):=by rw[ar];exact aa.o
     rw[←ar];clear X ab aa ar
     -- boards
     have bF:=ao.o.2.2.1;obtain⟨bs,bc⟩:=ex (dz j.bo.a s.boards.length j.bo.c);have B:W2.cell? ⟨g,14,O⟩=Z (Y j.bo.a s.boards.length j.bo.c):=aN.o.cell 14;go_wp2_with fail;clear B;clear bs bc
     go_loopw [7,67] (fun _ v wr=>∃ k:Nat,k≤s.boards.length∧v=I J k∧Hq (PA wr D g d j {s with queues:=s.queues.map (AO.leave i),bufs:=s.bufs.map (AT.leave i),boards:=upTo (fun _=>BE.leave i) k s.boards}∧Upd (Mut g j) w wr∧wr.heap[w.heap.size]? =Z (T #[I J i] 3 (0,0)))) (fun _ v _=>s.boards.length-(dl v).toNat)
     case atStart=>exact⟨0,dd _,rfl,by rw[IC];exact aN.o,a4.o,aY.o⟩
     case round=>
      obtain⟨k,aD,rfl,A⟩:=hrel;by_cases y:k<s.boards.length
      ·have aE:(k:Int)<(s.boards.length:Int):=by omega
       obtain⟨m,t,l⟩:=A.o;have r:k<(upTo (fun _=>BE.leave i) k s.boards).length:=by rw[upTo_len];exact y
       have N:j.bo.b<wr.heap.size:=m.bo.lt;have B:=m.I7 (by show 0<(upTo (fun _=>BE.leave i) k s.boards).length;omega);have cap:=m.bo.cap;simp only[upTo_len] at B cap;obtain⟨v,n,z⟩:=m.bo.el k r;have C:=GX (f:=fun _=>BE.leave i) y;simp only[C] at n;have y2:wr.cell? ⟨j.bo.b,k*3+2,O⟩=Z v:=n 2 _ rfl;have L:=m.bo.frozen (by show 0<(upTo (fun _=>BE.leave i) k s.boards).length;omega);simp only[C] at z;obtain⟨V,HA,ag⟩:=H3 (Jd wr j.bo.b (k*3+2) v s.boards[k].wait i w.heap.size y2 N (L _) (by rw[Cr l];rfl) (Aa l) z.1 (by have:=(OK.o.bo _ (cU y)).len;omega)) (show PA wr D g d j {s with queues:=s.queues.map (AO.leave i),bufs:=s.bufs.map (AT.leave i),boards:=upTo (fun _=>BE.leave i) k s.boards}∧Upd (Mut g j) w wr∧wr.heap[w.heap.size]? =Z (T #[I J i] 3 (0,0)) from⟨m,t,l⟩) C;clear m t l n z L y2 A C r N;go_wp2_with fail;refine V.o.mono ?_;rintro e w2 ⟨rfl,w1,u1,rfl,K,r1⟩;obtain⟨E,aj⟩:=H2 K r1;clear K r1 V B cap;go_wp2_with fail
       go_roundw
       case rel=>
        obtain⟨m,t,l⟩:=HA.o;have M:=m.below E.o;have r:k<(upTo (fun _=>BE.leave i) k s.boards).length:=by rw[upTo_len];exact y
        obtain⟨v,n,z⟩:=M.bo.el k r;have F:=M.Kq r [(2,u1)] rfl n (x:=BE.leave i s.boards[k]) fun w' P Q=>?el
        ·have S:=F.1;have ac:=F.2;rw[If (f:=fun _=>BE.leave i) y] at S;exact⟨k+1,by omega,by go_num,S,(t.trans (Upd.below E.o)).trans ac,((ac.block _ (cX (Aa l) E.o.size) al.o).trans (E.o.block _ (Aa l))).trans l⟩
        case el=>
         simp only[ag.o] at P;exact⟨_,P,(Al.CZ aj.o fun q l _=>ak.o q (c9 t.size l)).Ag Q⟩
       case measure=>simp[dl];omega
      ·obtain rfl:k=s.boards.length:=by omega
       have X:Hq (PA wr D g d j {s with queues:=s.queues.map (AO.leave i),bufs:=s.bufs.map (AT.leave i),boards:=s.boards.map (BE.leave i)}):=by
        have:=A.o.1;rw[IB,Je] at this;exact this
       have ab:=HH A.o.2.1;have aa:=HH A.o.2.2;clear A;obtain⟨W3,au⟩:=ex wr;have aO:Hq (PA W3 D g d j {s with queues:=s.queues.map (AO.leave i),bufs:=s.bufs.map (AT.leave i),boards:=s.boards.map (BE.leave i)}):=by rw[au];exact X.o
       have a5:Hq (Upd (Mut g j) w W3):=by rw[au];exact ab.o
       have aZ:Hq (W3.heap[w.heap.size]? =Z (T #[I J i] 3 (0,0))):=by rw[au];exact aa.o
       rw[←au];clear X ab aa au
       -- semas
       have bG:=ao.o.2.2.2.1;obtain⟨bt,bd⟩:=ex (dz j.se.a s.semas.length j.se.c);have B:W3.cell? ⟨g,15,O⟩=Z (Y j.se.a s.semas.length j.se.c):=aO.o.cell 15;go_wp2_with fail;clear B;clear bt bd
       go_loopw [8,87] (fun _ v wr=>∃ k:Nat,k≤s.semas.length∧v=I J k∧Hq (PA wr D g d j {s with queues:=s.queues.map (AO.leave i),bufs:=s.bufs.map (AT.leave i),boards:=s.boards.map (BE.leave i),semas:=upTo (fun _=>BU.leave i) k s.semas}∧Upd (Mut g j) w wr∧wr.heap[w.heap.size]? =Z (T #[I J i] 3 (0,0)))) (fun _ v _=>s.semas.length-(dl v).toNat)
       case atStart=>exact⟨0,dd _,rfl,by rw[IC];exact aO.o,a5.o,aZ.o⟩
       case round=>
        obtain⟨k,aD,rfl,A⟩:=hrel;by_cases y:k<s.semas.length
        ·have aE:(k:Int)<(s.semas.length:Int):=by omega
         obtain⟨m,t,l⟩:=A.o;have r:k<(upTo (fun _=>BU.leave i) k s.semas).length:=by rw[upTo_len];exact y
         have N:j.se.b<wr.heap.size:=m.se.lt;have B:=m.Lw (by show 0<(upTo (fun _=>BU.leave i) k s.semas).length;omega);have cap:=m.se.cap;simp only[upTo_len] at B cap;obtain⟨v,n,z⟩:=m.se.el k r;have C:=GX (f:=fun _=>BU.leave i) y;simp only[C] at n;have y1:wr.cell? ⟨j.se.b,k*2+1,O⟩=Z v:=n 1 _ rfl;have L:=m.se.frozen (by show 0<(upTo (fun _=>BU.leave i) k s.semas).length;omega);simp only[C] at z;obtain⟨V,HA,ag⟩:=H3 (Jd wr j.se.b (k*2+1) v s.semas[k].wait i w.heap.size y1 N (L _) (by rw[Cr l];rfl) (Aa l) z.1 (by have:=(OK.o.se _ (cU y)).len;omega)) (show PA wr D g d j {s with queues:=s.queues.map (AO.leave i),bufs:=s.bufs.map (AT.leave i),boards:=s.boards.map (BE.leave i),semas:=upTo (fun _=>BU.leave i) k s.semas}∧Upd (Mut g j) w wr∧wr.heap[w.heap.size]? =Z (T #[I J i] 3 (0,0)) from⟨m,t,l⟩) C;clear m t l n z L y1 A C r N;go_wp2_with fail;refine V.o.mono ?_;rintro e w2 ⟨rfl,w1,u1,rfl,K,r1⟩;obtain⟨E,aj⟩:=H2 K r1;clear K r1 V B cap;go_wp2_with fail
         go_roundw
         case rel=>
          obtain⟨m,t,l⟩:=HA.o;have M:=m.below E.o;have r:k<(upTo (fun _=>BU.leave i) k s.semas).length:=by rw[upTo_len];exact y
          obtain⟨v,n,z⟩:=M.se.el k r;have F:=M.Nl r [(1,u1)] rfl n (x:=BU.leave i s.semas[k]) fun w' P Q=>?el
          ·have S:=F.1;have ac:=F.2;rw[If (f:=fun _=>BU.leave i) y] at S;exact⟨k+1,by omega,by go_num,S,(t.trans (Upd.below E.o)).trans ac,((ac.block _ (cX (Aa l) E.o.size) al.o).trans (E.o.block _ (Aa l))).trans l⟩
          case el=>
           simp only[ag.o] at P;exact⟨_,P,(Al.CZ aj.o fun q l _=>ak.o q (c9 t.size l)).Ag Q⟩
         case measure=>simp[dl];omega
        ·obtain rfl:k=s.semas.length:=by omega
         have X:Hq (PA wr D g d j {s with queues:=s.queues.map (AO.leave i),bufs:=s.bufs.map (AT.leave i),boards:=s.boards.map (BE.leave i),semas:=s.semas.map (BU.leave i)}):=by
          have:=A.o.1;rw[IB,Je] at this;exact this
         have ab:=HH A.o.2.1;have aa:=HH A.o.2.2;clear A;obtain⟨W4,av⟩:=ex wr;have aP:Hq (PA W4 D g d j {s with queues:=s.queues.map (AO.leave i),bufs:=s.bufs.map (AT.leave i),boards:=s.boards.map (BE.leave i),semas:=s.semas.map (BU.leave i)}):=by rw[av];exact X.o
         have a6:Hq (Upd (Mut g j) w W4):=by rw[av];exact ab.o
         have a0:Hq (W4.heap[w.heap.size]? =Z (T #[I J i] 3 (0,0))):=by rw[av];exact aa.o
         rw[←av];clear X ab aa av
         -- events
         have bH:=ao.o.2.2.2.2;obtain⟨bw,be⟩:=ex (dz j.ev.a s.events.length j.ev.c);have B:W4.cell? ⟨g,16,O⟩=Z (Y j.ev.a s.events.length j.ev.c):=aP.o.cell 16;go_wp2_with fail;clear B;clear bw be
         go_loopw [9,107] (fun _ v wr=>∃ k:Nat,k≤s.events.length∧v=I J k∧Hq (PA wr D g d j {s with queues:=s.queues.map (AO.leave i),bufs:=s.bufs.map (AT.leave i),boards:=s.boards.map (BE.leave i),semas:=s.semas.map (BU.leave i),events:=upTo (fun _=>C3.leave i) k s.events}∧Upd (Mut g j) w wr∧wr.heap[w.heap.size]? =Z (T #[I J i] 3 (0,0)))) (fun _ v _=>s.events.length-(dl v).toNat)
         case atStart=>exact⟨0,dd _,rfl,by rw[IC];exact aP.o,a6.o,a0.o⟩
         case round=>
          obtain⟨k,aD,rfl,A⟩:=hrel;by_cases y:k<s.events.length
          ·have aE:(k:Int)<(s.events.length:Int):=by omega
           obtain⟨m,t,l⟩:=A.o;have r:k<(upTo (fun _=>C3.leave i) k s.events).length:=by rw[upTo_len];exact y
           have N:j.ev.b<wr.heap.size:=m.ev.lt;have B:=m.Ku (by show 0<(upTo (fun _=>C3.leave i) k s.events).length;omega);have cap:=m.ev.cap;simp only[upTo_len] at B cap;obtain⟨v,n,z⟩:=m.ev.el k r;have C:=GX (f:=fun _=>C3.leave i) y;simp only[C] at n;have y1:wr.cell? ⟨j.ev.b,k*2+1,O⟩=Z v:=n 1 _ rfl;have L:=m.ev.frozen (by show 0<(upTo (fun _=>C3.leave i) k s.events).length;omega);simp only[C] at z;obtain⟨V,HA,ag⟩:=H3 (Jd wr j.ev.b (k*2+1) v s.events[k].wait i w.heap.size y1 N (L _) (by rw[Cr l];rfl) (Aa l) z.1 (by have:=(OK.o.ev _ (cU y)).len;omega)) (show PA wr D g d j {s with queues:=s.queues.map (AO.leave i),bufs:=s.bufs.map (AT.leave i),boards:=s.boards.map (BE.leave i),semas:=s.semas.map (BU.leave i),events:=upTo (fun _=>C3.leave i) k s.events}∧Upd (Mut g j) w wr∧wr.heap[w.heap.size]? =Z (T #[I J i] 3 (0,0)) from⟨m,t,l⟩) C;clear m t l n z L y1 A C r N;go_wp2_with fail;refine V.o.mono ?_;rintro e w2 ⟨rfl,w1,u1,rfl,K,r1⟩;obtain⟨E,aj⟩:=H2 K r1;clear K r1 V B cap;go_wp2_with fail
           go_roundw
           case rel=>
            obtain⟨m,t,l⟩:=HA.o;have M:=m.below E.o;have r:k<(upTo (fun _=>C3.leave i) k s.events).length:=by rw[upTo_len];exact y
            obtain⟨v,n,z⟩:=M.ev.el k r;have F:=M.Ls r [(1,u1)] rfl n (x:=C3.leave i s.events[k]) fun w' P Q=>?el
            ·have S:=F.1;have ac:=F.2;rw[If (f:=fun _=>C3.leave i) y] at S;exact⟨k+1,by omega,by go_num,S,(t.trans (Upd.below E.o)).trans ac,((ac.block _ (cX (Aa l) E.o.size) al.o).trans (E.o.block _ (Aa l))).trans l⟩
            case el=>
             simp only[ag.o] at P;exact⟨_,P,(Al.CZ aj.o fun q l _=>ak.o q (c9 t.size l)).Ag Q⟩
           case measure=>simp[dl];omega
          ·obtain rfl:k=s.events.length:=by omega
           have X:Hq (PA wr D g d j {s with queues:=s.queues.map (AO.leave i),bufs:=s.bufs.map (AT.leave i),boards:=s.boards.map (BE.leave i),semas:=s.semas.map (BU.leave i),events:=s.events.map (C3.leave i)}):=by
            have:=A.o.1;rw[IB,Je] at this;exact this
           have ab:=HH A.o.2.1;have aa:=HH A.o.2.2;clear A;obtain⟨W5,aw⟩:=ex wr;have aV:Hq (PA W5 D g d j {s with queues:=s.queues.map (AO.leave i),bufs:=s.bufs.map (AT.leave i),boards:=s.boards.map (BE.leave i),semas:=s.semas.map (BU.leave i),events:=s.events.map (C3.leave i)}):=by rw[aw];exact X.o
           have a7:Hq (Upd (Mut g j) w W5):=by rw[aw];exact ab.o
           have bA:Hq (W5.heap[w.heap.size]? =Z (T #[I J i] 3 (0,0))):=by rw[aw];exact aa.o
           rw[←aw];clear X ab aa aw;go_wp2_with fail
           go_end0
           exact⟨rfl,aV.o,a7.o⟩
def LO(w:cQ)(t n:Int)(d:-9000000000≤t)(f:t≤9000000000)(g:-9000000000≤n)(h:n≤9000000000):
  cT prog 70 #[I J t,I J n] w fun e w'=>e=.returned (I J (afterI t n))∧w=w':=by
 have e:IntKind.i64.wrap (t+n)=t+n:=by rw[dq];omega
 by_cases a:n=0
 ·have c:(n==0)=true:=by simp[a]
  have b:Hq (afterI t n=-1):=by show afterI t n=-1;rw[afterI,if_pos a]
  clear a;go_enter func70,ntmps70;go_wp2_with fail;go_ret;rw[b.o];exact⟨rfl,rfl⟩
 ·have c:(n==0)=false:=by simp[a]
  have b:Hq (afterI t n=t+n):=by show afterI t n=t+n;rw[afterI,if_neg a]
  clear a;go_enter func70,ntmps70;go_wp2_with fail;go_ret;rw[b.o];exact⟨rfl,rfl⟩
def Nx{α:Type}{f:Nat→α→α}{k:Nat}{l:List α}(h:k<l.length)(e:f k l[k]=l[k]):upTo f (k+1) l=upTo f k l:=by
 rw[←If h,e,←GX (f:=f) h,List.set_getElem_self]
def getD_eq{α:Type}{l:List α}{k:Nat}{d:α}(h:k<l.length):l.getD k d=l[k]:=by rw[cR,cZ h];rfl
def O4(now:Int):∀ (l m:List BA) (i:Nat),C7 now i (l++m)=C7 now i l++C7 now (i+l.length) m
 | [],m,i=>by simp[C7]
 |x::l,m,i=>by
  simp only[List.cons_append,C7,dP,O4 now l m (i+1),List.append_assoc];rw[show i+1+l.length=i+(l.length+1) by omega]
def Us{now:Int}{l:List BA}{k:Nat}(h:k<l.length):C7 now 0 (l.take (k+1))=C7 now 0 (l.take k)++(if GP now l[k] then [⟨(k:Int),1,0⟩] else []):=by
 rw[List.take_succ_eq_append_getElem h,O4];simp only[C7,dF,Nat.zero_add,dC,dU (dX h)]
def KH(now:Int):∀ (l:List BA) (i:Nat),(C7 now i l).length≤l.length
 | [],_=>cS _
 |x::l,i=>by
  have:=KH now l (i+1);simp only[C7,dA,dP];split<;>simp<;>omega
def Mg:EG 70:=fun _ _=>by kernel_rfl
def Yz(w:cQ)(D:Nat→Prop)(g:Nat)(d:Ad)(i:Hd)(s:Ae)(now:Int)(h:PA w D g d i s)(ok:Ah d s)(br:0≤now)(bs:now≤4294967296):
  cT prog 43 #[G (Z ⟨g,0,O⟩),I J now] w fun e w'=>e=.returned (.tuple #[])∧PA w' D g d i (Dl d now s)∧Upd (Mut g i) w w':=by
 obtain⟨OK,H⟩:=H2 ok h;have h6:s.procs.length≤6:=by have:=ok.procs;have:=ok.ok.procs;omega
 have a2:d.procs.length=s.procs.length:=ok.procs.symm;have a5:=HH a2;have cg:w.cell? ⟨g,10,O⟩=Z (Y i.pr.a s.procs.length i.pr.c):=h.cell 10;clear ok h a2;go_enter func43,ntmps43;go_wp2_with fail;clear cg
 go_loopw [4,5,12] (fun _ _ v wr=>∃ k:Nat,k≤s.procs.length∧v=I J k∧Hq (PA wr D g d i {s with procs:=upTo (Dg d now) k s.procs}∧Upd (Mut g i) w wr)) (fun _ _ v _=>s.procs.length-(dl v).toNat)
 case atStart=>exact⟨0,dd _,rfl,by rw[IC];exact H.o,Upd.refl _ _⟩
 case round=>
  obtain⟨k,bo,rfl,A⟩:=hrel;by_cases q:k<s.procs.length
  ·have bq:(k:Int)<(s.procs.length:Int):=by omega
   obtain⟨C,hu⟩:=A.o;have an:k<(upTo (Dg d now) k s.procs).length:=by rw[upTo_len];exact q
   have cg:=C.FC (by show 0<(upTo (Dg d now) k s.procs).length;omega);have cap:=C.pr.cap;simp only[upTo_len] at cg cap;obtain⟨R,S,r2,r3,l,y0,y1,y2,y3,y4,y5,y6,y7,y8,y9,aE,aF⟩:=C.Jl an;have eg:=GX (f:=Dg d now) q;simp only[eg] at y0 y1 y2 y3 y4 y5 y6 y7 y8 y9 aE aF l;have hx:=OK.o.pr _ (cU q);obtain⟨x,ex⟩:∃ x,x=s.procs[k]:=⟨_,rfl⟩;have aT:=HH ex;rw[←ex] at y0 y8 aE hx;obtain⟨bu,bw⟩:=hx.release;have az:Dg d now k s.procs[k]=if x.status=3∧x.why=14∧x.release≤now then {readyR now x with deadline:=afterI x.release (d.procs.getD k default).Cf,release:=x.release+(d.procs.getD k default).period} else x:=by rw[←ex];rfl
   obtain⟨aU,E⟩:=H2 az (show PA wr D g d i {s with procs:=upTo (Dg d now) k s.procs}∧Upd (Mut g i) w wr from⟨C,hu⟩);by_cases u:x.status=3∧x.why=14∧x.release≤now
   ·have aQ:=HH u;obtain⟨n,t,bg⟩:=u;have aw:(x.status==3)=true:=by simp[n]
    have av:(x.why==14)=true:=by simp[t]
    have HC:=HH (Qk wr D g d i _ k now C an (by show(upTo (Dg d now) k s.procs).length≤6;rw[upTo_len];exact h6));clear C hu eg l y1 y2 y3 y4 y5 y6 y7 y9 aF az A ex n t hx an;go_wp2_with fail;refine HC.o.mono ?_;rintro e w2 ⟨rfl,N,u2⟩;have er:En k now {s with procs:=upTo (Dg d now) k s.procs}={s with procs:=(upTo (Dg d now) k s.procs).set k (readyR now x)}:=by
     simp only[En];rw[getD_eq (by rw[upTo_len];exact q),GX q,aT.o]
    rw[er] at N;clear er cg cap y0 y8 aE aw av;have am:k<d.procs.length:=by rw[a5.o];exact q
    have bp:(k:Int)<(d.procs.length:Int):=by omega
    have cd:=N.GW (by omega);have bm:=N.Ay.cap;have bh:=N.Ay.lt;obtain⟨nm,bl,X,_⟩:=N.Ay.el k am;have d2:w2.cell? ⟨i.Ay.b,k*5+2,O⟩=Z (I J d.procs[k].period):=X 2 _ rfl;have d3:w2.cell? ⟨i.Ay.b,k*5+3,O⟩=Z (I J d.procs[k].Cf):=X 3 _ rfl;have B:∀ y,k<((upTo (Dg d now) k s.procs).set k y).length:=fun y=>by rw[dh,upTo_len];exact q
    have ay:=OK.o.ok.pc _ (cU am);obtain⟨be,bf⟩:=ay.Cf;obtain⟨bi,bj⟩:=ay.period;have ah:Hq ((d.procs.getD k default).Cf=d.procs[k].Cf∧(d.procs.getD k default).period=d.procs[k].period):=by
     rw[getD_eq am];exact⟨rfl,rfl⟩
    have aV:Hq (IntKind.i64.wrap (x.release+d.procs[k].period)=x.release+d.procs[k].period):=by show IntKind.i64.wrap _=_;rw[dq];omega
    have aO:Hq (∀ W,cT prog 70 #[I J x.release,I J d.procs[k].Cf] W fun e w'=>e=.returned (I J (afterI x.release d.procs[k].Cf))∧W=w'):=fun W=>LO W _ _ (by omega) (by omega) (by omega) (by omega);obtain⟨Q,a7,aR⟩:=H3 N u2 d3;have aS:Hq (∀ W D s,PA W D g d i s→W.cell? ⟨i.Ay.b,k*5+2,O⟩=Z (I J d.procs[k].period)):=fun W D s h=>by
     obtain⟨nm,bl,X,_⟩:=h.Ay.el k am;exact X 2 _ rfl
    obtain⟨pk,aY⟩:∃ z,z=d.procs[k].period:=⟨_,rfl⟩;obtain⟨r,aX⟩:∃ z,z=d.procs[k].Cf:=⟨_,rfl⟩;rw[←aY] at aV ah aS;rw[←aX] at aO aR ah;clear N u2 X ay HC d2 d3 cd be bf bi bj aY aX bh;have ac:=Q.o.pr.lt;have ab:=Q.o.lt;have aa:=Q.o.Ay.lt;obtain⟨R,S,r2,r3,l,j⟩:=Q.o.pr.el k (B _);simp only[dc] at l j;have z8:w2.cell? ⟨i.pr.b,k*12+8,O⟩=Z (I J x.release):=j 8 _ rfl;have q8:=qC z8 ac;have qg:=qC (Q.o.GW (by omega)) ab;have q3:=qC aR.o aa;clear l j z8;go_upto_region 6 with (fail);refine AS 18 [17] [] [(14,fun v _=>v=I J (afterI x.release r))] ⟨Ch,trivial⟩ ?_
    iterate 14 (refine An rfl rfl rfl ?_;intro K hK;go_big_quiet_op;go_big_quiet_on)
    refine A9 rfl rfl (fun w' hb hA=>?_) ?_
    ·refine AD (f:=70) (al:=[I J x.release,I J r]) rfl rfl rfl Mg ?_;exact(aO.o w').mono fun e w2 h=>⟨_,h.1,h.2 ▸ ⟨cV _ _,rfl⟩⟩
    intro v w' hb hv;obtain rfl:=hv;clear hb w';simp only[Au,cE,cG,cF]
    iterate 2 (refine An rfl rfl rfl ?_;intro K hK;go_big_quiet_op;go_big_quiet_on)
    refine AH rfl ?_;refine AR ?_;intro P L aA;have p:=Q.o.below L;obtain⟨R,S,r2,r3,l,j⟩:=p.pr.el k (B _);simp only[dc] at l j;have zz:P.cell? ⟨i.pr.b,k*12+9,O⟩=Z _:=j 9 _ rfl;have V:P.frozen? ⟨i.pr.b,k*12+9,O⟩=false:=p.pr.frozen (dM (dd _) (B (readyR now x))) _;have M:=p.FY (B _) [(9,I J (afterI x.release r))] rfl j (x:={readyR now x with deadline:=afterI x.release r}) fun w' ax bc=>⟨R,S,r2,r3,l,ax⟩;obtain⟨W3,aj⟩:∃ W:cQ,W=P.setCell ⟨i.pr.b,k*12+9,O⟩ (I J (afterI x.release r)):=⟨_,rfl⟩;refine AI (w':=W3) (by rw[aj];simp[execOp,go_sem,zz,V]) ?_;unfold A7;have m:=M.1;simp only[dB] at m;have F:Hq (PA W3 D g d i {s with procs:=(upTo (Dg d now) k s.procs).set k ({readyR now x with deadline:=afterI x.release r})}):=by rw[aj];exact m
    have a8:Hq (Upd (Mut g i) w2 W3):=by rw[aj];exact(Upd.below L).trans M.2
    clear aj M m j l zz V p L aA q8 qg q3 ac ab aa;have bt:=aV.o;have ac:=F.o.pr.lt;have ab:=F.o.lt;have aa:=F.o.Ay.lt;obtain⟨R,S,r2,r3,l,j⟩:=F.o.pr.el k (B _);simp only[dc] at l j;have z8:W3.cell? ⟨i.pr.b,k*12+8,O⟩=Z (I J x.release):=j 8 _ rfl;have q8:=qC z8 ac;have qg:=qC (F.o.GW (by omega)) ab;have q2:=qC (aS.o _ _ _ F.o) aa;clear l j z8;go_upto_region 7 with (fail);refine AS 17 [16] [] [] trivial ?_
    iterate 16 (refine An rfl rfl rfl ?_;intro K hK;go_big_quiet_op;go_big_quiet_on)
    refine AH rfl ?_;refine AR ?_;intro P L aA;have p:=F.o.below L;obtain⟨R,S,r2,r3,l,j⟩:=p.pr.el k (B _);simp only[dc] at l j;have zz:P.cell? ⟨i.pr.b,k*12+8,O⟩=Z _:=j 8 _ rfl;have V:P.frozen? ⟨i.pr.b,k*12+8,O⟩=false:=p.pr.frozen (dM (dd _) (B ({readyR now x with deadline:=afterI x.release r}))) _;have M:=p.FY (B _) [(8,I J (x.release+pk))] rfl j (x:={readyR now x with deadline:=afterI x.release r,release:=x.release+pk}) fun w' ax bc=>⟨R,S,r2,r3,l,ax⟩;obtain⟨W4,ak⟩:∃ W:cQ,W=P.setCell ⟨i.pr.b,k*12+8,O⟩ (I J (x.release+pk)):=⟨_,rfl⟩;refine AI (w':=W4) (by rw[ak];simp[execOp,go_sem,zz,V]) ?_;unfold A7;have m:=M.1;simp only[dB] at m;have a6:Hq (PA W4 D g d i {s with procs:=(upTo (Dg d now) k s.procs).set k ({readyR now x with deadline:=afterI x.release r,release:=x.release+pk})}):=by rw[ak];exact m
    have a9:Hq (Upd (Mut g i) W3 W4):=by rw[ak];exact(Upd.below L).trans M.2
    clear ak M m j l zz V p L aA q8 qg q2 ac ab aa;go_wp2_with fail
    go_roundw
    case rel=>
     obtain⟨C,hu⟩:=E.o;have et:=If (f:=Dg d now) q;rw[aU.o,if_pos aQ.o,ah.o.1,ah.o.2] at et;have m:=a6.o;rw[et] at m;exact⟨k+1,by omega,by go_num,m,((hu.trans a7.o).trans a8.o).trans a9.o⟩
    case measure=>simp[dl];omega
   ·have aQ:=HH u;have a3:upTo (Dg d now) (k+1) s.procs=upTo (Dg d now) k s.procs:=Nx q (by rw[aU.o,if_neg u,aT.o]);have aq:=HH a3;clear C hu eg l y1 y2 y3 y4 y5 y6 y7 y9 aF az A ex hx an a3;by_cases n:x.status=3
    ·have aw:(x.status==3)=true:=by simp[n]
     by_cases t:x.why=14
     ·have av:(x.why==14)=true:=by simp[t]
      have bg:¬x.release≤now:=fun hl=>u ⟨n,t,hl⟩;clear n t u;go_wp2_with fail
      go_roundw
      case rel=>exact⟨k+1,by omega,by go_num,by rw[aq.o];exact E.o.1,E.o.2⟩
      case measure=>simp[dl];omega
     ·have av:(x.why==14)=false:=by simp[t]
      clear n t u;go_wp2_with fail
      go_roundw
      case rel=>exact⟨k+1,by omega,by go_num,by rw[aq.o];exact E.o.1,E.o.2⟩
      case measure=>simp[dl];omega
    ·have aw:(x.status==3)=false:=by simp[n]
     clear n u;go_wp2_with fail
     go_roundw
     case rel=>exact⟨k+1,by omega,by go_num,by rw[aq.o];exact E.o.1,E.o.2⟩
     case measure=>simp[dl];omega
  ·obtain rfl:k=s.procs.length:=by omega
   have HE:Hq (PA wr D g d i (Dl d now s)∧Upd (Mut g i) w wr):=by
    have:=A.o;rw[IB] at this;exact this
   clear A;go_wp2_with fail
   go_end0
   exact⟨rfl,HE.o⟩
def WJ(w:cQ)(D:Nat→Prop)(g:Nat)(d:Ad)(i:Hd)(s:Ae)(now:Int)(h:PA w D g d i s)(ok:Ah d s)(hD:∀ b,D b→b<w.heap.size)(aX:0≤now)(aY:now≤4294967296):
  cT prog 44 #[G (Z ⟨g,0,O⟩),I J now] w fun e w'=>∃ v,e=.returned v∧BF w' w.heap.size v (CP now s).2∧PA w' D g d i (CP now s).1∧Upd (Mut g i) w w':=by
 obtain⟨OK,H,aC⟩:=H3 ok h hD;have ao:=HH h.K8;have h6:s.procs.length≤6:=by have:=ok.procs;have:=ok.ok.procs;omega
 have cg:w.cell? ⟨g,10,O⟩=Z (Y i.pr.a s.procs.length i.pr.c):=h.cell 10;clear ok h hD;go_enter func44,ntmps44;go_wp2_with fail;clear cg
 go_loopw [4,5,6,13] (fun vo _ _ v wr=>∃ k:Nat,k≤s.procs.length∧v=I J k∧∃ a c,vo=Y a (C7 now 0 (s.procs.take k)).length c∧Hq (BF wr w.heap.size (Y a (C7 now 0 (s.procs.take k)).length c) (C7 now 0 (s.procs.take k))∧PA wr D g d i {s with procs:=upTo (fun _=>CK now) k s.procs}∧Upd (Mut g i) w wr)) (fun _ _ _ v _=>s.procs.length-(dl v).toNat)
 case atStart=>exact⟨0,dd _,rfl,O,0,rfl,BF.nil _ _,by rw[IC];exact H.o,Upd.refl _ _⟩
 case round=>
  obtain⟨k,aV,rfl,a,c,rfl,A⟩:=hrel;by_cases B:k<s.procs.length
  ·have aW:(k:Int)<(s.procs.length:Int):=by omega
   obtain⟨F,m,C⟩:=A.o;have p:k<(upTo (fun _=>CK now) k s.procs).length:=by rw[upTo_len];exact B
   have cg:=m.FC (by show 0<(upTo (fun _=>CK now) k s.procs).length;omega);have cap:=m.pr.cap;simp only[upTo_len] at cg cap;obtain⟨r0,r1,r2,r3,K,M,N,R,S,V,X,y6,y7,y8,y9,P,Q⟩:=m.Jl p;have E:=GX (f:=(fun _=>CK now)) B;simp only[E] at M N R S V X y6 y7 y8 y9 P Q K;obtain⟨x,ex⟩:∃ x,x=s.procs[k]:=⟨_,rfl⟩;rw[←ex] at y9;have j:=Us (now:=now) B;rw[←ex] at j;have g9:wr.frozen? ⟨i.pr.b,k*12+9,O⟩=false:=m.pr.frozen (by show 0<(upTo (fun _=>CK now) k s.procs).length;omega) _;obtain⟨HA,aM⟩:=H2 (show BF wr w.heap.size (Y a (C7 now 0 (s.procs.take k)).length c) (C7 now 0 (s.procs.take k))∧PA wr D g d i {s with procs:=upTo (fun _=>CK now) k s.procs}∧Upd (Mut g i) w wr from⟨F,m,C⟩) ex;have aT:(C7 now 0 (s.procs.take k)).length≤k:=c9 (KH _ _ _) (by simp;omega);by_cases aw:0≤x.deadline
   ·by_cases ax:x.deadline≤now
    ·have l:GP now x=true:=by simp[GP,aw,ax]
     rw[l,if_pos rfl] at j;obtain⟨r,aO⟩:=H2 j l;have aN:Hq (s.procs[k].s.AG=[r0,r1,r2,r3]):=K;obtain⟨n,u⟩:∃ n:cQ,n=wr.setCell ⟨i.pr.b,k*12+9,O⟩ (I J (-1)):=⟨_,rfl⟩;have am:n.heap.size=wr.heap.size:=by rw[u];simp[World.setCell]
     have hs:=m.FY p [(9,I J (-1))] rfl (m.pr.el k p).choose_spec.choose_spec.choose_spec.choose_spec.2 (x:={x with deadline:=-1}) fun w' av aU=>by
      have hq:=(m.pr.el k p).choose_spec.choose_spec.choose_spec.choose_spec.1;simp only[E,←ex] at hq av;exact⟨_,_,_,_,hq,av⟩
     have al:=hs.1;have et:=If (f:=(fun _=>CK now)) B;rw[show CK now s.procs[k]={x with deadline:=-1} by rw[←ex,CK,if_pos l]] at et;simp only[et] at al;have ai:BF n w.heap.size (Y a (C7 now 0 (s.procs.take k)).length c) (C7 now 0 (s.procs.take k)):=F.Ag fun b y _=>by
      rw[u];exact Below.heap_setCell _ _ _ _ (fun e=>by have h1:=ao.o i.pr.b (by simp[AL]);have h2:b=i.pr.b:=e;omega)
     have aq:w.heap.size≤n.heap.size:=by rw[am];exact C.size
     obtain⟨a2,c2,L,aj,az,z⟩:=BF.snoc (x:=⟨(k:Int),1,0⟩) (W:=n.alloc (T #[I J k,I U 1,I J 0] 76)) (ai.Ag fun b _ y=>dk _ _ _ y) (by simp;omega) (by omega) (q:=wr.heap.size) (by rw[←am];exact cP _ _) 41;have ay:=fun b=>BF.low (b:=b) ai;have au:PA n D g d i {s with procs:=upTo (fun _=>CK now) (k+1) s.procs}:=by rw[u];exact al
     have t:Upd (Mut g i) w n:=by rw[u];exact C.trans hs.2
     have aI:n.heap.size+1≤L.heap.size:=by have:=z.size;simpa using this
     have ah:∀ b,b<w.heap.size→L.heap[b]? =n.heap[b]?:=fun b y=>(z.block b (by simp;omega) (fun e=>by have:=ay b e.symm;omega)).trans (dk _ _ _ (by omega));have aE:Hq (BF L w.heap.size (Y a2 (C7 now 0 (s.procs.take (k+1))).length c2) (C7 now 0 (s.procs.take (k+1)))∧PA L D g d i {s with procs:=upTo (fun _=>CK now) (k+1) s.procs}∧Upd (Mut g i) w L):=by
      refine⟨?_,au.agree aq (by omega) aC.o ao.o ah,?_⟩
      ·rw[j,dA];exact az
      ·exact⟨(z.os).trans t.os,(z.tape).trans t.tape,(z.output).trans t.output,by have:=t.size;omega,fun b y hn=>(ah b y).trans (t.block b y hn)⟩
     have aF:Hq ((C7 now 0 (s.procs.take (k+1))).length=(C7 now 0 (s.procs.take k)).length+1):=by rw[j,dA];rfl
     rw[u] at aj;have aG:=HH aj;clear m C F E K M N R S V X y6 y7 y8 P Q A ex p hs al et ai ay au t ah z az j l am aI aq u aj;go_wp2_with (at_builtin;refine Lib.wpList_append_run _ rfl _ _ _ _ rfl _ _ rfl rfl _ _ aG.o ?_)
     go_roundw
     case rel=>exact⟨k+1,by omega,by go_num,a2,c2,by rw[aF.o],aE.o⟩
     case measure=>simp[dl];omega
    ·have l:GP now x=false:=by simp[GP,ax]
     rw[l] at j;simp only[dx,if_false,dF] at j;obtain⟨r,ad⟩:=H2 j (Nx (f:=(fun _=>CK now)) B (by rw[←ex,CK,l];rfl));clear m C F E K M N R S V X y6 y7 y8 P Q A ex p j l;go_wp2_with fail
     go_roundw
     case rel=>exact⟨k+1,by omega,by go_num,a,c,by rw[r.o],by rw[r.o,ad.o];exact HA.o⟩
     case measure=>simp[dl];omega
   ·have l:GP now x=false:=by simp[GP,aw]
    rw[l] at j;simp only[dx,if_false,dF] at j;obtain⟨r,ad⟩:=H2 j (Nx (f:=(fun _=>CK now)) B (by rw[←ex,CK,l];rfl));clear m C F E K M N R S V X y6 y7 y8 P Q A ex p j l;go_wp2_with fail
    go_roundw
    case rel=>exact⟨k+1,by omega,by go_num,a,c,by rw[r.o],by rw[r.o,ad.o];exact HA.o⟩
    case measure=>simp[dl];omega
  ·obtain rfl:k=s.procs.length:=by omega
   have HE:Hq (BF wr w.heap.size (Y a (C7 now 0 (s.procs.take s.procs.length)).length c) (CP now s).2∧PA wr D g d i (CP now s).1∧Upd (Mut g i) w wr):=by
    have:=A.o;rw[IB,Je] at this;refine⟨?_,this.2⟩;have h1:=this.1;rw[List.take_length] at h1 ⊢;exact h1
   clear A;go_wp2_with fail;go_ret;exact⟨_,rfl,HE.o⟩
section
variable {d:Ad} {s:Ae} {i:Nat} {now:Int} {a:Ac}
def Z3{c:Int}{l:List Wt}{p r:Int}{x:Wt}(h:x∈(Eb c l p r).2.1):x∈l∨(x.proc=p∧(Eb c l p r).2.2.1=false):=by
 unfold Eb at h ⊢;split at h
 ·exact .inl h
 ·rename_i b;rw[if_neg b];split at h
  ·exact .inl h
  ·rename_i e;rw[if_neg e];rcases Jg.1 h with rfl|h
   ·exact .inr ⟨rfl,rfl⟩
   ·exact .inl h
def Zg{u:Bool}{l:List Wt}{p r:Int}{x:Wt}(h:x∈(Es u l p r).1):x∈l∨(x.proc=p∧(Es u l p r).2.1=false):=by
 unfold Es at h ⊢;split at h
 ·exact .inl h
 ·rename_i b;rw[if_neg b];split at h
  ·exact .inl h
  ·rename_i c;rw[if_neg c];rcases Jg.1 h with rfl|h
   ·exact .inr ⟨rfl,rfl⟩
   ·exact .inl h
def Xj{b:Bool}{v:Int}{l:List Wt}{p r:Int}{x:Wt}(h:x∈(lookBd b v l p r).1):x∈l∨(x.proc=p∧(lookBd b v l p r).2.2.1=false):=by
 unfold lookBd at h ⊢;split at h
 ·exact .inl h
 ·rename_i c;rw[if_neg c];split at h
  ·exact .inl h
  ·rename_i e;rw[if_neg e];rcases Jg.1 h with rfl|h
   ·exact .inr ⟨rfl,rfl⟩
   ·exact .inl h
def Yv{k z d r:Int}{q:List (List Int)}{l:List Wt}{n p u:Int}{x:Wt}(h:x∈(recvQ k z d r q l n p u).2.1):x∈l∨(x.proc=p∧(recvQ k z d r q l n p u).2.2.2.1=false):=by
 unfold recvQ at h ⊢;split at h
 ·exact .inl h
 ·rename_i b;rw[if_neg b];cases q with
  |nil=>
   rcases Jg.1 h with rfl|h
   ·exact .inr ⟨rfl,rfl⟩
   ·exact .inl h
  |cons y t=>exact .inl h
def Qr{k z d r:Int}{q:List (List Int)}{l:List Wt}{n:Int}{m:List Int}{x:Wt}(h:x∈(sendQ k z d r q l n m).2.1):x∈l:=by
 unfold sendQ at h;split at h
 ·exact h
 ·split at h
  ·exact h
  ·cases l with
   |nil=>
    simp only[] at h;split at h<;>cases h
   |cons y t=>exact dj _ h
def YK{k z d r:Int}{q:List (List Int)}{l:List Wt}{n:Int}{m:List Int}(b:0≤(sendQ k z d r q l n m).2.2.2.1):∃ y t,l=y::t∧(sendQ k z d r q l n m).2.1=t∧(sendQ k z d r q l n m).2.2.2.1=y.proc:=by
 unfold sendQ at b ⊢;split at b
 ·simp at b
 ·rename_i c;rw[if_neg c];split at b
  ·simp at b
  ·rename_i e;rw[if_neg e];cases l with
   |nil=>
    simp only[] at b;split at b<;>simp at b
   |cons y t=>exact⟨y,t,rfl,rfl,rfl⟩
def Qw{c:Int}{l:List Wt}{x:Wt}(h:x∈(Dm c l).2.1):x∈l:=by
 unfold Dm at h;split at h
 ·exact h
 ·cases l with
  |nil=>
   simp only[] at h;split at h<;>cases h
  |cons y t=>exact dj _ h
def Nn{c:Int}{l:List Wt}(b:0≤(Dm c l).2.2.1):∃ y t,l=y::t∧(Dm c l).2.1=t∧(Dm c l).2.2.1=y.proc:=by
 unfold Dm at b ⊢;split at b
 ·simp at b
 ·rename_i e;rw[if_neg e];cases l with
  |nil=>
   simp only[] at b;split at b<;>simp at b
  |cons y t=>exact⟨y,t,rfl,rfl,rfl⟩
def Yq{u:Bool}{l:List Wt}{x:Wt}(h:x∈(DC u l).2.1):x∈l∧(DC u l).2.2.1=[]:=by
 unfold DC at h ⊢;split at h
 ·rename_i b;rw[if_pos b];exact⟨h,rfl⟩
 ·cases h
def Qd{u:Bool}{l:List Wt}{z:Int}(h:z∈(DC u l).2.2.1):∃ y∈l,y.proc=z:=by
 unfold DC at h;split at h
 ·cases h
 ·exact dn.1 h
def YR{b:Bool}{v c:Int}{l:List Wt}{x:Wt}(h:x∈(Dh b v l c).2.2.1):x∈l∧(Dh b v l c).2.2.2.1=[]:=by
 unfold Dh at h ⊢;split at h
 ·rename_i e;rw[if_pos e];exact⟨h,rfl⟩
 ·cases h
def Qv{b:Bool}{v c:Int}{l:List Wt}{z:Int}(h:z∈(Dh b v l c).2.2.2.1):∃ y∈l,y.proc=z:=by
 unfold Dh at h;split at h
 ·cases h
 ·exact dn.1 h
def MZ{n:Int}{q:List Int}{p g:List Wt}{i r v:Int}{x:Wt}:
  (x∈(Cb n q p g i r v).2.1→x∈p∨(x.proc=i∧(Cb n q p g i r v).2.2.2.1=false))∧(x∈(Cb n q p g i r v).2.2.1→x∈g):=by
 unfold Cb;split
 ·exact⟨.inl,id⟩
 ·cases g with
  |cons y t=>exact⟨.inl,dj _⟩
  |nil=>
   simp only[];split
   ·exact⟨.inl,id⟩
   ·refine⟨fun h=>?_,id⟩;rcases Jg.1 h with rfl|h
    ·exact .inr ⟨rfl,rfl⟩
    ·exact .inl h
def Kj{n:Int}{q:List Int}{p g:List Wt}{i r v:Int}(b:0≤(Cb n q p g i r v).2.2.2.2.1):∃ y t,g=y::t∧(Cb n q p g i r v).2.2.1=t∧(Cb n q p g i r v).2.1=p∧(Cb n q p g i r v).2.2.2.2.1=y.proc∧(Cb n q p g i r v).2.2.2.1=true:=by
 unfold Cb at b ⊢;split at b
 ·simp at b
 ·rename_i c;rw[if_neg c];cases g with
  |cons y t=>exact⟨y,t,rfl,rfl,rfl,rfl,rfl⟩
  |nil=>
   simp only[] at b;split at b<;>simp at b
def Mq{n:Int}{q:List Int}{p g:List Wt}{i r:Int}{x:Wt}:
  (x∈(getBu n q p g i r).2.1→x∈p)∧(x∈(getBu n q p g i r).2.2.1→x∈g∨(x.proc=i∧(getBu n q p g i r).2.2.2.2.1=false)):=by
 unfold getBu;split
 ·exact⟨id,.inl⟩
 ·cases q with
  |nil=>
   refine⟨id,fun h=>?_⟩;rcases Jg.1 h with rfl|h
   ·exact .inr ⟨rfl,rfl⟩
   ·exact .inl h
  |cons y t=>
   cases p with
   |nil=>exact⟨id,.inl⟩
   |cons z u=>exact⟨dj _,.inl⟩
def Ka{n:Int}{q:List Int}{p g:List Wt}{i r:Int}(b:0≤(getBu n q p g i r).2.2.2.2.2.1):∃ y t,p=y::t∧(getBu n q p g i r).2.1=t∧(getBu n q p g i r).2.2.1=g∧(getBu n q p g i r).2.2.2.2.2.1=y.proc∧(getBu n q p g i r).2.2.2.2.1=true:=by
 unfold getBu at b ⊢;split at b
 ·simp at b
 ·rename_i c;rw[if_neg c];cases q with
  |nil=>simp at b
  |cons y t=>
   cases p with
   |nil=>simp at b
   |cons z u=>exact⟨z,u,rfl,rfl,rfl,rfl,rfl⟩
end
structure AE(i:Nat)(a:Ac)(s r:Ae)(go:Bool):Prop where
 inv:Inv (if go then r else {r with procs:=r.procs.set i (waitR a (r.procs.getD i default))})
 oth:∀ k,k<s.procs.length→k≠i→∃ m,Wk (s.procs.getD k default) (r.procs.getD k default) m∧(m=true→(s.procs.getD k default).status=3)
 own:((r.procs.getD i default).s.pc=(s.procs.getD i default).s.pc∧((r.procs.getD i default).deadline=(s.procs.getD i default).deadline∨(r.procs.getD i default).deadline=-1)∧(r.procs.getD i default).status=(s.procs.getD i default).status)∨r.procs.getD i default=EU
 len:r.procs.length=s.procs.length
 mem:r.mem=s.mem∨(a.kind=1∧∃ j v,r.mem=s.mem.set j v)
 clk:r.clock=s.clock
 md:r.mode=s.mode
 bv:(∀ x∈s.boards,0≤x.val∧x.val≤255)→∀ x∈r.boards,0≤x.val∧x.val≤255
section
variable {d:Ad} {s s0 r:Ae} {i k0:Nat} {now:Int} {a:Ac} {data l:List Int} {go:Bool}
def Pu(f:k0<s.semas.length)(v:BU)(kind:Int)(k:Nat)(x:Wt)(h:x∈AF {s with semas:=s.semas.set k0 v} kind k):(¬(kind=4∧k=k0)∧x∈AF s kind k)∨(kind=4∧k=k0∧x∈v.wait):=by
 by_cases b:kind=4∧k=k0
 ·obtain⟨rfl,rfl⟩:=b;unfold AF at h;simp only[de,if_false,if_true,Cv,f,and_self] at h;exact .inr ⟨rfl,rfl,h⟩
 ·rcases Xh v kind k x h with h|⟨c,e,_⟩
  ·exact .inl ⟨b,h⟩
  ·exact absurd ⟨c,e.symm⟩ b
def MF(f:k0<s.events.length)(v:C3)(kind:Int)(k:Nat)(x:Wt)(h:x∈AF {s with events:=s.events.set k0 v} kind k):(¬(kind=8∧k=k0)∧x∈AF s kind k)∨(kind=8∧k=k0∧x∈v.wait):=by
 by_cases b:kind=8∧k=k0
 ·obtain⟨rfl,rfl⟩:=b;unfold AF at h;simp only[de,if_false,if_true,Cv,f,and_self] at h;exact .inr ⟨rfl,rfl,h⟩
 ·rcases Xe v kind k x h with h|⟨c,e,_⟩
  ·exact .inl ⟨b,h⟩
  ·exact absurd ⟨c,e.symm⟩ b
def ME(f:k0<s.boards.length)(v:BE)(kind:Int)(k:Nat)(x:Wt)(h:x∈AF {s with boards:=s.boards.set k0 v} kind k):(¬(kind=12∧k=k0)∧x∈AF s kind k)∨(kind=12∧k=k0∧x∈v.wait):=by
 by_cases b:kind=12∧k=k0
 ·obtain⟨rfl,rfl⟩:=b;unfold AF at h;simp only[de,if_false,if_true,Cv,f,and_self] at h;exact .inr ⟨rfl,rfl,h⟩
 ·rcases Xc v kind k x h with h|⟨c,e,_⟩
  ·exact .inl ⟨b,h⟩
  ·exact absurd ⟨c,e.symm⟩ b
def La(f:k0<s.queues.length)(v:AO)(kind:Int)(k:Nat)(x:Wt)(h:x∈AF {s with queues:=s.queues.set k0 v} kind k):(¬(kind=3∧k=k0)∧x∈AF s kind k)∨(kind=3∧k=k0∧x∈v.wait):=by
 by_cases b:kind=3∧k=k0
 ·obtain⟨rfl,rfl⟩:=b;unfold AF at h;simp only[if_true,Cv,f,and_self] at h;exact .inr ⟨rfl,rfl,h⟩
 ·rcases Xg v kind k x h with h|⟨c,e,_⟩
  ·exact .inl ⟨b,h⟩
  ·exact absurd ⟨c,e.symm⟩ b
def Ps(f:k0<s.bufs.length)(v:AT)(kind:Int)(k:Nat)(x:Wt)(h:x∈AF {s with bufs:=s.bufs.set k0 v} kind k):(¬((kind=9∨kind=10)∧k=k0)∧x∈AF s kind k)∨(kind=9∧k=k0∧x∈v.put)∨(kind=10∧k=k0∧x∈v.get):=by
 by_cases b:(kind=9∨kind=10)∧k=k0
 ·obtain⟨rfl|rfl,rfl⟩:=b
  ·unfold AF at h;simp only[de,if_false,if_true,Cv,f,and_self] at h;exact .inr (.inl ⟨rfl,rfl,h⟩)
  ·unfold AF at h;simp only[de,if_false,if_true,Cv,f,and_self] at h;exact .inr (.inr ⟨rfl,rfl,h⟩)
 ·rcases Xd v kind k x h with h|⟨c,e,_⟩|⟨c,e,_⟩
  ·exact .inl ⟨b,h⟩
  ·exact absurd ⟨.inl c,e.symm⟩ b
  ·exact absurd ⟨.inr c,e.symm⟩ b
def Z8(b:∀ z∈l,z<0):wakeP d now data l s=s:=by
 induction l generalizing s with
 |nil=>rfl
 |cons z l f=>
  show wakeP d now data l (CT d now data s z)=s;have c:CT d now data s z=s:=by
   unfold CT;rw[if_neg (by have:=b z (List.mem_cons_self ..);omega)]
  rw[c];exact f fun y e=>b y (dj _ e)
def AE.wk(h:Inv s)(n:(s.procs.getD i default).status≠3)(q:i<s.procs.length)(f:s0.procs=s.procs)(e:s0.mem=s.mem)(B:s0.clock=s.clock)(E:s0.mode=s.mode)(A:(∀ x∈s.boards,0≤x.val∧x.val≤255)→∀ x∈s0.boards,0≤x.val∧x.val≤255)
  (u:∀ kind k x,x∈AF s0 kind k→(x∈AF s kind k∧x.proc∉l)∨(x.proc=(i:Int)∧go=false∧a.kind=kind∧a.a=(k:Int)))
  (H:∀ z∈l,0≤z→∃ kind k x,x∈AF s kind k∧x.proc=z) (C:go=false→∀ z∈l,z<0):AE i a s (wakeP d now data l s0) go:=by
 obtain⟨P,j⟩:=Kx (d:=d) (t:=now) (data:=data) l s0;have v:∀ z∈l,0≤z→(s.procs.getD z.toNat default).status=3:=fun z K w=>by
  obtain⟨kind,k,x,g,rfl⟩:=H z K w;exact(h kind k x g).2.1
 have D:(i:Int)∉l:=fun e=>n (by
  have:=v _ e (by omega);simpa using this)
 have o:∀ k,k<s.procs.length→Wk (s.procs.getD k default) ((wakeP d now data l s0).procs.getD k default) (decide ((k:Int)∈l)):=fun k m=>by
  have:=Kw (d:=d) (t:=now) (data:=data) l s0 k (by rw[f];exact m);rw[f] at this;exact this
 have F:=(o i q).same (decide_eq_false D);refine⟨?_,fun k m _=>⟨_,o k m,fun e=>?_⟩,.inl (by rw[F];exact⟨rfl,.inl rfl,rfl⟩),by rw[N3,f],.inl (by rw[j];exact e),by rw[j];exact B,by rw[j];exact E,by rw[j];exact A⟩
 ·cases p:go with
  |true=>
   simp only[if_true];refine Inv.IF l fun kind k x g=>?_
   rcases u kind k x g with ⟨c,b⟩|⟨_,b,_⟩
   ·refine⟨?_,b⟩;have:=h kind k x c;unfold DP at this ⊢;rw[f];exact this
   ·rw[p] at b;cases b
  |false=>
   simp only[dx,if_false];rw[Z8 (C p)];refine h.block f n q _ (fun kind k x g=>?_) rfl;rcases u kind k x g with ⟨c,_⟩|⟨c,_,b,y⟩
   ·exact .inl c
   ·exact .inr ⟨c,b,y⟩
 ·have:=of_decide_eq_true e;have:=v _ this (by omega);simpa using this
def AE.none(h:Inv s)(c:(s.procs.getD i default).status≠3)(g:i<s.procs.length)(o:s0.procs=s.procs)(m:s0.mem=s.mem)(f:s0.clock=s.clock)(n:s0.mode=s.mode)(e:(∀ x∈s.boards,0≤x.val∧x.val≤255)→∀ x∈s0.boards,0≤x.val∧x.val≤255)
  (j:∀ kind k x,x∈AF s0 kind k→x∈AF s kind k∨(x.proc=(i:Int)∧go=false∧a.kind=kind∧a.a=(k:Int))):AE i a s s0 go:=
 AE.wk (d:=default) (now:=0) (data:=[]) (l:=[]) h c g o m f n e (fun kind k x p=>(j kind k x p).imp_left fun h=>⟨h,by simp⟩) (fun z b=>by cases b) (fun _ z b=>by cases b)
def ZF(h:Inv s)(c:(s.procs.getD i default).status≠3)(f:i<s.procs.length)(b:s0.procs=s.procs)(m:∀ z∈l,0≤z→∃ kind k x,x∈AF s kind k∧x.proc=z):(wakeP d now data l s0).procs.getD i default=s.procs.getD i default:=by
 have g:(i:Int)∉l:=fun j=>c (by
  obtain⟨kind,k,x,n,e⟩:=m _ j (by omega);have:=(h kind k x n).2.1;rw[e] at this;simpa using this)
 have:=Kw (d:=d) (t:=now) (data:=data) l s0 i (by rw[b];exact f);rw[b] at this;exact this.same (decide_eq_false g)
def AE.Fq(h:AE i a s r true)(b:r.procs.getD i default=s.procs.getD i default)(g:(s.procs.getD i default).status≠3)(m:i<s.procs.length):AE i a s (Co d i data r) true:=by
 have n:i<r.procs.length:=by rw[h.len];exact m
 have e:(Co d i data r).procs.getD i default=Hp d i data (r.procs.getD i default):=by
  simp only[Co,Cv,n,and_self,if_true]
 refine⟨?_,fun k o c=>?_,?_,by simp only[Co,dh];exact h.len,h.mem,h.clk,h.md,h.bv⟩
 ·have:=h.inv;simp only[if_true] at this ⊢;exact this.own (by rw[b];exact g) _
 ·have f:(Co d i data r).procs.getD k default=r.procs.getD k default:=by
   simp only[Co,Cv];rw[if_neg (fun j=>c j.1.symm)]
  rw[f];exact h.oth k o c
 ·rw[e,b];exact .inl ⟨by simp only[Hp,ON],.inl rfl,rfl⟩
def AE.alone(h:Inv s)(b:(s.procs.getD i default).status≠3)(g:i<s.procs.length){x:BA}(m:(x.s.pc=(s.procs.getD i default).s.pc∧(x.deadline=(s.procs.getD i default).deadline∨x.deadline=-1)∧x.status=(s.procs.getD i default).status)∨x=EU):AE i a s {s with procs:=s.procs.set i x} go:=by
 have e:(s.procs.set i x).getD i default=x:=by simp only[Cv,g,and_self,if_true]
 refine⟨?_,fun k n j=>?_,by show((s.procs.set i x).getD i default).s.pc=_∧_∨_;rw[e];exact m,by simp,.inl rfl,rfl,rfl,id⟩
 ·cases go with
  |true=>exact h.own b _
  |false=>
   simp only[dx,if_false,dB];exact h.own b _
 ·refine⟨false,?_,fun h=>by cases h⟩;have c:(s.procs.set i x).getD k default=s.procs.getD k default:=by rw[Cv,if_neg (fun f=>j f.1.symm)]
  show Wk _ ((s.procs.set i x).getD k default) _;rw[c];exact .refl _
def Rr(h:Inv s)(ok:Ah d s)(o:(s.procs.getD i default).status≠3)(p:i<s.procs.length)(C:Cz d s.mem.length a):AE i a s (actA d i now a s).1 (actA d i now a s).2:=by
 have N:((a.a.toNat:Nat):Int)=a.a:=dK C.nn;unfold actA;split
 ·rename_i g;have:=AE.none (a:=a) (go:=true) h o p (s0:=s) rfl rfl rfl rfl id (fun kind k x c=>.inl c);exact {this with inv:=this.inv,mem:=.inr ⟨g,_,_,rfl⟩}
 ·rename_i g;have c:=(C.send g).1;have F:=ok.queues;show AE i a s (EJ d now a s) true;unfold EJ;split
  ·exact AE.none h o p rfl rfl rfl rfl id (fun kind k x c=>.inl c)
  ·refine AE.none h o p rfl rfl rfl rfl id (fun kind k x c=>.inl ?_);rcases La (k0:=a.a.toNat) (by omega) _ kind k x c with ⟨_,f⟩|⟨rfl,rfl,f⟩
   ·exact f
   ·exact Qr f
 ·rename_i g;have c:=(C.recv g).1;have F:=ok.queues;unfold Fg;split
  ·have S:AE i a s {s with queues:=s.queues.set a.a.toNat ⟨(recvQ (portA d a).kind (portA d a).size (portA d a).depth (portA d a).At (quA a s).q (quA a s).wait (quA a s).lost i (prioA d i)).1,(recvQ (portA d a).kind (portA d a).size (portA d a).depth (portA d a).At (quA a s).q (quA a s).wait (quA a s).lost i (prioA d i)).2.1,(quA a s).lost⟩} (recvQ (portA d a).kind (portA d a).size (portA d a).depth (portA d a).At (quA a s).q (quA a s).wait (quA a s).lost i (prioA d i)).2.2.2.1:=by
    refine AE.none h o p rfl rfl rfl rfl id (fun kind k x c=>?_);rcases La (k0:=a.a.toNat) (by omega) _ kind k x c with ⟨_,f⟩|⟨rfl,rfl,f⟩
    ·exact .inl f
    ·rcases Yv f with f|⟨f,b⟩
     ·exact .inl f
     ·exact .inr ⟨f,b,g,N.symm⟩
   simp only[];split
   ·rename_i n;rw[n] at S;exact S.Fq rfl o p
   ·rename_i n;simp only[dD] at n;rw[n] at S;exact S
  ·exact AE.Fq (AE.none h o p rfl rfl rfl rfl id (fun kind k x c=>.inl c)) rfl o p
 ·rename_i g;have c:=C.Ep (.inl g);have F:=ok.semas;refine AE.none h o p rfl rfl rfl rfl id (fun kind k x c=>?_);rcases Pu (k0:=a.a.toNat) (by omega) _ kind k x c with ⟨_,f⟩|⟨rfl,rfl,f⟩
  ·exact .inl f
  ·rcases Z3 f with f|⟨f,b⟩
   ·exact .inl f
   ·exact .inr ⟨f,b,g,N.symm⟩
 ·rename_i g;have c:=C.Ep (.inr g);have F:=ok.semas;have w:a.a.toNat<s.semas.length:=by omega
  have R:=ok.se _ (getD_mem (l:=s.semas) (k:=a.a.toNat) (d:=default) w);have D:∀ x,x∈(Ia a s).wait→x∈AF s 4 a.a.toNat:=fun x c=>c
  refine AE.wk h o p rfl rfl rfl rfl id (fun kind k x c=>.inl ?_) (fun z A B=>?_) (fun n=>by cases n)
  ·simp only[cO];rcases Pu w _ kind k x c with ⟨f,b⟩|⟨rfl,rfl,b⟩
   ·refine⟨b,fun e=>?_⟩;have v:=(h kind k x b);obtain⟨y,t,j,_,u⟩:=Nn (by rw[←e];exact v.1);have m:=h 4 a.a.toNat y (D y (by rw[j];simp));rw[←u,←e] at m;have:=v.uniq m;exact f ⟨this.1,by omega⟩
   ·refine⟨D x (Qw b),fun e=>?_⟩;have v:=h 4 _ x (D x (Qw b));obtain⟨y,t,j,Q,u⟩:=Nn (by rw[←e];exact v.1);rw[Q] at b;have E:=R.1;have P:(s.semas.getD a.a.toNat default).wait=y::t:=j;rw[P] at E;simp only[dI,dE,dn,not_exists,not_and] at E;exact E.1 x b (by rw[e,u])
  ·simp only[cO] at A;subst A;obtain⟨y,t,j,_,u⟩:=Nn B;exact⟨4,a.a.toNat,y,D y (by rw[j];simp),u.symm⟩
 ·rename_i g;have c:=C.event (.inl g);have F:=ok.events;have w:a.a.toNat<s.events.length:=by omega
  have D:∀ x,x∈(EW a s).wait→x∈AF s 8 a.a.toNat:=fun x c=>c
  refine AE.wk h o p rfl rfl rfl rfl id (fun kind k x c=>.inl ?_) (fun z A B=>?_) (fun n=>by cases n)
  ·rcases MF w _ kind k x c with ⟨f,b⟩|⟨rfl,rfl,b⟩
   ·refine⟨b,fun e=>?_⟩;obtain⟨y,m,j⟩:=Qd e;have m:=h 8 a.a.toNat y (D y m);rw[j] at m;have:=(h kind k x b).uniq m;exact f ⟨this.1,by omega⟩
   ·have:=Yq b;refine⟨D x this.1,?_⟩;rw[this.2];simp
  ·obtain⟨y,m,j⟩:=Qd A;exact⟨8,a.a.toNat,y,D y m,j⟩
 ·rename_i g;have c:=C.event (.inr (.inl g));have F:=ok.events;refine AE.none h o p rfl rfl rfl rfl id (fun kind k x c=>.inl ?_);rcases MF (k0:=a.a.toNat) (by omega) _ kind k x c with ⟨_,f⟩|⟨rfl,rfl,f⟩
  ·exact f
  ·exact f
 ·rename_i g;have c:=C.event (.inr (.inr g));have F:=ok.events;refine AE.none h o p rfl rfl rfl rfl id (fun kind k x c=>?_);rcases MF (k0:=a.a.toNat) (by omega) _ kind k x c with ⟨_,f⟩|⟨rfl,rfl,f⟩
  ·exact .inl f
  ·rcases Zg f with f|⟨f,b⟩
   ·exact .inl f
   ·exact .inr ⟨f,b,g,N.symm⟩
 ·rename_i g;have c:=C.Eg (.inl g);have F:=ok.bufs;have w:a.a.toNat<s.bufs.length:=by omega
  have R:=(ok.bu _ (getD_mem (l:=s.bufs) (k:=a.a.toNat) (d:=default) w)).get;have M:∀ x,x∈(buA a s).put→x∈AF s 9 a.a.toNat:=fun x c=>c
  have L:∀ x,x∈(buA a s).get→x∈AF s 10 a.a.toNat:=fun x c=>c
  refine AE.wk h o p rfl rfl rfl rfl id (fun kind k x c=>?_) (fun z A B=>?_) (fun n z A=>?_)
  ·simp only[cO];rcases Ps w _ kind k x c with ⟨f,b⟩|⟨rfl,rfl,b⟩|⟨rfl,rfl,b⟩
   ·refine .inl ⟨b,fun e=>?_⟩;have v:=(h kind k x b);obtain⟨y,t,j,_,_,u,_⟩:=Kj (by rw[←e];exact v.1);have m:=h 10 a.a.toNat y (L y (by rw[j];simp));rw[←u,←e] at m;have:=v.uniq m;exact f ⟨.inr this.1,by omega⟩
   ·rcases MZ.1 b with b|⟨b,V⟩
    ·refine .inl ⟨M x b,fun e=>?_⟩;have v:=(h 9 _ x (M x b));obtain⟨y,t,j,_,_,u,_⟩:=Kj (by rw[←e];exact v.1);have m:=h 10 a.a.toNat y (L y (by rw[j];simp));rw[←u,←e] at m;exact absurd (v.uniq m).1 (by decide)
    ·exact .inr ⟨b,V,g,N.symm⟩
   ·refine .inl ⟨L x (MZ.2 b),fun e=>?_⟩;have v:=h 10 _ x (L x (MZ.2 b));obtain⟨y,t,j,Q,_,u,_⟩:=Kj (by rw[←e];exact v.1);have b:x∈_:=b;simp only[Q] at b;have E:=R.1;have P:(s.bufs.getD a.a.toNat default).get=y::t:=j;rw[P] at E;simp only[dI,dE,dn,not_exists,not_and] at E;exact E.1 x b (by rw[e,u])
  ·simp only[cO] at A;subst A;obtain⟨y,t,j,_,_,u,_⟩:=Kj B;exact⟨10,a.a.toNat,y,L y (by rw[j];simp),u.symm⟩
  ·simp only[cO] at A;subst A;rcases dY (Cb (buA a s).depth (buA a s).data (buA a s).put (buA a s).get i (prioA d i) (a.data.getD 0 0)).2.2.2.2.1 0 with B|B
   ·exact B
   ·obtain⟨_,_,_,_,_,_,e⟩:=Kj B;have n:(Cb (buA a s).depth (buA a s).data (buA a s).put (buA a s).get i (prioA d i) (a.data.getD 0 0)).2.2.2.1=false:=n;rw[n] at e;cases e
 ·rename_i g;have c:=C.Eg (.inr g);have F:=ok.bufs;have w:a.a.toNat<s.bufs.length:=by omega
  have R:=(ok.bu _ (getD_mem (l:=s.bufs) (k:=a.a.toNat) (d:=default) w)).put;have M:∀ x,x∈(buA a s).put→x∈AF s 9 a.a.toNat:=fun x c=>c
  have L:∀ x,x∈(buA a s).get→x∈AF s 10 a.a.toNat:=fun x c=>c
  have W:∀ z∈ [(getBu (buA a s).depth (buA a s).data (buA a s).put (buA a s).get i (prioA d i)).2.2.2.2.2.1],0≤z→∃ kind k x,x∈AF s kind k∧x.proc=z:=fun z A B=>by
   simp only[cO] at A;subst A;obtain⟨y,t,j,_,_,u,_⟩:=Ka B;exact⟨9,a.a.toNat,y,M y (by rw[j];simp),u.symm⟩
  have H:AE i a s (wakeP d now [] [(getBu (buA a s).depth (buA a s).data (buA a s).put (buA a s).get i (prioA d i)).2.2.2.2.2.1] {s with bufs:=s.bufs.set a.a.toNat ⟨(buA a s).depth,(getBu (buA a s).depth (buA a s).data (buA a s).put (buA a s).get i (prioA d i)).1,(getBu (buA a s).depth (buA a s).data (buA a s).put (buA a s).get i (prioA d i)).2.1,(getBu (buA a s).depth (buA a s).data (buA a s).put (buA a s).get i (prioA d i)).2.2.1⟩}) (getBu (buA a s).depth (buA a s).data (buA a s).put (buA a s).get i (prioA d i)).2.2.2.2.1:=by
   refine AE.wk h o p rfl rfl rfl rfl id (fun kind k x c=>?_) W (fun n z A=>?_)
   ·simp only[cO];rcases Ps w _ kind k x c with ⟨f,b⟩|⟨rfl,rfl,b⟩|⟨rfl,rfl,b⟩
    ·refine .inl ⟨b,fun e=>?_⟩;have v:=(h kind k x b);obtain⟨y,t,j,_,_,u,_⟩:=Ka (by rw[←e];exact v.1);have m:=h 9 a.a.toNat y (M y (by rw[j];simp));rw[←u,←e] at m;have:=v.uniq m;exact f ⟨.inl this.1,by omega⟩
    ·refine .inl ⟨M x (Mq.1 b),fun e=>?_⟩;have v:=h 9 _ x (M x (Mq.1 b));obtain⟨y,t,j,Q,_,u,_⟩:=Ka (by rw[←e];exact v.1);have b:x∈_:=b;simp only[Q] at b;have E:=R.1;have P:(s.bufs.getD a.a.toNat default).put=y::t:=j;rw[P] at E;simp only[dI,dE,dn,not_exists,not_and] at E;exact E.1 x b (by rw[e,u])
    ·rcases Mq.2 b with b|⟨b,V⟩
     ·refine .inl ⟨L x b,fun e=>?_⟩;have v:=(h 10 _ x (L x b));obtain⟨y,t,j,_,_,u,_⟩:=Ka (by rw[←e];exact v.1);have m:=h 9 a.a.toNat y (M y (by rw[j];simp));rw[←u,←e] at m;exact absurd (v.uniq m).1 (by decide)
     ·exact .inr ⟨b,V,g,N.symm⟩
   ·simp only[cO] at A;subst A;rcases dY (getBu (buA a s).depth (buA a s).data (buA a s).put (buA a s).get i (prioA d i)).2.2.2.2.2.1 0 with B|B
    ·exact B
    ·obtain⟨_,_,_,_,_,_,e⟩:=Ka B;rw[n] at e;cases e
  unfold Gt;simp only[];split
  ·rename_i n;rw[n] at H;exact H.Fq (ZF h o p rfl W) o p
  ·rename_i n;simp only[dD] at n;rw[n] at H;exact H
 ·rename_i g;have c:=C.Dz (.inl g);have F:=ok.boards;have w:a.a.toNat<s.boards.length:=by omega
  have D:∀ x,x∈(boA a s).wait→x∈AF s 12 a.a.toNat:=fun x c=>c
  refine AE.wk h o p rfl rfl rfl rfl (fun K=>?_) (fun kind k x c=>.inl ?_) (fun z A B=>?_) (fun n=>by cases n)
  ·refine mem_set K _ ?_;show 0≤(Dh _ _ _ _).2.1∧_;unfold Dh;split
   ·exact K _ (getD_mem w)
   ·exact Mr C.bytes 0
  ·rcases ME w _ kind k x c with ⟨f,b⟩|⟨rfl,rfl,b⟩
   ·refine⟨b,fun e=>?_⟩;obtain⟨y,m,j⟩:=Qv e;have m:=h 12 a.a.toNat y (D y m);rw[j] at m;have:=(h kind k x b).uniq m;exact f ⟨this.1,by omega⟩
   ·have:=YR b;refine⟨D x this.1,?_⟩;rw[this.2];simp
  ·obtain⟨y,m,j⟩:=Qv A;exact⟨12,a.a.toNat,y,D y m,j⟩
 ·rename_i g;have c:=C.Dz (.inr (.inl g));have F:=ok.boards;have w:a.a.toNat<s.boards.length:=by omega
  have H:AE i a s {s with boards:=s.boards.set a.a.toNat ⟨(boA a s).has,(boA a s).val,(lookBd (boA a s).has (boA a s).val (boA a s).wait i (prioA d i)).1⟩} (lookBd (boA a s).has (boA a s).val (boA a s).wait i (prioA d i)).2.2.1:=by
   refine AE.none h o p rfl rfl rfl rfl (fun K=>mem_set K _ (by
    have:=K _ (getD_mem (l:=s.boards) (d:=default) w);exact this)) (fun kind k x c=>?_)
   rcases ME w _ kind k x c with ⟨_,f⟩|⟨rfl,rfl,f⟩
   ·exact .inl f
   ·rcases Xj f with f|⟨f,b⟩
    ·exact .inl f
    ·exact .inr ⟨f,b,g,N.symm⟩
  unfold Gu;simp only[];split
  ·rename_i n;rw[n] at H;exact H.Fq rfl o p
  ·rename_i n;simp only[dD] at n;rw[n] at H;exact H
 ·rename_i g;have c:=C.Dz (.inr (.inr g));have F:=ok.boards;have w:a.a.toNat<s.boards.length:=by omega
  refine AE.none h o p rfl rfl rfl rfl (fun K=>mem_set K _ ?_) (fun kind k x c=>.inl ?_)
  ·show 0≤(FN _ _ _).2.1∧_;have X:=K _ (getD_mem (l:=s.boards) (d:=default) w);unfold FN;split
   ·exact X
   ·exact(show(0:Int)≤0∧(0:Int)≤255 by decide)
  ·rcases ME w _ kind k x c with ⟨_,f⟩|⟨rfl,rfl,f⟩
   ·exact f
   ·exact f
 ·rename_i g;unfold nextA;split
  ·exact AE.alone h o p (.inr rfl)
  ·exact AE.alone h o p (.inl ⟨rfl,.inr rfl,rfl⟩)
 ·exact AE.alone h o p (.inr rfl)
 ·exact AE.none h o p rfl rfl rfl rfl id (fun kind k x c=>.inl c)
end
def Ah.leave{d:Ad}{s:Ae}(h:Ah d s)(p:Int):Ah d (CX p s):=by
 refine⟨h.ok,h.procs,h.samples,by simpa[CX] using h.queues,by simpa[CX] using h.bufs,by simpa[CX] using h.boards,by simpa[CX] using h.semas,by simpa[CX] using h.events,h.mem,h.I0,h.pr,h.sa,fun x a=>?_,fun x a=>?_,fun x a=>?_,fun x a=>?_,fun x a=>?_,h.clock⟩
 all_goals (simp only[CX,dn] at a;obtain⟨y,b,rfl⟩:=a)
 ·have:=h.qu y b;exact {this with wait:=this.wait.leave p}
 ·have:=h.bu y b;exact {this with put:=this.put.leave p,get:=this.get.leave p,ID:=fun z c=>this.ID z (by simp only[AT.leave,leaveW,List.mem_filter] at c;exact c.1)}
 ·exact(h.bo y b).leave p
 ·exact(h.se y b).leave p
 ·exact(h.ev y b).leave p
def Nr(w:cQ)(D:Nat→Prop)(g:Nat)(d:Ad)(a:Hd)(s:Ae)(i:Nat)(t:Int)(h:PA w D g d a s)(ok:Ah d s)(L:∀ q,w.heap.size≤q→D q)(aY:0≤t)(aZ:t≤4294967296)(hi:i<s.procs.length):
  cT prog 42 #[G (Z ⟨g,0,O⟩),I J i,I J t] w fun e w'=>e=.returned (.tuple #[])∧PA w' D g d a (FD d i t s)∧Upd (Mut g a) w w':=by
 have hid:i<d.procs.length:=by have:=ok.procs;omega
 have aV:(i:Int)<(d.procs.length:Int):=by omega
 have aW:(i:Int)<(s.procs.length:Int):=by omega
 have am:=ok.ok.pc _ (cU hid);obtain⟨HC,aU,aC⟩:=H3 (Ph w D g d a s i h ok L) L am;clear h ok L am;go_enter func42,ntmps42;go_wp2_with (refine HC.o.mono ?_);rintro e m ⟨rfl,A,u1⟩;obtain⟨nm,v,ah,ai⟩:=A.Ay.el i hid;obtain⟨ac,cc,rfl,_,_⟩:=ai.1.open_;have aI:=A.GW (by omega);have aH:=A.Ay.cap;obtain⟨y0,y1,y2,y3,y4⟩:=RT ah;obtain⟨P1,U1⟩:=H2 A u1;clear A u1 ah ai HC;go_upto_region 2 with (fail);clear aI y0 y1 y2 y3 y4;obtain⟨n,E⟩:=ex (m.alloc (T #[.string nm,I J d.procs[i].prio,I J d.procs[i].period,I J d.procs[i].Cf,.slice ac d.procs[i].code.length cc] 68));rw[←E];have aa:Hq (Bl m n):=by
  rw[E];exact(cV _ m).alloc (cS _) _
 have H:n.heap[m.heap.size]? =Z (T #[.string nm,I J d.procs[i].prio,I J d.procs[i].period,I J d.procs[i].Cf,.slice ac d.procs[i].code.length cc] 68 (0,0)):=by
  rw[E];exact cP m _
 have Q:m.heap.size<n.heap.size:=Aa H;have u:=P1.o.below aa.o;have aj:=u.lt;have B:=u.FC (by show 0<s.procs.length;omega);have ae:=u.pr.cap;replace B:n.cell? ⟨g,10,O⟩=Z (Y (Z ⟨a.pr.b,0,O⟩) s.procs.length a.pr.c):=B;replace ae:s.procs.length≤a.pr.c:=ae;have qg:=qC B aj;have q2:=qC (show n.cell? ⟨m.heap.size,2,O⟩=_ from Cr H) Q;have q3:=qC (show n.cell? ⟨m.heap.size,3,O⟩=_ from Cr H) Q;have z:=aC.o;have X:Hq (∀ W,cT prog 70 #[I J t,I J d.procs[i].period] W fun e w'=>e=.returned (I J (afterI t d.procs[i].period))∧W=w'):=fun W=>LO W _ _ (by omega) (by omega) (by have:=z.period;omega) (by have:=z.period;omega);have V:Hq (∀ W,cT prog 70 #[I J t,I J d.procs[i].Cf] W fun e w'=>e=.returned (I J (afterI t d.procs[i].Cf))∧W=w'):=fun W=>LO W _ _ (by omega) (by omega) (by have:=z.Cf;omega) (by have:=z.Cf;omega);have H2:=HH u;obtain⟨r,R⟩:=ex (afterI t d.procs[i].period);obtain⟨p,P⟩:=ex (afterI t d.procs[i].Cf);rw[←R] at X;rw[←P] at V;have aD:Hq (FD d i t s={CX i s with procs:=(CX i s).procs.set i ⟨2,⟨0,0,[0,0,0,0]⟩,t,r,p,0,0⟩}):=by
  show _=_;simp only[FD];rw[getD_eq hid,R,P]
 clear E H u B z R P aj Q aH;refine AS 18 [17] [] [(10,fun v _=>v=I J p),(14,fun v _=>v=I J r)] ⟨Ch,Ch,trivial⟩ ?_
 iterate 10 (refine An rfl rfl rfl ?_;intro K hK;go_big_quiet_op;go_big_quiet_on)
 refine A9 rfl rfl (fun w' y hA=>?_) ?_
 ·refine AD (f:=70) (al:=[I J t,I J d.procs[i].Cf]) rfl rfl rfl Mg ?_;exact(V.o w').mono fun e w2 h=>⟨_,h.1,h.2 ▸ cV _ _,rfl⟩
 intro v w' y S;obtain rfl:=S;clear y w';simp only[Au,cE,cG,cF]
 iterate 3 (refine An rfl rfl rfl ?_;intro K hK;go_big_quiet_op;go_big_quiet_on)
 refine A9 rfl rfl (fun w' y hA=>?_) ?_
 ·refine AD (f:=70) (al:=[I J t,I J d.procs[i].period]) rfl rfl rfl Mg ?_;exact(X.o w').mono fun e w2 h=>⟨_,h.1,h.2 ▸ cV _ _,rfl⟩
 intro v w' y S;obtain rfl:=S;clear y w';simp only[Au,cE,cG,cF]
 iterate 2 (refine An rfl rfl rfl ?_;intro K hK;go_big_quiet_op;go_big_quiet_on)
 refine AH rfl ?_;refine AR ?_;intro j N aM;clear aM qg q2 q3;have C:=H2.o.below N;have l:∀ o,j.frozen? ⟨a.pr.b,o,O⟩=false:=C.pr.frozen (by show 0<s.procs.length;omega);obtain⟨q0,q1,q2,q3,aL,k⟩:=C.pr.el i hi;have z0:j.cell? ⟨a.pr.b,i*12,O⟩=Z _:=k 0 _ rfl;have f0:=l (i*12);have z1:j.cell? ⟨a.pr.b,i*12+1,O⟩=Z _:=k 1 _ rfl;have f1:=l (i*12+1);have z2:j.cell? ⟨a.pr.b,i*12+2,O⟩=Z _:=k 2 _ rfl;have f2:=l (i*12+2);have z3:j.cell? ⟨a.pr.b,i*12+3,O⟩=Z _:=k 3 _ rfl;have f3:=l (i*12+3);have z4:j.cell? ⟨a.pr.b,i*12+4,O⟩=Z _:=k 4 _ rfl;have f4:=l (i*12+4);have z5:j.cell? ⟨a.pr.b,i*12+5,O⟩=Z _:=k 5 _ rfl;have f5:=l (i*12+5);have z6:j.cell? ⟨a.pr.b,i*12+6,O⟩=Z _:=k 6 _ rfl;have f6:=l (i*12+6);have z7:j.cell? ⟨a.pr.b,i*12+7,O⟩=Z _:=k 7 _ rfl;have f7:=l (i*12+7);have z8:j.cell? ⟨a.pr.b,i*12+8,O⟩=Z _:=k 8 _ rfl;have f8:=l (i*12+8);have z9:j.cell? ⟨a.pr.b,i*12+9,O⟩=Z _:=k 9 _ rfl;have f9:=l (i*12+9);have ap:j.cell? ⟨a.pr.b,i*12+10,O⟩=Z _:=k 10 _ rfl;have f10:=l (i*12+10);have aq:j.cell? ⟨a.pr.b,i*12+11,O⟩=Z _:=k 11 _ rfl;have f11:=l (i*12+11);have F:=C.FY hi [(0,I U 2),(1,I J 0),(2,I J 0),(3,I U 0),(4,I U 0),(5,I U 0),(6,I U 0),(7,I J t),(8,I J r),(9,I J p),(10,I U 0),(11,I J 0)] rfl k (x:=⟨2,⟨0,0,[0,0,0,0]⟩,t,r,p,0,0⟩) fun w' aK aX=>⟨0,0,0,0,rfl,aK⟩;obtain⟨W3,M⟩:=ex ((((((((((((j.setCell ⟨a.pr.b,i*12,O⟩ (I U 2)).setCell ⟨a.pr.b,i*12+1,O⟩ (I J 0)).setCell ⟨a.pr.b,i*12+2,O⟩ (I J 0)).setCell ⟨a.pr.b,i*12+3,O⟩ (I U 0)).setCell ⟨a.pr.b,i*12+4,O⟩ (I U 0)).setCell ⟨a.pr.b,i*12+5,O⟩ (I U 0)).setCell ⟨a.pr.b,i*12+6,O⟩ (I U 0)).setCell ⟨a.pr.b,i*12+7,O⟩ (I J t)).setCell ⟨a.pr.b,i*12+8,O⟩ (I J r)).setCell ⟨a.pr.b,i*12+9,O⟩ (I J p)).setCell ⟨a.pr.b,i*12+10,O⟩ (I U 0)).setCell ⟨a.pr.b,i*12+11,O⟩ (I J 0));refine AI (w':=W3) (by rw[M];simp[execOp,go_sem,z0,f0,z1,f1,z2,f2,z3,f3,z4,f4,z5,f5,z6,f6,z7,f7,z8,f8,z9,f9,ap,f10,aq,f11]) ?_;unfold A7;have ag:W3=setsAt j a.pr.b (i*12) [(0,I U 2),(1,I J 0),(2,I J 0),(3,I U 0),(4,I U 0),(5,I U 0),(6,I U 0),(7,I J t),(8,I J r),(9,I J p),(10,I U 0),(11,I J 0)]:=M;rw[←ag] at F;have aB:=HH F.1;have aE:Hq (Upd (Mut g a) w W3):=((U1.o.trans (Upd.below aa.o)).trans (Upd.below N)).trans F.2;clear M ag F k aL l C N z0 f0 z1 f1 z2 f2 z3 f3 z4 f4 z5 f5 z6 f6 z7 f7 z8 f8 z9 f9 ap f10 aq f11;go_wp2_with fail
 go_end0
 rw[aD.o];exact⟨rfl,aB.o,aE.o⟩
def Ya(w:cQ)(D:Nat→Prop)(g:Nat)(d:Ad)(f:Hd)(s:Ae)(q:Nat)(h:PA w D g d f s)(ok:Ah d s)(b:w.heap[q]? =Z (T #[G (Z ⟨g,0,O⟩)] 29 (0,0)))(i:Nat)(a:i<s.procs.length):
  cT prog 73 #[I J i,G (Z ⟨q,0,O⟩)] w fun e w'=>e=.returned (.bool (decide ((s.procs.getD i default).status=2)))∧Bl w w':=by
 have B:(i:Int)<(s.procs.length:Int):=by omega
 have z:=h.FC (by omega);have cap:=h.pr.cap;obtain⟨C,E,r2,r3,j,F,k,n,p,r,t,u,v,x,y,l,m⟩:=h.Jl a;have A:w.cell? ⟨q,0,O⟩=Z (G (Z ⟨g,0,O⟩)):=Cr b;rw[getD_eq a];clear h ok j k n p r t u v x y l m b;have c:Hq ((s.procs[i].status==2)=decide (s.procs[i].status=2)):=rfl;go_enter func73,ntmps73;go_wp2_with fail;go_ret;exact⟨A8 c.o,cV _ _⟩
def Yb(w:cQ)(D:Nat→Prop)(g:Nat)(d:Ad)(f:Hd)(s:Ae)(q:Nat)(h:PA w D g d f s)(ok:Ah d s)(v:w.heap[q]? =Z (T #[G (Z ⟨g,0,O⟩)] 29 (0,0)))(i j:Nat)(H:i<s.procs.length)(L:j<s.procs.length):
  cT prog 74 #[I J i,I J j,G (Z ⟨q,0,O⟩)] w fun e w'=>e=.returned (.bool (EL d s i j))∧Bl w w':=by
 have al:(i:Int)<(s.procs.length:Int):=by omega
 have an:(j:Int)<(s.procs.length:Int):=by omega
 have hid:i<d.procs.length:=by have:=ok.procs;omega
 have M:j<d.procs.length:=by have:=ok.procs;omega
 have ak:(i:Int)<(d.procs.length:Int):=by omega
 have am:(j:Int)<(d.procs.length:Int):=by omega
 have z:=h.FC (by omega);have cap:=h.pr.cap;have y:=h.GW (by omega);have aj:=h.Ay.cap;have F:=h.lt;have N:=h.pr.lt;have E:=h.Ay.lt;obtain⟨_,_,_,_,_,_,_,_,_,_,_,_,x7,_⟩:=h.Jl H;obtain⟨_,_,_,_,_,_,_,_,_,_,_,_,y7,_⟩:=h.Jl L;obtain⟨_,_,B,_⟩:=h.Ay.el i hid;obtain⟨_,_,C,_⟩:=h.Ay.el j M;have A:w.cell? ⟨q,0,O⟩=Z (G (Z ⟨g,0,O⟩)):=Cr v;have ah:q<w.heap.size:=Aa v;have x1:w.cell? ⟨f.Ay.b,i*5+1,O⟩=Z (I J d.procs[i].prio):=B 1 _ rfl;have y1:w.cell? ⟨f.Ay.b,j*5+1,O⟩=Z (I J d.procs[j].prio):=C 1 _ rfl;have m:Hq (EL d s i j=if d.procs[i].prio≠d.procs[j].prio then decide (d.procs[j].prio<d.procs[i].prio) else decide (s.procs[i].since<s.procs[j].since)):=by
  show EL d s i j=_;rw[EL,getD_eq hid,getD_eq M,getD_eq H,getD_eq L]
 have P:=qC A ah;have q1:=qC y F;have q2:=qC z F;have q3:=qC x1 E;have q4:=qC y1 E;have q5:=qC x7 N;have q6:=qC y7 N;clear h ok z y x7 y7 x1 y1 A v B C;generalize d.procs[i].prio=n at*;generalize d.procs[j].prio=r at*;generalize s.procs[i].since=X at*;generalize s.procs[j].since=sj at*;go_enter func74,ntmps74;go_upto_region 1 with (fail);refine BQ 20 [] trivial ?_
 iterate 20 (refine AK rfl ?_;intro K hK;go_big_quiet_op;go_big_quiet_on)
 refine BN ?_;intro l a x;simp only[cW,da,db];have t:=HH a;have R:∀ p:Ak l,p.W.cell? ⟨g,10,O⟩=Z (Y (Z ⟨f.pr.b,0,O⟩) s.procs.length f.pr.c):=fun p=>q2 ⟨p.W,a.trans (p.h.mono a.size)⟩;have Q:∀ p:Ak l,p.W.cell? ⟨q,0,O⟩=Z (G (Z ⟨g,0,O⟩)):=fun p=>P ⟨p.W,a.trans (p.h.mono a.size)⟩;have S:∀ p:Ak l,p.W.cell? ⟨f.pr.b,i*12+7,O⟩=Z (I J X):=fun p=>q5 ⟨p.W,a.trans (p.h.mono a.size)⟩;have V:∀ p:Ak l,p.W.cell? ⟨f.pr.b,j*12+7,O⟩=Z (I J sj):=fun p=>q6 ⟨p.W,a.trans (p.h.mono a.size)⟩;clear x P q1 q2 q3 q4 q5 q6 a;by_cases k:n=r
 ·have ag:(n==r)=true:=by simp[k]
  have u:Hq (EL d s i j=decide (X<sj)):=by
   show _=_;rw[m.o,if_neg (by simp[k])]
  clear k m;go_upto_region 4 with (fail);refine BQ 20 [] trivial ?_
  iterate 20 (refine AK rfl ?_;intro K hK;go_big_quiet_op;go_big_quiet_on)
  refine BN ?_;intro l a x;simp only[cW,da,db];have af:=HH a;clear x a Q R S V;go_wp2_with fail;go_ret;exact⟨A8 u.o.symm,t.o.trans (af.o.mono t.o.size)⟩
 ·have ag:(n==r)=false:=by simp[k]
  have u:Hq (EL d s i j=decide (r<n)):=by
   show _=_;rw[m.o,if_pos k]
  clear k m Q R S V;go_wp2_with fail;go_ret;exact⟨A8 u.o.symm,t.o⟩
def MW{d:Ad}{s:Ae}:∀ k:Nat,-1≤(dG k).foldl (CL d s) (-1)∧(dG k).foldl (CL d s) (-1)<(k:Int)
 |0=>(show(-1:Int)≤ -1∧(-1:Int)<0 by decide)
 |k+1=>by
  have h:=MW (d:=d) (s:=s) k;rw[dS,dN];simp only[List.foldl_cons,List.foldl_nil];rw[CL];split<;>omega
def Uy(w:cQ)(D:Nat→Prop)(g:Nat)(d:Ad)(C:Hd)(s:Ae)(q:Nat)(h:PA w D g d C s)(ok:Ah d s)(r:w.heap[q]? =Z (T #[G (Z ⟨g,0,O⟩)] 29 (0,0)))(va:Option dv)(vc:Nat):
  cT prog 72 #[Y va s.procs.length vc,.func (.func 73) #[] #[G (Z ⟨q,0,O⟩)],.func (.func 74) #[] #[G (Z ⟨q,0,O⟩)]] w fun e w'=>e=.returned (I J (Hw d s))∧Bl w w':=by
 have h6:s.procs.length≤6:=by have:=ok.procs;have:=ok.ok.procs;omega
 have K:Hq (∀ W,Bl w W→∀ i,i<s.procs.length→cT prog 73 #[I J i,G (Z ⟨q,0,O⟩)] W fun e w'=>e=.returned (.bool (decide ((s.procs.getD i default).status=2)))∧Bl W w'):=fun W b i F=>Ya W D g d C s q (h.below b) ok ((b.block _ (Aa r)).trans r) i F;have S:Hq (∀ W,Bl w W→∀ i j,i<s.procs.length→j<s.procs.length→cT prog 74 #[I J i,I J j,G (Z ⟨q,0,O⟩)] W fun e w'=>e=.returned (.bool (EL d s i j))∧Bl W w'):=fun W b i j F H=>Yb W D g d C s q (h.below b) ok ((b.block _ (Aa r)).trans r) i j F H;clear h ok r;go_enter func72,ntmps72;go_wp2_with fail
 go_loopw [7,8,11] (fun vb _ v wr=>∃ k:Nat,k≤s.procs.length∧v=I J k∧∃ a,vb=I J a∧Hq (a=(dG k).foldl (CL d s) (-1)∧Bl w wr)) (fun _ _ v _=>s.procs.length-(dl v).toNat)
 case atStart=>exact⟨0,dd _,rfl,-1,rfl,rfl,cV _ _⟩
 case round=>
  obtain⟨k,ag,rfl,a,rfl,A⟩:=hrel;by_cases X:k<s.procs.length
  ·have ah:(k:Int)<(s.procs.length:Int):=by omega
   obtain⟨B,P⟩:=A.o;have N:=MW (d:=d) (s:=s) k;rw[←B] at N;obtain⟨ae,af⟩:=N;have Q:(dG (k+1)).foldl (CL d s) (-1)=CL d s a k:=by
    rw[dS,dN,←B];rfl
   obtain⟨x,c,z⟩:=H3 Q P X;clear B Q A P;by_cases t:(s.procs.getD k default).status=2
   ·have p:=HH t;have u:Hq (∀ W,Bl w W→cT prog 73 #[I J k,G (Z ⟨q,0,O⟩)] W fun e w'=>e=.returned (.bool true)∧Bl W w'):=fun W b=>by
     have:=K.o W b k z.o;rwa [decide_eq_true p.o] at this
    clear t;by_cases y:a<0
    ·have n:Hq (CL d s a k=(k:Int)):=by
      show CL d s a k=_;rw[CL,if_pos ⟨p.o,.inl y⟩]
     go_wp2_with fail;refine(u.o _ c.o).mono ?_;rintro e R ⟨rfl,f⟩;have l:=HH (c.o.trans (f.mono c.o.size));clear f;go_wp2_with fail
     go_roundw
     case rel=>exact⟨k+1,by omega,by go_num,_,rfl,by rw[x.o,n.o],l.o⟩
     case measure=>simp[dl];omega
    ·obtain⟨j,rfl⟩:∃ j:Nat,a=(j:Int):=⟨a.toNat,by omega⟩;have ai:¬(j:Int)<0:=y;have H:j<s.procs.length:=by omega
     have n:Hq (CL d s (j:Int) k=if EL d s k j then(k:Int) else(j:Int)):=by
      show CL d s (j:Int) k=_;rw[CL,dr];by_cases m:EL d s k j=true
      ·rw[if_pos ⟨p.o,.inr m⟩,if_pos m]
      ·rw[if_neg (fun E=>E.2.elim y m),if_neg m]
     have V:Hq (∀ W,Bl w W→cT prog 74 #[I J k,I J j,G (Z ⟨q,0,O⟩)] W fun e w'=>e=.returned (.bool (EL d s k j))∧Bl W w'):=fun W b=>S.o W b k j z.o H
     clear y;go_wp2_with fail;refine(u.o _ c.o).mono ?_;rintro e R ⟨rfl,f⟩;have l:=HH (c.o.trans (f.mono c.o.size));clear f;go_wp2_with fail;refine(V.o _ l.o).mono ?_;rintro e w3 ⟨rfl,M⟩;have L:=HH (l.o.trans (M.mono l.o.size));clear M;cases m:EL d s k j with
     |true=>
      go_wp2_with fail
      go_roundw
      case rel=>exact⟨k+1,by omega,by go_num,_,rfl,by rw[x.o,n.o,m];rfl,L.o⟩
      case measure=>simp[dl];omega
     |false=>
      go_wp2_with fail
      go_roundw
      case rel=>exact⟨k+1,by omega,by go_num,_,rfl,by rw[x.o,n.o,m];rfl,L.o⟩
      case measure=>simp[dl];omega
   ·have p:=HH t;have u:Hq (∀ W,Bl w W→cT prog 73 #[I J k,G (Z ⟨q,0,O⟩)] W fun e w'=>e=.returned (.bool false)∧Bl W w'):=fun W b=>by
     have:=K.o W b k z.o;rwa [decide_eq_false p.o] at this
    have n:Hq (CL d s a k=a):=by
     show CL d s a k=_;rw[CL,if_neg (fun E=>t E.1)]
    clear t;go_wp2_with fail;refine(u.o _ c.o).mono ?_;rintro e R ⟨rfl,f⟩;have l:=HH (c.o.trans (f.mono c.o.size));clear f;go_wp2_with fail
    go_roundw
    case rel=>exact⟨k+1,by omega,by go_num,_,rfl,by rw[x.o,n.o],l.o⟩
    case measure=>simp[dl];omega
  ·obtain rfl:k=s.procs.length:=by omega
   go_wp2_with fail;go_ret;exact⟨by rw[A.o.1];rfl,A.o.2⟩
def Yc(w:cQ)(D:Nat→Prop)(g:Nat)(d:Ad)(b:Hd)(s:Ae)(h:PA w D g d b s)(ok:Ah d s):
  cT prog 45 #[G (Z ⟨g,0,O⟩)] w fun e w'=>e=.returned (I J (Hw d s))∧Bl w w':=by
 have f:Bl w (w.alloc (T #[G (Z ⟨g,0,O⟩)] 29)):=(cV _ w).alloc (cS _) _;obtain⟨i,k⟩:=H2 (Uy (w.alloc (T #[G (Z ⟨g,0,O⟩)] 29)) D g d b s w.heap.size (h.below f) ok (cP w _) b.pr.a b.pr.c) f;have n:=h.lt;have m:w.cell? ⟨g,10,O⟩=Z (Y b.pr.a s.procs.length b.pr.c):=h.cell 10;clear h ok f;go_enter func45,ntmps45;go_wp2_with fail;refine i.o.mono ?_;rintro e p ⟨rfl,j⟩;have l:=HH (k.o.trans (j.mono (by simp)));clear j i;go_wp2_with fail;go_ret;exact⟨rfl,l.o⟩
section
variable {d:Ad} {s:Ae} {i:Nat} {now t:Int}
def OH{α:Type}(f:Nat→α→α)(l:List α)(k:Nat)(e:α):(l.mapIdx f).getD k e=if h:k<l.length then f k l[k] else e:=by
 rw[cR,List.getElem?_mapIdx];split
 ·rename_i h;rw[cZ h];rfl
 ·rename_i h;rw[di (by omega)];rfl
def Ah.clk(h:Ah d s){c:Int}(a:0≤c)(b:c≤1073741825):Ah d {s with clock:=c}:={h with clock:=⟨a,b⟩}
def Ah.mode(h:Ah d s)(m:Int):Ah d {s with mode:=m}:={h with}
def Rv{a n:Int}(b:-1≤a)(c:a≤1073741824)(e:0≤n)(f:n≤1073741824):-1≤afterI a n∧afterI a n≤4294967296:=by
 unfold afterI;split<;>omega
def D5.rel{x:BA}(ok:Ah d s)(f:i<d.procs.length)(h:D5 x)(c:0≤now)(j:now≤1073741824):D5 (Dg d now i x):=by
 unfold Dg;split
 ·rename_i k;have b:=ok.ok.pc _ (getD_mem (d:=default) f);have g:=h.release;have e:=h.ready c (show now≤4294967296 by omega);have a:=b.Cf;have l:=b.period;exact {e with release:=⟨by show-1≤x.release+_;omega,by show x.release+_≤_;omega⟩,deadline:=Rv g.1 (by omega) a.1 a.2}
 ·exact h
def Ah.release(h:Ah d s)(b:0≤now)(c:now≤1073741824):Ah d (Dl d now s):=
 have f:∀ x∈(Dl d now s).procs,D5 x:=fun x a=>by
  simp only[Dl,List.mem_mapIdx] at a;obtain⟨k,e,rfl⟩:=a;exact D5.rel h (by have:=h.procs;omega) (h.pr _ (cU e)) b c
 {h with procs:=(by simpa[Dl] using h.procs),pr:=f}
def Ah.late(h:Ah d s):Ah d (CP now s).1:=
 have b:∀ x∈(CP now s).1.procs,D5 x:=fun x a=>by
  simp only[CP,dn] at a;obtain⟨y,c,rfl⟩:=a;have:=h.pr y c;unfold CK;split
  ·exact {this with deadline:=(show(-1:Int)≤ -1∧(-1:Int)≤4294967296 by decide)}
  ·exact this
 {h with procs:=(by simpa[CP] using h.procs),pr:=b}
def Ah.start(h:Ah d s)(c:i<d.procs.length)(b:0≤t)(f:t≤1073741825):Ah d (FD d i t s):=by
 have a:=h.ok.pc _ (getD_mem (d:=default) c);have g:=a.Cf;have j:=a.period;refine(h.leave i).G4 i ⟨rfl,by intro z e;simp at e;omega,Ji.pc,Ji.left,⟨b,by show t≤_;omega⟩,?_,?_⟩
 ·show-1≤afterI t _∧afterI t _≤_;unfold afterI;split<;>omega
 ·show-1≤afterI t _∧afterI t _≤_;unfold afterI;split<;>omega
def Ah.Jx(h:Ah d s)(a:0≤t)(b:t≤1073741825):∀ k,k≤d.procs.length→Ah d (FE d t k s)
 |0,_=>h
 |k+1,c=>(Ah.Jx h a b k (by omega)).start (by omega) a b
def Q5:(FD d i t s).procs.length=s.procs.length:=by simp[FD,CX]
def Lz:∀ k,(FE d t k s).procs.length=s.procs.length
 |0=>rfl
 |k+1=>by rw[FE,Q5,Lz k]
def Qn(k:Nat):((Dl d now s).procs.getD k default).s=(s.procs.getD k default).s:=by
 simp only[Dl,OH];split
 ·rename_i h;rw[getD_eq h];unfold Dg;split<;>rfl
 ·rename_i h;rw[cR,di (by omega)];rfl
def getD_map'{α:Type}(f:α→α)(l:List α)(k:Nat)(e:α):(l.map f).getD k e=if h:k<l.length then f l[k] else e:=by
 rw[cR,List.getElem?_map];split
 ·rename_i h;rw[cZ h];rfl
 ·rename_i h;rw[di (by omega)];rfl
def Pf(k:Nat):(((CP now s).1).procs.getD k default).s=(s.procs.getD k default).s:=by
 simp only[CP,getD_map'];split
 ·rename_i h;rw[getD_eq h];unfold CK;split<;>rfl
 ·rename_i h;rw[cR,di (by omega)];rfl
def PK(d:Ad)(s:Ae):-1≤Hw d s∧Hw d s<(s.procs.length:Int):=MW _
end
def A5(b a n:Int):Bool:=decide (b≤n) && decide (n≤a)
@[reducible] def Mb(a b:Nat):dm:=.func (.func 166) #[] #[G (Z ⟨a,0,O⟩),G (Z ⟨b,0,O⟩)]
def ZD(d h n:Int)(a b:Nat)(w:cQ)(i:w.cell? ⟨a,0,O⟩=Z (I J d))(j:w.cell? ⟨b,0,O⟩=Z (I J h)):
  cT prog 166 #[I J n,G (Z ⟨a,0,O⟩),G (Z ⟨b,0,O⟩)] w fun e w'=>e=.returned (.bool (A5 d h n))∧w=w':=by
 by_cases g:d≤n
 ·have f:=decide_eq_true g;have c:=HH f;go_enter func166,ntmps166;go_wp2;go_ret;exact⟨A8 (by unfold A5;rw[c.o];rfl),rfl⟩
 ·have f:=decide_eq_false g;have c:=HH f;go_enter func166,ntmps166;go_wp2;go_ret;exact⟨A8 (by unfold A5;rw[c.o];rfl),rfl⟩
def ZE(b a:Int)(w:cQ):
  cT prog 128 #[I J b,I J a] w fun e w'=>e=.returned (Mb w.heap.size (w.heap.size+1))∧w'=(w.alloc (T #[I J b] 3)).alloc (T #[I J a] 3):=by
 go_enter func128,ntmps128;go_wp2;go_ret;exact⟨by simp[Mb],rfl⟩
def Et(d c n:Int)(a b:Nat)(f:Bool){w:cQ}(i:A5 d c n=f)(g:w.cell? ⟨a,0,O⟩=Z (I J d))(h:w.cell? ⟨b,0,O⟩=Z (I J c)):
  cT prog 166 #[I J n,G (Z ⟨a,0,O⟩),G (Z ⟨b,0,O⟩)] w fun e w'=>e=.returned (.bool f)∧w=w':=i ▸ ZD d c n a b w g h
def BX(w:cQ)(a:Nat)(n:Int):Prop:=w.heap[a]? =Z (T #[I J n] 3 (0,0))
def BX.cell{w:cQ}{a:Nat}{n:Int}(h:BX w a n):w.cell? ⟨a,0,O⟩=Z (I J n):=Cr h
def BX.below{w w':cQ}{a:Nat}{n:Int}(h:BX w a n)(b:Bl w w'):BX w' a n:=(b.block _ (Aa h)).trans h
def G7(c d:Int)(w:cQ):
  cT prog 128 #[I J c,I J d] w fun e w'=>∃ a b,e=.returned (Mb a b)∧Bl w w'∧BX w' a c∧BX w' b d:=by
 refine(ZE c d w).mono ?_;rintro e w' ⟨rfl,rfl⟩;refine⟨_,_,rfl,((cV _ _).alloc (cS _) _).alloc (by simp) _,?_,?_⟩
 ·exact(((cV _ _).alloc (cS _) _:Below (w.alloc (T #[I J c] 3)).heap.size _ _).block _ (by simp)).trans (cP _ _)
 ·have:=cP (w.alloc (T #[I J c] 3)) (T #[I J d] 3);simpa[BX] using this
def Zq(nm:ByteArray)(k:Int)(o:Bool)(s d r g:Int)(K:Bool)(vq:dm)(q:List Int)(w:cQ)(h:Af U w 0 vq q)(aJ:q.length≤100000):
  cT prog 96 #[.agg #[.string nm,I U k,.bool o,I J s,I J d,I J r,vq,I J g,.bool K]] w fun e w'=>e=.returned (.bool (DZ ⟨k,o,s,d,r⟩ ⟨q,g,K⟩))∧Bl w w':=by
 obtain⟨aq,cq,rfl,aQ,aR,aS⟩:=h.open_;clear aQ aR aS h;go_enter func96,ntmps96;go_upto_region 2 with (first|(go_at_call 128;refine(G7 _ _ _).mono ?_;rintro e Q ⟨t0,t1,rfl,ay,aK,aL⟩));have aX:=HH aJ;have aA:Q.heap[w.heap.size]? =Z (T #[.string nm,I U k,.bool o,I J s,I J d,I J r,Y aq q.length cq,I J g,.bool K] 165 (0,0)):=(ay.block _ (by simp)).trans (cP _ _);have L:Hq (Bl w Q):=((cV _ w).alloc (cS _) _).trans (ay.mono (by simp));have an:=Aa aA;obtain⟨M,W,X⟩:=H3 aA aK aL;clear aA ay aK aL aJ;obtain⟨-,c1,-,c3,c4,c5,c6,c7,c8⟩:=r9 M.o;by_cases hk:k=1
 rotate_left
 ·have q0:(k !=1)=true:=by simp[hk]
  have E0:=HH hk
  go_quiet (fail)
  go_wp2;go_ret;refine⟨A8 ?_,?_⟩
  ·simp[DZ,E0.o]
  ·exact JO L.o _
 have q0:(k !=1)=false:=by simp[hk]
 have E0:=HH hk;clear hk;by_cases hd:d=0
 rotate_left
 ·have q1:(d !=0)=true:=by simp[hd]
  have E1:=HH hd
  go_quiet (fail)
  go_wp2;go_ret;refine⟨A8 ?_,?_⟩
  ·simp[DZ,E1.o]
  ·exact JO L.o _
 have q1:(d !=0)=false:=by simp[hd]
 have E1:=HH hd;clear hd;have EQ:Hq (DZ ⟨k,o,s,d,r⟩ ⟨q,g,K⟩=(A5 1 64 s && A5 0 1073741824 r && (if K then A5 1 s q.length && A5 0 1073741824 g else(q.length==0 && g==0)))):=by
  show DZ ⟨k,o,s,d,r⟩ ⟨q,g,K⟩=_;simp[DZ,A5,E0.o,E1.o]
 go_cut [30] from 5 to 30 (fun aV wx=>aV=.bool (!(A5 1 64 s && A5 0 1073741824 r))∧Bl Q wx)
 case first=>
  cases hs:A5 1 64 s with
  |false=>
   have t:=HH hs
   first|go_region_with (first|(go_at_call 128;refine(G7 _ _ _).mono ?_;rintro e n ⟨a3,b3,rfl,b,v,z⟩;replace b:Bl Q n:=(by first|exact b|exact EM b);have j:=(b.block _ an).trans M.o;have aM:n.cell? ⟨w.heap.size,3,O⟩=Z (I J s):=Cr j;have aN:n.cell? ⟨w.heap.size,5,O⟩=Z (I J r):=Cr j;have u:=HH b;have S:=HH v;have V:=HH z;have aj:=HH (W.o.below b);have ak:=HH (X.o.below b);clear b v z j)|(first|(go_at_call_of 166 (cY (Z ⟨a3,0,O⟩));refine(Et _ _ _ _ _ _ hs (by exact S.o.cell) (by exact V.o.cell)).mono ?_;rintro e i ⟨rfl,rfl⟩)))|fail
   all_goals go_wp2_with fail
   all_goals go_meet
   all_goals exact⟨by rw[t.o];rfl,by first|exact u.o|exact u.o.drew⟩
  |true=>
   have t:=HH hs;cases hr:A5 0 1073741824 r with
   |false=>
    have ER:=HH hr
    first|go_region_with (first|(go_at_call 128;refine(G7 _ _ _).mono ?_;rintro e n ⟨a3,b3,rfl,b,v,z⟩;replace b:Bl Q n:=(by first|exact b|exact EM b);have j:=(b.block _ an).trans M.o;have aM:n.cell? ⟨w.heap.size,3,O⟩=Z (I J s):=Cr j;have aN:n.cell? ⟨w.heap.size,5,O⟩=Z (I J r):=Cr j;have u:=HH b;have S:=HH v;have V:=HH z;have aj:=HH (W.o.below b);have ak:=HH (X.o.below b);clear b v z j)|(first|(go_at_call_of 166 (cY (Z ⟨a3,0,O⟩));refine(Et _ _ _ _ _ _ hs (by exact S.o.cell) (by exact V.o.cell)).mono ?_;rintro e i ⟨rfl,rfl⟩)|(go_at_call_of 166 (cY (Z ⟨t0,0,O⟩));refine(Et _ _ _ _ _ _ hr (by exact aj.o.cell) (by exact ak.o.cell)).mono ?_;rintro e i ⟨rfl,rfl⟩)))|fail
    all_goals go_wp2_with fail
    all_goals go_meet
    all_goals exact⟨by rw[t.o,ER.o];rfl,by first|exact u.o|exact u.o.drew⟩
   |true=>
    have ER:=HH hr
    first|go_region_with (first|(go_at_call 128;refine(G7 _ _ _).mono ?_;rintro e n ⟨a3,b3,rfl,b,v,z⟩;replace b:Bl Q n:=(by first|exact b|exact EM b);have j:=(b.block _ an).trans M.o;have aM:n.cell? ⟨w.heap.size,3,O⟩=Z (I J s):=Cr j;have aN:n.cell? ⟨w.heap.size,5,O⟩=Z (I J r):=Cr j;have u:=HH b;have S:=HH v;have V:=HH z;have aj:=HH (W.o.below b);have ak:=HH (X.o.below b);clear b v z j)|(first|(go_at_call_of 166 (cY (Z ⟨a3,0,O⟩));refine(Et _ _ _ _ _ _ hs (by exact S.o.cell) (by exact V.o.cell)).mono ?_;rintro e i ⟨rfl,rfl⟩)|(go_at_call_of 166 (cY (Z ⟨t0,0,O⟩));refine(Et _ _ _ _ _ _ hr (by exact aj.o.cell) (by exact ak.o.cell)).mono ?_;rintro e i ⟨rfl,rfl⟩)))|fail
    all_goals go_wp2_with fail
    all_goals go_meet
    all_goals exact⟨by rw[t.o,ER.o];rfl,by first|exact u.o|exact u.o.drew⟩
 case rest=>
  obtain⟨rfl,P⟩:=hcut;cases az:(A5 1 64 s && A5 0 1073741824 r) with
  |false=>
   go_wp2;go_ret;exact⟨A8 (by rw[EQ.o,az];rfl),L.o.trans (P.mono L.o.size)⟩
  |true=>
   have aB:=(P.block _ an).trans M.o;have ao:=Aa aB;have aa:=HH aB;have p:Hq (Bl w wc):=L.o.trans (P.mono L.o.size);obtain⟨al,am,t⟩:=H3 (W.o.below P) (X.o.below P) az;clear az aB P c1 c3 c4 c5 c6 c7 c8 q0 q1 W X M;obtain⟨-,-,-,c3,-,-,c6,c7,c8⟩:=r9 aa.o;cases K with
   |false=>
    by_cases ap:q.length=0
    ·have g0:((q.length:Int)==0)=true:=by simp[ap]
     go_wp2;go_ret;refine⟨A8 ?_,p.o⟩;rw[EQ.o,t.o];simp[ap]
    ·have g0:((q.length:Int)==0)=false:=by simpa using ap
     go_wp2;go_ret;refine⟨A8 ?_,p.o⟩;rw[EQ.o,t.o];simp[ap]
   |true=>
    have EV:Hq (∀ x y:Bool,A5 1 s q.length=x→A5 0 1073741824 g=y→(x && y)=DZ ⟨k,o,s,d,r⟩ ⟨q,g,true⟩):=fun x y hx hy=>by rw[EQ.o,t.o,hx,hy];rfl
    go_upto_region 6 with (fail);cases N:A5 0 1073741824 g with
    |false=>
     have R:=HH N;cases h:A5 1 s q.length with
     |false=>
      have A:=HH h
      first|go_region_with (first|(go_at_call 128;refine(G7 _ _ _).mono ?_;rintro e f ⟨H,b5,rfl,a,l,m⟩;replace a:Bl wc f:=(by first|exact a|exact EM a);have c:=(a.block _ ao).trans aa.o;have aC:f.cell? ⟨w.heap.size,3,O⟩=Z (I J s):=Cr c;have aD:f.cell? ⟨w.heap.size,6,O⟩=Z (Y aq q.length cq):=Cr c;have aE:f.cell? ⟨w.heap.size,7,O⟩=Z (I J g):=Cr c;have C:=HH a;have B:=HH l;have D:=HH m;have E:=HH (al.o.below a);have F:=HH (am.o.below a);clear a l m c)|(first|(go_at_call_of 166 (cY (Z ⟨H,0,O⟩));refine(Et _ _ _ _ _ _ h (by exact B.o.cell) (by exact D.o.cell)).mono ?_;rintro e i ⟨rfl,rfl⟩)|(go_at_call_of 166 (cY (Z ⟨t0,0,O⟩));refine(Et _ _ _ _ _ _ N (by exact E.o.cell) (by exact F.o.cell)).mono ?_;rintro e i ⟨rfl,rfl⟩)))|fail
      all_goals go_wp2_with fail
      all_goals go_ret
      all_goals exact⟨A8 (EV.o false false A.o R.o),p.o.trans (C.o.mono p.o.size)⟩
     |true=>
      have A:=HH h
      first|go_region_with (first|(go_at_call 128;refine(G7 _ _ _).mono ?_;rintro e f ⟨H,b5,rfl,a,l,m⟩;replace a:Bl wc f:=(by first|exact a|exact EM a);have c:=(a.block _ ao).trans aa.o;have aC:f.cell? ⟨w.heap.size,3,O⟩=Z (I J s):=Cr c;have aD:f.cell? ⟨w.heap.size,6,O⟩=Z (Y aq q.length cq):=Cr c;have aE:f.cell? ⟨w.heap.size,7,O⟩=Z (I J g):=Cr c;have C:=HH a;have B:=HH l;have D:=HH m;have E:=HH (al.o.below a);have F:=HH (am.o.below a);clear a l m c)|(first|(go_at_call_of 166 (cY (Z ⟨H,0,O⟩));refine(Et _ _ _ _ _ _ h (by exact B.o.cell) (by exact D.o.cell)).mono ?_;rintro e i ⟨rfl,rfl⟩)|(go_at_call_of 166 (cY (Z ⟨t0,0,O⟩));refine(Et _ _ _ _ _ _ N (by exact E.o.cell) (by exact F.o.cell)).mono ?_;rintro e i ⟨rfl,rfl⟩)))|fail
      all_goals go_wp2_with fail
      all_goals go_ret
      all_goals exact⟨A8 (EV.o true false A.o R.o),p.o.trans (C.o.mono p.o.size)⟩
    |true=>
     have R:=HH N;cases h:A5 1 s q.length with
     |false=>
      have A:=HH h
      first|go_region_with (first|(go_at_call 128;refine(G7 _ _ _).mono ?_;rintro e f ⟨H,b5,rfl,a,l,m⟩;replace a:Bl wc f:=(by first|exact a|exact EM a);have c:=(a.block _ ao).trans aa.o;have aC:f.cell? ⟨w.heap.size,3,O⟩=Z (I J s):=Cr c;have aD:f.cell? ⟨w.heap.size,6,O⟩=Z (Y aq q.length cq):=Cr c;have aE:f.cell? ⟨w.heap.size,7,O⟩=Z (I J g):=Cr c;have C:=HH a;have B:=HH l;have D:=HH m;have E:=HH (al.o.below a);have F:=HH (am.o.below a);clear a l m c)|(first|(go_at_call_of 166 (cY (Z ⟨H,0,O⟩));refine(Et _ _ _ _ _ _ h (by exact B.o.cell) (by exact D.o.cell)).mono ?_;rintro e i ⟨rfl,rfl⟩)|(go_at_call_of 166 (cY (Z ⟨t0,0,O⟩));refine(Et _ _ _ _ _ _ N (by exact E.o.cell) (by exact F.o.cell)).mono ?_;rintro e i ⟨rfl,rfl⟩)))|fail
      all_goals go_wp2_with fail
      all_goals go_ret
      all_goals exact⟨A8 (EV.o false true A.o R.o),p.o.trans (C.o.mono p.o.size)⟩
     |true=>
      have A:=HH h
      first|go_region_with (first|(go_at_call 128;refine(G7 _ _ _).mono ?_;rintro e f ⟨H,b5,rfl,a,l,m⟩;replace a:Bl wc f:=(by first|exact a|exact EM a);have c:=(a.block _ ao).trans aa.o;have aC:f.cell? ⟨w.heap.size,3,O⟩=Z (I J s):=Cr c;have aD:f.cell? ⟨w.heap.size,6,O⟩=Z (Y aq q.length cq):=Cr c;have aE:f.cell? ⟨w.heap.size,7,O⟩=Z (I J g):=Cr c;have C:=HH a;have B:=HH l;have D:=HH m;have E:=HH (al.o.below a);have F:=HH (am.o.below a);clear a l m c)|(first|(go_at_call_of 166 (cY (Z ⟨H,0,O⟩));refine(Et _ _ _ _ _ _ h (by exact B.o.cell) (by exact D.o.cell)).mono ?_;rintro e i ⟨rfl,rfl⟩)|(go_at_call_of 166 (cY (Z ⟨t0,0,O⟩));refine(Et _ _ _ _ _ _ N (by exact E.o.cell) (by exact F.o.cell)).mono ?_;rintro e i ⟨rfl,rfl⟩)))|fail
      all_goals go_wp2_with fail
      all_goals go_ret
      all_goals exact⟨A8 (EV.o true true A.o R.o),p.o.trans (C.o.mono p.o.size)⟩
end Go.Proofs.YtiepijihpgijbaaGreatDoor
