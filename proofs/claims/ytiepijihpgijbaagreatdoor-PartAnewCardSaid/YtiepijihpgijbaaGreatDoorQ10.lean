import Derived.Laws.OwnMore
import Derived.Test.YtiepijihpgijbaaGreatDoorQ9
set_option maxHeartbeats 8000000
set_option maxRecDepth 100000
set_option linter.all false
open Go.Value renaming pointer→G,int→I,slice→Y
open Option renaming some→Z,none→O
open Go.IntKind renaming u8→U,i64→J
open Go.Obj renaming cells→T
open List renaming setIfInBounds_toArray→b1,set_cons_zero→b5,set_cons_succ→cE,drop_succ_cons→cO,getElem?_take→cP,getD_eq_getElem?_getD→cQ,drop_zero→cS,getElem_mem→cV,drop_nil→cW,getElem?_append_left→db,getElem?_eq_getElem→dc,length_take→dh,length_set→dk
open Go renaming heap_alloc_new→cF,Calls→c1,Value→c8,World→da
open Nat renaming le_refl→cG,le_trans→c9,mul_one→dd,min→df,min_le_right→dj,min_le_left→dl,lt_or_ge→dn
open Go.Value.slice renaming injEq→cR
open Go.Value.agg renaming injEq→cT
open List.cons renaming injEq→cU
open Array.mk renaming injEq→cX
open Int renaming toNat_natCast→cY,reduceEq→c0
open Go.RowKit.Below renaming refl→cZ
open Go.IntKind renaming wrap_i64→de
open Go.Builtin renaming copy_→di
open Go.World renaming setRow→dm
namespace Go.Proofs.YtiepijihpgijbaaGreatDoor
open Go.RowKit Tryz
def T7:EG 123:=fun _ _=>by kernel_rfl
def We(B:Nat)(w:da)(D:Nat→Prop)(g:Nat)(d:Ad)(c:Hd)(s:Ae)(kind:Int)(k:Nat)(b:Int)(data:List Int)(F:Nat)(vd:c8)(i:Nat)(now:Int)(bk:Gl B w)(hM:∀ q∈Mut g c,B≤q)(h:PA w D g d c s)(ok:Ah d s)(hj:JB w F g kind k b vd i now)(bz:F∉Mut g c)(hD:∀ q,w.heap.size≤q→D q)(cb:0≤now)(cc:now≤4294967296)(hk:k<s.bufs.length)(hi:i<d.procs.length)(a8:A4 w (NM g c) vd data)(aH:0<data.length)(cI:data.length≤64)(bw:Bf data):
  c1 prog 84 #[G (Z ⟨F,0,O⟩)] w fun e w'=>e=.returned (.bool (Jn d i now (⟨kind,k,b,data⟩:Ac) s).2)∧PA w' D g d c (Jn d i now (⟨kind,k,b,data⟩:Ac) s).1∧Upd (Mut g c) w w':=by
 obtain⟨ad,cd,rfl,cH,_,bA⟩:=a8.1.open_;obtain⟨bd,od,rfl,_,b3,bt⟩:=bA aH;have yd:w.cell? ⟨bd,od,O⟩=Z (I U data[0]):=by have:=bt 0 aH;simpa using this
 have qd:=qC yd b3;have cJ:(0:Int)<(data.length:Int):=by omega
 have bx:data.getD 0 0=data[0]:=by rw[cQ,dc aH];rfl
 obtain⟨bO,bm⟩:=H2 a8 bw;clear a8 bw bA bt yd;generalize bb:(d.procs.getD i default).prio=pr;have bW:Hq (∀ W,Bl w W→c1 prog 116 #[G (Z ⟨F,0,O⟩)] W fun e w'=>e=.returned (I J pr)∧Bl W w'):=fun W a=>by
  have:=Jm W D g d c s kind k b data F _ i now (h.below a) ok (hj.below a) (fun q S=>hD q (c9 a.size S)) hi;rwa [bb] at this
 obtain⟨P,j1,X,j3,j4,j5,j6⟩:=hj.cells;have t:F<w.heap.size:=Aa hj;have ax:=qC P t;have bh:=qC X t;have cl:=qC j5 t;have bi:=qC j4 t;have ba:0<s.bufs.length:=by omega
 have ay:=h.I8 ba;have an:=h.lt;have bj:=qC ay an;have aT:=h.bu.cap;have Q:=h.bu.lt;have h6:=ok.ok.procs;obtain⟨v,pv,gv,hc,bc,be,bf⟩:=h.bu.el k hk;obtain⟨y0,y1,y2,y3⟩:=LZ hc;have ct:=qC y0 Q;have cu:=qC y1 Q;have cw:=qC y2 Q;have cx:=qC y3 Q;obtain⟨av,cv,rfl,_,_,_⟩:=bc.1.open_;obtain⟨ap,cp,rfl,_,_,_⟩:=be.1.open_;obtain⟨ag,cg,rfl,_,_,_⟩:=bf.1.open_;have R:=(ok.bu _ (cV hk));have cL:=R.len;have cM:=R.put.len;have cN:=R.get.len;obtain⟨j,l,m,o,L,er,hw⟩:∃ j l m o L er,Cb s.bufs[k].depth s.bufs[k].data s.bufs[k].put s.bufs[k].get i pr data[0]=(j,l,m,o,L,er):=⟨_,_,_,_,_,_,rfl⟩;have HC:Hq (∀ W,Bl w W→c1 prog 123 #[.agg #[I J s.bufs[k].depth,.slice av s.bufs[k].data.length cv,.slice ap s.bufs[k].put.length cp,.slice ag s.bufs[k].get.length cg],I J i,I J pr,I U data[0]] W (NJ W s.bufs[k].depth j l m (.bool o) (I J L) (I J er))):=fun W a=>by
  have:=Yj s.bufs[k].depth i pr data[0] (.slice av s.bufs[k].data.length cv) (.slice ap s.bufs[k].put.length cp) (.slice ag s.bufs[k].get.length cg) s.bufs[k].data s.bufs[k].put s.bufs[k].get W (bc.1.below a) (be.1.below a) (bf.1.below a) (R.put.wf h6) (R.get.wf h6) (by omega) (by omega) (by omega);rwa [hw] at this
 have HE:Hq (Jn d i now (⟨kind,k,b,data⟩:Ac) s=(wakeP d now data [L] {s with bufs:=s.bufs.set k ⟨s.bufs[k].depth,j,l,m⟩},o)):=by
  show Jn d i now (⟨kind,k,b,data⟩:Ac) s=_;simp only[Jn,buA,prioA,cY,getD_at _ _ hk,bb,bx,hw]
 have aL:=R.PU (q:=i) (r:=pr) (v:=data[0]) (by omega) (by omega) (bm.o _ (cV aH));rw[hw] at aL;have bU:Hq (Ah d {s with bufs:=s.bufs.set k ⟨s.bufs[k].depth,j,l,m⟩}):=ok.Lp k aL.1;have ci:L<(s.procs.length:Int):=by rw[ok.procs];exact aL.2
 clear aL bx;clear hw bc be bf R;have cK:(k:Int)<(s.bufs.length:Int):=by omega
 obtain⟨H,HJ,aO,HG,HM,bT⟩:=H6 h hj hD bk hM bz;clear h hj hD ok hc bk hM bz bb P j1 X j3 j4 j5 j6 ay y0 y1 y2 y3;go_enter func84,ntmps84;go_upto_region 1 with (fail);refine AS 39 [35] [31,32,33,36,37,38] [(20,fun v _=>v=I J pr),(28,(fun v w'=>∃ u c2 y c3 A c4,v=.tuple #[.agg #[I J s.bufs[k].depth,Y u j.length c2,Y y l.length c3,Y A m.length c4],.bool o,I J L,I J er]∧AA w' w.heap.size (Y u j.length c2) j∧Ax w' w.heap.size (Y y l.length c3) l∧Ax w' w.heap.size (Y A m.length c4) m)),(34,Bh w.heap.size #[I J 0,Y O 0 0,Y O 0 0,Y O 0 0] 111)] ⟨Ch,(fun v w1 w2 ⟨u,c2,y,c3,A,c4,e,M,h2,h3⟩ a=>⟨u,c2,y,c3,A,c4,e,Ty.below M a,Ty.below h2 a,Ty.below h3 a⟩),Bh.AX,trivial⟩ ?_
 iterate 20 (refine An rfl rfl rfl ?_;intro K hK;go_big_quiet_op;go_big_quiet_on)
 refine A9 rfl rfl (fun w' a hA=>?_) ?_
 ·refine AD (f:=116) (al:=[G (Z ⟨F,0,O⟩)]) rfl rfl rfl Ho ?_;exact(bW.o w' a).mono fun e w2 h=>⟨_,h.1,h.2,rfl⟩
 intro v w' a V;obtain rfl:=V;clear a w';simp only[Au,b1,cE,b5]
 iterate 7 (refine An rfl rfl rfl ?_;intro K hK;go_big_quiet_op;go_big_quiet_on)
 refine A9 rfl rfl (fun w' a hA=>?_) ?_
 ·refine AD (f:=123) (al:=[.agg #[I J s.bufs[k].depth,.slice av s.bufs[k].data.length cv,.slice ap s.bufs[k].put.length cp,.slice ag s.bufs[k].get.length cg],I J i,I J pr,I U data[0]]) rfl rfl rfl T7 ?_;exact(HC.o w' a).mono fun e w2 h=>by
   obtain⟨u1,u2,u3,he,t1,t2,t3,b2⟩:=h;obtain⟨u,c2,ce⟩:=Ty.shape t1;obtain⟨y,c3,cf⟩:=Ty.shape t2;obtain⟨A,c4,ch⟩:=Ty.shape t3;subst ce cf ch;exact⟨_,he,b2,_,_,_,_,_,_,rfl,Ty.mono t1 a.size,Ty.mono t2 a.size,Ty.mono t3 a.size⟩
 intro v w' a V;obtain⟨u,c2,y,c3,A,c4,rfl,t1,t2,t3⟩:=V;clear a t1 t2 t3 w';simp only[Au,b1,cE,b5]
 iterate 2 (refine An rfl rfl rfl ?_;intro K hK;go_big_quiet_op;go_big_quiet_on)
 iterate 3 (refine Bi rfl rfl rfl ?_;intro K hK;go_big_quiet_op;go_big_quiet_on)
 refine A9 rfl rfl (fun w' a hA=>?_) ?_
 ·exact EY (T #[I J 0,Y O 0 0,Y O 0 0,Y O 0 0] 111) (by simp[execOp,go_sem]) ⟨w'.heap.size,a.size,rfl,cF _ _⟩
 intro v w' a V;obtain⟨q,S,rfl,E⟩:=V;clear a S E w';simp only[Au,b1,cE,b5];refine AH rfl ?_
 iterate 3 (refine Bi rfl rfl rfl ?_;intro K hK;go_big_quiet_op;go_big_quiet_on)
 refine AR ?_;intro C n N;have ca:=N 28 _ (by decide) rfl;obtain⟨b8,E⟩:=Bh.at_ (N 34 _ (by decide) rfl);obtain⟨a5,c5,a6,c6,a7,c7,e4,t1,t2,t3⟩:=ca;injection e4 with e4;simp only[cX,cU,cT,cR,true_and,and_true] at e4;obtain⟨⟨rfl,rfl⟩,⟨rfl,rfl⟩,rfl,rfl⟩:=e4;obtain⟨z0,z1,z2,z3⟩:=r4 E;obtain⟨f0,f1,f2,f3⟩:=f4 E;obtain⟨p,a1⟩:=ex ((((C.setCell ⟨q,0,O⟩ (I J s.bufs[k].depth)).setCell ⟨q,1,O⟩ (Y u j.length c2)).setCell ⟨q,2,O⟩ (Y y l.length c3)).setCell ⟨q,3,O⟩ (Y A m.length c4));refine AI (w':=p) (by rw[a1];simp[execOp,go_sem,z0,f0,z1,f1,z2,f2,z3,f3]) ?_;unfold A7;have ae:p=setsAt C q 0 [(0,I J s.bufs[k].depth),(1,Y u j.length c2),(2,Y y l.length c3),(3,Y A m.length c4)]:=a1;have aN:Hq (Bl w p):=by rw[ae];exact DH b8 n _
 have aj:p.heap[q]? =Z (T #[I J s.bufs[k].depth,Y u j.length c2,Y y l.length c3,Y A m.length c4] 111 (0,0)):=by rw[ae];exact Di _ E
 have bN:Hq (A4 p D (Y u j.length c2) j):=by rw[ae];exact Ny (AA.rd t1) (E9 t1 E (by decide)) aO.o
 have bQ:Hq (Bm p D (Y y l.length c3) l):=by rw[ae];exact Gb (Ax.rd t2) (E9 t2 E (by decide)) aO.o
 have bP:Hq (Bm p D (Y A m.length c4) m):=by rw[ae];exact Gb (Ax.rd t3) (E9 t3 E (by decide)) aO.o
 clear t1 t2 t3;clear a1 ae n N E z0 f0 z1 f1 z2 f2 z3 f3 bj aT Q an t ct cu cw cx ax bh cl bi qd;have M:=H.o.below aN.o;have aI:=HJ.o.below aN.o;have ar:q<p.heap.size:=Aa aj;obtain⟨P,j1,X,j3,j4,j5,j6⟩:=aI.cells;have t:F<p.heap.size:=Aa aI;have ax:=qC P t;have bh:=qC X t;have ay:=M.I8 ba;have an:=M.lt;have bj:=qC ay an;have aT:=M.bu.cap;have Q:=M.bu.lt;have cn:=qC (show p.cell? ⟨q,0,O⟩=_ from Cr aj) ar;have cq:=qC (show p.cell? ⟨q,1,O⟩=_ from Cr aj) ar;have cr:=qC (show p.cell? ⟨q,2,O⟩=_ from Cr aj) ar;have cs:=qC (show p.cell? ⟨q,3,O⟩=_ from Cr aj) ar;obtain⟨H1,cy⟩:=H2 M aI;clear M aI P j1 X j3 j4 j5 j6 ay aj;go_upto_region 2 with (fail);refine AS 16 [15] [] [] trivial ?_
 iterate 15 (refine An rfl rfl rfl ?_;intro K hK;go_big_quiet_op;go_big_quiet_on)
 refine AH rfl ?_;refine AR ?_;intro C n N;clear N;have h9:=H1.o.below n;have F9:∀ o,C.frozen? ⟨c.bu.b,o,O⟩=false:=h9.bu.frozen ba;obtain⟨v,pv,gv,af,_,_,_⟩:=h9.bu.el k hk;have z0:C.cell? ⟨c.bu.b,k*4,O⟩=Z _:=af 0 _ rfl;have f0:=F9 (k*4);have z1:C.cell? ⟨c.bu.b,k*4+1,O⟩=Z _:=af 1 _ rfl;have f1:=F9 (k*4+1);have z2:C.cell? ⟨c.bu.b,k*4+2,O⟩=Z _:=af 2 _ rfl;have f2:=F9 (k*4+2);have z3:C.cell? ⟨c.bu.b,k*4+3,O⟩=Z _:=af 3 _ rfl;have f3:=F9 (k*4+3);have aK:=h9.Kr hk [(0,I J s.bufs[k].depth),(1,Y u j.length c2),(2,Y y l.length c3),(3,Y A m.length c4)] rfl af (x:=⟨s.bufs[k].depth,j,l,m⟩) fun w' b4 a9=>⟨_,_,_,b4,(bN.o.Ag (.C9 n)).Ag a9,(bQ.o.Ag (.C9 n)).Ag a9,(bP.o.Ag (.C9 n)).Ag a9⟩;obtain⟨W2,am⟩:=ex ((((C.setCell ⟨c.bu.b,k*4,O⟩ (I J s.bufs[k].depth)).setCell ⟨c.bu.b,k*4+1,O⟩ (Y u j.length c2)).setCell ⟨c.bu.b,k*4+2,O⟩ (Y y l.length c3)).setCell ⟨c.bu.b,k*4+3,O⟩ (Y A m.length c4));refine AI (w':=W2) (by rw[am];simp[execOp,go_sem,z0,f0,z1,f1,z2,f2,z3,f3]) ?_;unfold A7;have aD:Hq (PA W2 D g d c {s with bufs:=s.bufs.set k ⟨s.bufs[k].depth,j,l,m⟩}):=by rw[am];exact aK.1
 have cA:Hq (Upd (Mut g c) p W2):=by rw[am];exact(Upd.below n).trans aK.2
 have aP:Hq (Upd (Mut g c) w W2):=by rw[am];exact((Upd.below aN.o).trans (Upd.below (n.mono (cG _)))).trans aK.2
 clear am aK af F9 h9 n z0 f0 z1 f1 z2 f2 z3 f3 bj aT Q an t cn cq cr cs ax bh ar;have h2:=aD.o;have aJ:=HJ.o.BG aP.o bT.o;obtain⟨P,j1,X,j3,j4,j5,j6⟩:=aJ.cells;have t:F<W2.heap.size:=Aa aJ;have ax:=qC P t;have bi:=qC j4 t;have cm:=qC j6 t;have cz:=HH aJ;clear h2 aJ P j1 X j3 j4 j5 j6;go_upto_region 3 with (fail);refine BQ 15 [(14,One W2.heap.size (I J L) 3)] ⟨One.AX,trivial⟩ ?_
 iterate 14 (refine AK rfl ?_;intro K hK;go_big_quiet_op;go_big_quiet_on)
 refine Ca rfl (fun w' a hA=>?_) ?_
 ·exact Bn (v:=Y (Z ⟨w'.heap.size,0,O⟩) 1 1) (w':=w'.alloc (T #[I J L] 3)) (by simp[execOp,go_sem]) ⟨(cZ _ _).alloc (cG _) _,⟨w'.heap.size,a.size,rfl,cF _ _⟩⟩
 intro v w' a V;obtain⟨q3,b7,rfl,b9⟩:=V;clear a b7 b9 w';simp only[Au,b1,cE,b5];refine BN ?_;intro C n N;simp only[cO,cS,cW];have o9:=N 14 _ (by decide) rfl;have a0:=aP.o.trans (Upd.below n);obtain⟨bl,bY⟩:=H2 (IG B C D g d c _ now (Y (Z ⟨bd,od,O⟩) data.length cd) (Y (Z ⟨q3,0,O⟩) 1 1) data [L] (HG.o.BG a0 HM.o) HM.o (aD.o.below n) bU.o ((bO.o.Ag (KeepD.nm aP.o)).below n) ⟨o9.sl (fun q S=>EF aD.o S)|>.1,(o9.sl (fun q S=>EF aD.o S)).2⟩ (by omega) bm.o (by simp) (fun z hz=>by simp at hz;subst hz;exact ci) cb cc) a0;clear N n a0 o9 ax bi cm t;go_wp2_with fail;refine bl.o.mono ?_;rintro e w3 ⟨rfl,p3,u3⟩;obtain⟨bV,bX⟩:=H2 p3 (bY.o.trans u3);clear p3 u3 bl;go_wp2_with fail;go_ret;rw[HE.o];exact⟨rfl,bV.o,bX.o⟩
def Ov:EG 124:=fun _ _=>by kernel_rfl
def VZ(B:Nat)(w:da)(D:Nat→Prop)(g:Nat)(d:Ad)(j:Hd)(s:Ae)(kind:Int)(k:Nat)(b:Int)(data:List Int)(jb:Nat)(vd:c8)(i:Nat)(now:Int)(bV:Gl B w)(hM:∀ q∈Mut g j,B≤q)(h:PA w D g d j s)(ok:Ah d s)(hj:JB w jb g kind k b vd i now)(b6:jb∉Mut g j)(hD:∀ q,w.heap.size≤q→D q)(bJ:0≤now)(bK:now≤4294967296)(hk:k<s.bufs.length)(hi:i<d.procs.length):
  c1 prog 85 #[G (Z ⟨jb,0,O⟩)] w fun e w'=>e=.returned (.bool (Gt d i now (⟨kind,k,b,data⟩:Ac) s).2)∧PA w' D g d j (Gt d i now (⟨kind,k,b,data⟩:Ac) s).1∧Upd (Mut g j) w w':=by
 generalize bB:(d.procs.getD i default).prio=pr;have b0:Hq (∀ W,Bl w W→c1 prog 116 #[G (Z ⟨jb,0,O⟩)] W fun e w'=>e=.returned (I J pr)∧Bl W w'):=fun W a=>by
  have:=Jm W D g d j s kind k b data jb _ i now (h.below a) ok (hj.below a) (fun q hq=>hD q (c9 a.size hq)) hi;rwa [bB] at this
 obtain⟨P,j1,S,j3,j4,j5,j6⟩:=hj.cells;have A:jb<w.heap.size:=Aa hj;have ah:=qC P A;have aT:=qC S A;have bl:=qC j5 A;have a8:0<s.bufs.length:=by omega
 have aL:=h.I8 a8;have aG:=h.lt;have aU:=qC aL aG;have aS:=h.bu.cap;have ay:=h.bu.lt;have h6:=ok.ok.procs;obtain⟨v,pv,gv,hc,bF,bG,bH⟩:=h.bu.el k hk;obtain⟨y0,y1,y2,y3⟩:=LZ hc;have b9:=qC y0 ay;have ca:=qC y1 ay;have cb:=qC y2 ay;have cc:=qC y3 ay;obtain⟨av,cv,rfl,_,_,_⟩:=bF.1.open_;obtain⟨ap,cp,rfl,_,_,_⟩:=bG.1.open_;obtain⟨ag,cg,rfl,_,_,_⟩:=bH.1.open_;have aO:=(ok.bu _ (cV hk));have cB:=aO.len;have cC:=aO.put.len;have cD:=aO.get.len;obtain⟨l,m,n,vy,o,Q,er,hw⟩:∃ l m n vy o Q er,getBu s.bufs[k].depth s.bufs[k].data s.bufs[k].put s.bufs[k].get i pr=(l,m,n,vy,o,Q,er):=⟨_,_,_,_,_,_,_,rfl⟩;have HC:Hq (∀ W,Bl w W→c1 prog 124 #[.agg #[I J s.bufs[k].depth,.slice av s.bufs[k].data.length cv,.slice ap s.bufs[k].put.length cp,.slice ag s.bufs[k].get.length cg],I J i,I J pr] W (NK W s.bufs[k].depth l m n (I U vy) (.bool o) (I J Q) (I J er))):=fun W a=>by
  have:=Uz s.bufs[k].depth i pr (.slice av s.bufs[k].data.length cv) (.slice ap s.bufs[k].put.length cp) (.slice ag s.bufs[k].get.length cg) s.bufs[k].data s.bufs[k].put s.bufs[k].get W (bF.1.below a) (bG.1.below a) (bH.1.below a) (aO.put.wf h6) (aO.get.wf h6) (by omega) (by omega) (by omega);rwa [hw] at this
 have bY:Hq (Gt d i now (⟨kind,k,b,data⟩:Ac) s=if o=true then(Co d i [vy] (wakeP d now [] [Q] {s with bufs:=s.bufs.set k ⟨s.bufs[k].depth,l,m,n⟩}),true) else(wakeP d now [] [Q] {s with bufs:=s.bufs.set k ⟨s.bufs[k].depth,l,m,n⟩},false)):=by
  show Gt d i now (⟨kind,k,b,data⟩:Ac) s=_;simp only[Gt,buA,prioA,cY,getD_at _ _ hk,bB,hw]
 have a9:=aO.OG (q:=i) (r:=pr) (by omega) (by omega);rw[hw] at a9;have bs:Hq (Ah d {s with bufs:=s.bufs.set k ⟨s.bufs[k].depth,l,m,n⟩}):=ok.Lp k a9.1;have bO:Q<(s.procs.length:Int):=by rw[ok.procs];exact a9.2.1
 have cj:Hq (Ah d (wakeP d now [] [Q] {s with bufs:=s.bufs.set k ⟨s.bufs[k].depth,l,m,n⟩})):=(Ah.IF (fun z N=>by cases N) bJ bK [Q] bs.o (fun z N=>by simp at N;subst N;exact bO)).1;have cz:Hq (Bf [vy]):=fun z N=>by simp at N;subst N;exact a9.2.2
 clear a9;clear hw bF bG bH aO;have cA:(k:Int)<(s.bufs.length:Int):=by omega
 obtain⟨H,HJ,aR,HG,HM,br⟩:=H6 h hj hD bV hM b6;clear h hj hD ok hc bV hM b6 bB P j1 S j3 j4 j5 j6 aL y0 y1 y2 y3;cases o with
 |true=>
  have HE:=bY.o;rw[if_pos rfl] at HE;have HE:=HH HE;go_enter func85,ntmps85;go_upto_region 1 with (fail);refine AS 34 [29] [24,25,26,27,30,31,32,33] [(20,fun v _=>v=I J pr),(21,(fun v w'=>∃ t c2 u c3 y c4,v=.tuple #[.agg #[I J s.bufs[k].depth,Y t l.length c2,Y u m.length c3,Y y n.length c4],I U vy,.bool true,I J Q,I J er]∧AA w' w.heap.size (Y t l.length c2) l∧Ax w' w.heap.size (Y u m.length c3) m∧Ax w' w.heap.size (Y y n.length c4) n)),(28,Bh w.heap.size #[I J 0,Y O 0 0,Y O 0 0,Y O 0 0] 111)] ⟨Ch,(fun v w1 w2 ⟨t,c2,u,c3,y,c4,e,L,h2,h3⟩ a=>⟨t,c2,u,c3,y,c4,e,Ty.below L a,Ty.below h2 a,Ty.below h3 a⟩),Bh.AX,trivial⟩ ?_
  iterate 20 (refine An rfl rfl rfl ?_;intro K hK;go_big_quiet_op;go_big_quiet_on)
  refine A9 rfl rfl (fun w' a hA=>?_) ?_
  ·refine AD (f:=116) (al:=[G (Z ⟨jb,0,O⟩)]) rfl rfl rfl Ho ?_;exact(b0.o w' a).mono fun e w2 h=>⟨_,h.1,h.2,rfl⟩
  intro v w' a M;obtain rfl:=M;clear a w';simp only[Au,b1,cE,b5];refine A9 rfl rfl (fun w' a hA=>?_) ?_
  ·refine AD (f:=124) (al:=[.agg #[I J s.bufs[k].depth,.slice av s.bufs[k].data.length cv,.slice ap s.bufs[k].put.length cp,.slice ag s.bufs[k].get.length cg],I J i,I J pr]) rfl rfl rfl Ov ?_;exact(HC.o w' a).mono fun e w2 h=>by
    obtain⟨u1,u2,u3,he,t1,t2,t3,bx⟩:=h;obtain⟨t,c2,bL⟩:=Ty.shape t1;obtain⟨u,c3,bM⟩:=Ty.shape t2;obtain⟨y,c4,bN⟩:=Ty.shape t3;subst bL bM bN;exact⟨_,he,bx,_,_,_,_,_,_,rfl,Ty.mono t1 a.size,Ty.mono t2 a.size,Ty.mono t3 a.size⟩
  intro v w' a M;obtain⟨t,c2,u,c3,y,c4,rfl,t1,t2,t3⟩:=M;clear a t1 t2 t3 w';simp only[Au,b1,cE,b5]
  iterate 2 (refine An rfl rfl rfl ?_;intro K hK;go_big_quiet_op;go_big_quiet_on)
  iterate 4 (refine Bi rfl rfl rfl ?_;intro K hK;go_big_quiet_op;go_big_quiet_on)
  refine A9 rfl rfl (fun w' a hA=>?_) ?_
  ·exact EY (T #[I J 0,Y O 0 0,Y O 0 0,Y O 0 0] 111) (by simp[execOp,go_sem]) ⟨w'.heap.size,a.size,rfl,cF _ _⟩
  intro v w' a M;obtain⟨q,hq,rfl,F⟩:=M;clear a hq F w';simp only[Au,b1,cE,b5];refine AH rfl ?_
  iterate 4 (refine Bi rfl rfl rfl ?_;intro K hK;go_big_quiet_op;go_big_quiet_on)
  refine AR ?_;intro C c E;have bI:=E 21 _ (by decide) rfl;obtain⟨bD,F⟩:=Bh.at_ (E 28 _ (by decide) rfl);obtain⟨a5,c5,a6,c6,a7,c7,e4,t1,t2,t3⟩:=bI;injection e4 with e4;simp only[cX,cU,cT,cR,true_and,and_true] at e4;obtain⟨⟨rfl,rfl⟩,⟨rfl,rfl⟩,rfl,rfl⟩:=e4;obtain⟨z0,z1,z2,z3⟩:=r4 F;obtain⟨f0,f1,f2,f3⟩:=f4 F;obtain⟨p,aN⟩:=ex ((((C.setCell ⟨q,0,O⟩ (I J s.bufs[k].depth)).setCell ⟨q,1,O⟩ (Y t l.length c2)).setCell ⟨q,2,O⟩ (Y u m.length c3)).setCell ⟨q,3,O⟩ (Y y n.length c4));refine AI (w':=p) (by rw[aN];simp[execOp,go_sem,z0,f0,z1,f1,z2,f2,z3,f3]) ?_;unfold A7;have X:p=setsAt C q 0 [(0,I J s.bufs[k].depth),(1,Y t l.length c2),(2,Y u m.length c3),(3,Y y n.length c4)]:=aN;have aM:Hq (Bl w p):=by rw[X];exact DH bD c _
  have af:p.heap[q]? =Z (T #[I J s.bufs[k].depth,Y t l.length c2,Y u m.length c3,Y y n.length c4] 111 (0,0)):=by rw[X];exact Di _ F
  have bn:Hq (A4 p D (Y t l.length c2) l):=by rw[X];exact Ny (AA.rd t1) (E9 t1 F (by decide)) aR.o
  have bp:Hq (Bm p D (Y u m.length c3) m):=by rw[X];exact Gb (Ax.rd t2) (E9 t2 F (by decide)) aR.o
  have bo:Hq (Bm p D (Y y n.length c4) n):=by rw[X];exact Gb (Ax.rd t3) (E9 t3 F (by decide)) aR.o
  clear t1 t2 t3;clear aN X c E F z0 f0 z1 f1 z2 f2 z3 f3 aU aS ay aG A b9 ca cb cc ah aT bl;have L:=H.o.below aM.o;have aH:=HJ.o.below aM.o;have am:q<p.heap.size:=Aa af;obtain⟨P,j1,S,j3,j4,j5,j6⟩:=aH.cells;have A:jb<p.heap.size:=Aa aH;have ah:=qC P A;have aT:=qC S A;have aL:=L.I8 a8;have aG:=L.lt;have aU:=qC aL aG;have aS:=L.bu.cap;have ay:=L.bu.lt;have bQ:=qC (show p.cell? ⟨q,0,O⟩=_ from Cr af) am;have bR:=qC (show p.cell? ⟨q,1,O⟩=_ from Cr af) am;have bS:=qC (show p.cell? ⟨q,2,O⟩=_ from Cr af) am;have bT:=qC (show p.cell? ⟨q,3,O⟩=_ from Cr af) am;obtain⟨H1,ci⟩:=H2 L aH;clear L aH P j1 S j3 j4 j5 j6 aL af;go_upto_region 2 with (fail);refine AS 16 [15] [] [] trivial ?_
  iterate 15 (refine An rfl rfl rfl ?_;intro K hK;go_big_quiet_op;go_big_quiet_on)
  refine AH rfl ?_;refine AR ?_;intro C c E;clear E;have h9:=H1.o.below c;have F9:∀ o,C.frozen? ⟨j.bu.b,o,O⟩=false:=h9.bu.frozen a8;obtain⟨v,pv,gv,aa,_,_,_⟩:=h9.bu.el k hk;have z0:C.cell? ⟨j.bu.b,k*4,O⟩=Z _:=aa 0 _ rfl;have f0:=F9 (k*4);have z1:C.cell? ⟨j.bu.b,k*4+1,O⟩=Z _:=aa 1 _ rfl;have f1:=F9 (k*4+1);have z2:C.cell? ⟨j.bu.b,k*4+2,O⟩=Z _:=aa 2 _ rfl;have f2:=F9 (k*4+2);have z3:C.cell? ⟨j.bu.b,k*4+3,O⟩=Z _:=aa 3 _ rfl;have f3:=F9 (k*4+3);have aI:=h9.Kr hk [(0,I J s.bufs[k].depth),(1,Y t l.length c2),(2,Y u m.length c3),(3,Y y n.length c4)] rfl aa (x:=⟨s.bufs[k].depth,l,m,n⟩) fun w' bz aQ=>⟨_,_,_,bz,(bn.o.Ag (.C9 c)).Ag aQ,(bp.o.Ag (.C9 c)).Ag aQ,(bo.o.Ag (.C9 c)).Ag aQ⟩;obtain⟨V,ak⟩:=ex ((((C.setCell ⟨j.bu.b,k*4,O⟩ (I J s.bufs[k].depth)).setCell ⟨j.bu.b,k*4+1,O⟩ (Y t l.length c2)).setCell ⟨j.bu.b,k*4+2,O⟩ (Y u m.length c3)).setCell ⟨j.bu.b,k*4+3,O⟩ (Y y n.length c4));refine AI (w':=V) (by rw[ak];simp[execOp,go_sem,z0,f0,z1,f1,z2,f2,z3,f3]) ?_;unfold A7;have aC:Hq (PA V D g d j {s with bufs:=s.bufs.set k ⟨s.bufs[k].depth,l,m,n⟩}):=by rw[ak];exact aI.1
  have cl:Hq (Upd (Mut g j) p V):=by rw[ak];exact(Upd.below c).trans aI.2
  have aY:Hq (Upd (Mut g j) w V):=by rw[ak];exact((Upd.below aM.o).trans (Upd.below (c.mono (cG _)))).trans aI.2
  clear ak aI aa F9 h9 c z0 f0 z1 f1 z2 f2 z3 f3 aU aS ay aG A bQ bR bS bT ah aT am;have h2:=aC.o;have R:=HJ.o.BG aY.o br.o;obtain⟨P,j1,S,j3,j4,j5,j6⟩:=R.cells;have A:jb<V.heap.size:=Aa R;have ah:=qC P A;have bP:=qC j6 A;have bZ:=HH R;clear h2 R P j1 S j3 j4 j5 j6;go_upto_region 3 with (fail);refine BQ 10 [(9,One V.heap.size (I J Q) 3)] ⟨One.AX,trivial⟩ ?_
  iterate 9 (refine AK rfl ?_;intro K hK;go_big_quiet_op;go_big_quiet_on)
  refine Ca rfl (fun w' a hA=>?_) ?_
  ·exact Bn (v:=Y (Z ⟨w'.heap.size,0,O⟩) 1 1) (w':=w'.alloc (T #[I J Q] 3)) (by simp[execOp,go_sem]) ⟨(cZ _ _).alloc (cG _) _,⟨w'.heap.size,a.size,rfl,cF _ _⟩⟩
  intro v w' a M;obtain⟨q3,bC,rfl,bE⟩:=M;clear a bC bE w';simp only[Au,b1,cE,b5];refine BN ?_;intro C c E;simp only[cO,cS,cW];have o9:=E 9 _ (by decide) rfl;have aj:=aY.o.trans (Upd.below c);obtain⟨aV,aZ⟩:=H2 (IG B C D g d j _ now (Y O 0 0) (Y (Z ⟨q3,0,O⟩) 1 1) [] [Q] (HG.o.BG aj HM.o) HM.o (aC.o.below c) bs.o A4.nil ⟨o9.sl (fun q hq=>EF aC.o hq)|>.1,(o9.sl (fun q hq=>EF aC.o hq)).2⟩ (by simp) (fun z N=>by cases N) (by simp) (fun z N=>by simp at N;subst N;exact bO) bJ bK) aj;clear E c aj o9 ah bP A;go_wp2_with fail;refine aV.o.mono ?_;rintro e w3 ⟨rfl,p3,u3⟩;obtain⟨bc,bd⟩:=H2 p3 (aZ.o.trans u3);clear p3 u3 aV;have h2:=bc.o;have R:=HJ.o.BG bd.o br.o;obtain⟨P,j1,S,j3,j4,j5,j6⟩:=R.cells;have A:jb<w3.heap.size:=Aa R;have ah:=qC P A;have bl:=qC j5 A;have bZ:=HH R;clear h2 R P j1 S j3 j4 j5 j6;go_upto_region 5 with (fail);refine BQ 10 [(9,One w3.heap.size (I U vy) 5)] ⟨One.AX,trivial⟩ ?_
  iterate 9 (refine AK rfl ?_;intro K hK;go_big_quiet_op;go_big_quiet_on)
  refine Ca rfl (fun w' a hA=>?_) ?_
  ·exact Bn (v:=Y (Z ⟨w'.heap.size,0,O⟩) 1 1) (w':=w'.alloc (T #[I U vy] 5)) (by simp[execOp,go_sem]) ⟨(cZ _ _).alloc (cG _) _,⟨w'.heap.size,a.size,rfl,cF _ _⟩⟩
  intro v w' a M;obtain⟨q4,cu,rfl,cw⟩:=M;clear a cu cw w';simp only[Au,b1,cE,b5];refine BN ?_;intro C c E;simp only[cO,cS,cW];have o9:=E 9 _ (by decide) rfl;have aj:=bd.o.trans (Upd.below c);obtain⟨bX,aZ⟩:=H2 (Iu B C D g d j _ i (Y (Z ⟨q4,0,O⟩) 1 1) [vy] (HG.o.BG aj HM.o) (bc.o.below c) cj.o hi (o9.sl (D:=fun _=>True) (fun _ _=>trivial)).1 (by simp)) aj;clear E c aj o9 ah bl A;go_wp2_with fail;refine bX.o.mono ?_;rintro e w5 ⟨rfl,p5,u5⟩;obtain⟨ck,cm⟩:=H2 p5 (aZ.o.trans u5);clear p5 u5 bX;go_wp2_with fail;go_ret;rw[HE.o];exact⟨rfl,ck.o,cm.o⟩
 |false=>
  have HE:=bY.o;rw[if_neg (by decide)] at HE;have HE:=HH HE;go_enter func85,ntmps85;go_upto_region 1 with (fail);refine AS 34 [29] [24,25,26,27,30,31,32,33] [(20,fun v _=>v=I J pr),(21,(fun v w'=>∃ t c2 u c3 y c4,v=.tuple #[.agg #[I J s.bufs[k].depth,Y t l.length c2,Y u m.length c3,Y y n.length c4],I U vy,.bool false,I J Q,I J er]∧AA w' w.heap.size (Y t l.length c2) l∧Ax w' w.heap.size (Y u m.length c3) m∧Ax w' w.heap.size (Y y n.length c4) n)),(28,Bh w.heap.size #[I J 0,Y O 0 0,Y O 0 0,Y O 0 0] 111)] ⟨Ch,(fun v w1 w2 ⟨t,c2,u,c3,y,c4,e,L,h2,h3⟩ a=>⟨t,c2,u,c3,y,c4,e,Ty.below L a,Ty.below h2 a,Ty.below h3 a⟩),Bh.AX,trivial⟩ ?_
  iterate 20 (refine An rfl rfl rfl ?_;intro K hK;go_big_quiet_op;go_big_quiet_on)
  refine A9 rfl rfl (fun w' a hA=>?_) ?_
  ·refine AD (f:=116) (al:=[G (Z ⟨jb,0,O⟩)]) rfl rfl rfl Ho ?_;exact(b0.o w' a).mono fun e w2 h=>⟨_,h.1,h.2,rfl⟩
  intro v w' a M;obtain rfl:=M;clear a w';simp only[Au,b1,cE,b5];refine A9 rfl rfl (fun w' a hA=>?_) ?_
  ·refine AD (f:=124) (al:=[.agg #[I J s.bufs[k].depth,.slice av s.bufs[k].data.length cv,.slice ap s.bufs[k].put.length cp,.slice ag s.bufs[k].get.length cg],I J i,I J pr]) rfl rfl rfl Ov ?_;exact(HC.o w' a).mono fun e w2 h=>by
    obtain⟨u1,u2,u3,he,t1,t2,t3,bx⟩:=h;obtain⟨t,c2,bL⟩:=Ty.shape t1;obtain⟨u,c3,bM⟩:=Ty.shape t2;obtain⟨y,c4,bN⟩:=Ty.shape t3;subst bL bM bN;exact⟨_,he,bx,_,_,_,_,_,_,rfl,Ty.mono t1 a.size,Ty.mono t2 a.size,Ty.mono t3 a.size⟩
  intro v w' a M;obtain⟨t,c2,u,c3,y,c4,rfl,t1,t2,t3⟩:=M;clear a t1 t2 t3 w';simp only[Au,b1,cE,b5]
  iterate 2 (refine An rfl rfl rfl ?_;intro K hK;go_big_quiet_op;go_big_quiet_on)
  iterate 4 (refine Bi rfl rfl rfl ?_;intro K hK;go_big_quiet_op;go_big_quiet_on)
  refine A9 rfl rfl (fun w' a hA=>?_) ?_
  ·exact EY (T #[I J 0,Y O 0 0,Y O 0 0,Y O 0 0] 111) (by simp[execOp,go_sem]) ⟨w'.heap.size,a.size,rfl,cF _ _⟩
  intro v w' a M;obtain⟨q,hq,rfl,F⟩:=M;clear a hq F w';simp only[Au,b1,cE,b5];refine AH rfl ?_
  iterate 4 (refine Bi rfl rfl rfl ?_;intro K hK;go_big_quiet_op;go_big_quiet_on)
  refine AR ?_;intro C c E;have bI:=E 21 _ (by decide) rfl;obtain⟨bD,F⟩:=Bh.at_ (E 28 _ (by decide) rfl);obtain⟨a5,c5,a6,c6,a7,c7,e4,t1,t2,t3⟩:=bI;injection e4 with e4;simp only[cX,cU,cT,cR,true_and,and_true] at e4;obtain⟨⟨rfl,rfl⟩,⟨rfl,rfl⟩,rfl,rfl⟩:=e4;obtain⟨z0,z1,z2,z3⟩:=r4 F;obtain⟨f0,f1,f2,f3⟩:=f4 F;obtain⟨p,aN⟩:=ex ((((C.setCell ⟨q,0,O⟩ (I J s.bufs[k].depth)).setCell ⟨q,1,O⟩ (Y t l.length c2)).setCell ⟨q,2,O⟩ (Y u m.length c3)).setCell ⟨q,3,O⟩ (Y y n.length c4));refine AI (w':=p) (by rw[aN];simp[execOp,go_sem,z0,f0,z1,f1,z2,f2,z3,f3]) ?_;unfold A7;have X:p=setsAt C q 0 [(0,I J s.bufs[k].depth),(1,Y t l.length c2),(2,Y u m.length c3),(3,Y y n.length c4)]:=aN;have aM:Hq (Bl w p):=by rw[X];exact DH bD c _
  have af:p.heap[q]? =Z (T #[I J s.bufs[k].depth,Y t l.length c2,Y u m.length c3,Y y n.length c4] 111 (0,0)):=by rw[X];exact Di _ F
  have bn:Hq (A4 p D (Y t l.length c2) l):=by rw[X];exact Ny (AA.rd t1) (E9 t1 F (by decide)) aR.o
  have bp:Hq (Bm p D (Y u m.length c3) m):=by rw[X];exact Gb (Ax.rd t2) (E9 t2 F (by decide)) aR.o
  have bo:Hq (Bm p D (Y y n.length c4) n):=by rw[X];exact Gb (Ax.rd t3) (E9 t3 F (by decide)) aR.o
  clear t1 t2 t3;clear aN X c E F z0 f0 z1 f1 z2 f2 z3 f3 aU aS ay aG A b9 ca cb cc ah aT bl;have L:=H.o.below aM.o;have aH:=HJ.o.below aM.o;have am:q<p.heap.size:=Aa af;obtain⟨P,j1,S,j3,j4,j5,j6⟩:=aH.cells;have A:jb<p.heap.size:=Aa aH;have ah:=qC P A;have aT:=qC S A;have aL:=L.I8 a8;have aG:=L.lt;have aU:=qC aL aG;have aS:=L.bu.cap;have ay:=L.bu.lt;have bQ:=qC (show p.cell? ⟨q,0,O⟩=_ from Cr af) am;have bR:=qC (show p.cell? ⟨q,1,O⟩=_ from Cr af) am;have bS:=qC (show p.cell? ⟨q,2,O⟩=_ from Cr af) am;have bT:=qC (show p.cell? ⟨q,3,O⟩=_ from Cr af) am;obtain⟨H1,ci⟩:=H2 L aH;clear L aH P j1 S j3 j4 j5 j6 aL af;go_upto_region 2 with (fail);refine AS 16 [15] [] [] trivial ?_
  iterate 15 (refine An rfl rfl rfl ?_;intro K hK;go_big_quiet_op;go_big_quiet_on)
  refine AH rfl ?_;refine AR ?_;intro C c E;clear E;have h9:=H1.o.below c;have F9:∀ o,C.frozen? ⟨j.bu.b,o,O⟩=false:=h9.bu.frozen a8;obtain⟨v,pv,gv,aa,_,_,_⟩:=h9.bu.el k hk;have z0:C.cell? ⟨j.bu.b,k*4,O⟩=Z _:=aa 0 _ rfl;have f0:=F9 (k*4);have z1:C.cell? ⟨j.bu.b,k*4+1,O⟩=Z _:=aa 1 _ rfl;have f1:=F9 (k*4+1);have z2:C.cell? ⟨j.bu.b,k*4+2,O⟩=Z _:=aa 2 _ rfl;have f2:=F9 (k*4+2);have z3:C.cell? ⟨j.bu.b,k*4+3,O⟩=Z _:=aa 3 _ rfl;have f3:=F9 (k*4+3);have aI:=h9.Kr hk [(0,I J s.bufs[k].depth),(1,Y t l.length c2),(2,Y u m.length c3),(3,Y y n.length c4)] rfl aa (x:=⟨s.bufs[k].depth,l,m,n⟩) fun w' bz aQ=>⟨_,_,_,bz,(bn.o.Ag (.C9 c)).Ag aQ,(bp.o.Ag (.C9 c)).Ag aQ,(bo.o.Ag (.C9 c)).Ag aQ⟩;obtain⟨V,ak⟩:=ex ((((C.setCell ⟨j.bu.b,k*4,O⟩ (I J s.bufs[k].depth)).setCell ⟨j.bu.b,k*4+1,O⟩ (Y t l.length c2)).setCell ⟨j.bu.b,k*4+2,O⟩ (Y u m.length c3)).setCell ⟨j.bu.b,k*4+3,O⟩ (Y y n.length c4));refine AI (w':=V) (by rw[ak];simp[execOp,go_sem,z0,f0,z1,f1,z2,f2,z3,f3]) ?_;unfold A7;have aC:Hq (PA V D g d j {s with bufs:=s.bufs.set k ⟨s.bufs[k].depth,l,m,n⟩}):=by rw[ak];exact aI.1
  have cl:Hq (Upd (Mut g j) p V):=by rw[ak];exact(Upd.below c).trans aI.2
  have aY:Hq (Upd (Mut g j) w V):=by rw[ak];exact((Upd.below aM.o).trans (Upd.below (c.mono (cG _)))).trans aI.2
  clear ak aI aa F9 h9 c z0 f0 z1 f1 z2 f2 z3 f3 aU aS ay aG A bQ bR bS bT ah aT am;have h2:=aC.o;have R:=HJ.o.BG aY.o br.o;obtain⟨P,j1,S,j3,j4,j5,j6⟩:=R.cells;have A:jb<V.heap.size:=Aa R;have ah:=qC P A;have bP:=qC j6 A;have bZ:=HH R;clear h2 R P j1 S j3 j4 j5 j6;go_upto_region 3 with (fail);refine BQ 10 [(9,One V.heap.size (I J Q) 3)] ⟨One.AX,trivial⟩ ?_
  iterate 9 (refine AK rfl ?_;intro K hK;go_big_quiet_op;go_big_quiet_on)
  refine Ca rfl (fun w' a hA=>?_) ?_
  ·exact Bn (v:=Y (Z ⟨w'.heap.size,0,O⟩) 1 1) (w':=w'.alloc (T #[I J Q] 3)) (by simp[execOp,go_sem]) ⟨(cZ _ _).alloc (cG _) _,⟨w'.heap.size,a.size,rfl,cF _ _⟩⟩
  intro v w' a M;obtain⟨q3,bC,rfl,bE⟩:=M;clear a bC bE w';simp only[Au,b1,cE,b5];refine BN ?_;intro C c E;simp only[cO,cS,cW];have o9:=E 9 _ (by decide) rfl;have aj:=aY.o.trans (Upd.below c);obtain⟨aV,aZ⟩:=H2 (IG B C D g d j _ now (Y O 0 0) (Y (Z ⟨q3,0,O⟩) 1 1) [] [Q] (HG.o.BG aj HM.o) HM.o (aC.o.below c) bs.o A4.nil ⟨o9.sl (fun q hq=>EF aC.o hq)|>.1,(o9.sl (fun q hq=>EF aC.o hq)).2⟩ (by simp) (fun z N=>by cases N) (by simp) (fun z N=>by simp at N;subst N;exact bO) bJ bK) aj;clear E c aj o9 ah bP A;go_wp2_with fail;refine aV.o.mono ?_;rintro e w3 ⟨rfl,p3,u3⟩;obtain⟨bc,bd⟩:=H2 p3 (aZ.o.trans u3);clear p3 u3 aV;go_wp2_with fail;go_ret;rw[HE.o];exact⟨rfl,bc.o,bd.o⟩
def Ox:EG 126:=fun _ _=>by kernel_rfl
def Wa(B:Nat)(w:da)(D:Nat→Prop)(g:Nat)(d:Ad)(c:Hd)(s:Ae)(kind:Int)(k:Nat)(b:Int)(data:List Int)(N:Nat)(vd:c8)(i:Nat)(now:Int)(bc:Gl B w)(hM:∀ q∈Mut g c,B≤q)(h:PA w D g d c s)(ok:Ah d s)(hj:JB w N g kind k b vd i now)(bl:N∉Mut g c)(hD:∀ q,w.heap.size≤q→D q)(bP:0≤now)(bQ:now≤4294967296)(hk:k<s.boards.length)(hi:i<d.procs.length):
  c1 prog 87 #[G (Z ⟨N,0,O⟩)] w fun e w'=>e=.returned (.bool (Gu d i (⟨kind,k,b,data⟩:Ac) s).2)∧PA w' D g d c (Gu d i (⟨kind,k,b,data⟩:Ac) s).1∧Upd (Mut g c) w w':=by
 generalize a4:(d.procs.getD i default).prio=pr;have bh:Hq (∀ W,Bl w W→c1 prog 116 #[G (Z ⟨N,0,O⟩)] W fun e w'=>e=.returned (I J pr)∧Bl W w'):=fun W a=>by
  have:=Jm W D g d c s kind k b data N _ i now (h.below a) ok (hj.below a) (fun q hq=>hD q (c9 a.size hq)) hi;rwa [a4] at this
 obtain⟨M,j1,V,j3,j4,j5,j6⟩:=hj.cells;have t:N<w.heap.size:=Aa hj;have an:=qC M t;have aC:=qC V t;have aR:=qC j5 t;have aH:0<s.boards.length:=by omega
 have ao:=h.I7 aH;have af:=h.lt;have aD:=qC ao af;have aA:=h.bo.cap;have ae:=h.bo.lt;have h6:=ok.ok.procs;obtain⟨v,hc,hr⟩:=h.bo.el k hk;obtain⟨y0,y1,y2⟩:=EO hc;have bp:=qC y0 ae;have bq:=qC y1 ae;have br:=qC y2 ae;obtain⟨av,cv,rfl,_,_,_⟩:=hr.1.open_;have aQ:=(ok.bo _ (cV hk));obtain⟨l',vy,o,er,hw⟩:∃ l' vy o er,lookBd s.boards[k].has s.boards[k].val s.boards[k].wait i pr=(l',vy,o,er):=⟨_,_,_,_,rfl⟩;have HC:Hq (∀ W,Bl w W→c1 prog 126 #[.agg #[.bool s.boards[k].has,I U s.boards[k].val,.slice av s.boards[k].wait.length cv],I J i,I J pr] W (NH W s.boards[k].has s.boards[k].val l' (I U vy) (.bool o) (I J er))):=fun W a=>by
  have:=Xi s.boards[k].has s.boards[k].val i pr (.slice av s.boards[k].wait.length cv) s.boards[k].wait W (hr.1.below a) (aQ.wf h6) (by have:=aQ.len;omega);rwa [hw] at this
 have bg:Hq (Gu d i (⟨kind,k,b,data⟩:Ac) s=if o=true then(Co d i [vy] {s with boards:=s.boards.set k ⟨s.boards[k].has,s.boards[k].val,l'⟩},true) else({s with boards:=s.boards.set k ⟨s.boards[k].has,s.boards[k].val,l'⟩},false)):=by
  show Gu d i (⟨kind,k,b,data⟩:Ac) s=_;simp only[Gu,boA,prioA,cY,getD_at _ _ hk,a4,hw]
 have bB:Hq (Ah d {s with boards:=s.boards.set k ⟨s.boards[k].has,s.boards[k].val,l'⟩}):=ok.Km k (by have:=Pv (b:=s.boards[k].has) (x:=s.boards[k].val) (p:=i) (r:=pr) aQ (by omega) (by omega);rw[hw] at this;exact this);clear hw hr aQ;have bO:(k:Int)<(s.boards.length:Int):=by omega
 obtain⟨H,HJ,bf,HG,HM,bz⟩:=H6 h hj hD bc hM bl;clear h hj hD ok hc bc hM bl a4 M j1 V j3 j4 j5 j6 ao y0 y1 y2;cases o with
 |true=>
  have HE:=bg.o;rw[if_pos rfl] at HE;have HE:=HH HE;go_enter func87,ntmps87;go_upto_region 1 with (fail);refine AS 32 [28] [24,25,26,29,30,31] [(20,fun v _=>v=I J pr),(21,(fun v w'=>∃ j c2,v=.tuple #[.agg #[.bool s.boards[k].has,I U s.boards[k].val,Y j l'.length c2],I U vy,.bool true,I J er]∧Ax w' w.heap.size (Y j l'.length c2) l')),(27,Bh w.heap.size #[.bool false,I U 0,Y O 0 0] 103)] ⟨Ch,(fun v w1 w2 ⟨j,c2,e,h⟩ a=>⟨j,c2,e,Ty.below h a⟩),Bh.AX,trivial⟩ ?_
  iterate 20 (refine An rfl rfl rfl ?_;intro K hK;go_big_quiet_op;go_big_quiet_on)
  refine A9 rfl rfl (fun w' a hA=>?_) ?_
  ·refine AD (f:=116) (al:=[G (Z ⟨N,0,O⟩)]) rfl rfl rfl Ho ?_;exact(bh.o w' a).mono fun e w2 h=>⟨_,h.1,h.2,rfl⟩
  intro v w' a C;obtain rfl:=C;clear a w';simp only[Au,b1,cE,b5];refine A9 rfl rfl (fun w' a hA=>?_) ?_
  ·refine AD (f:=126) (al:=[.agg #[.bool s.boards[k].has,I U s.boards[k].val,.slice av s.boards[k].wait.length cv],I J i,I J pr]) rfl rfl rfl Ox ?_;exact(HC.o w' a).mono fun e w2 h=>by
    obtain⟨u,he,hf,aX⟩:=h;obtain⟨j,c2,hu⟩:=Bc hf.fr;subst hu;exact⟨_,he,aX,_,_,rfl,Ty.mono hf a.size⟩
  intro v w' a C;obtain⟨j,c2,rfl,a0⟩:=C;clear a a0 w';simp only[Au,b1,cE,b5]
  iterate 2 (refine An rfl rfl rfl ?_;intro K hK;go_big_quiet_op;go_big_quiet_on)
  iterate 3 (refine Bi rfl rfl rfl ?_;intro K hK;go_big_quiet_op;go_big_quiet_on)
  refine A9 rfl rfl (fun w' a hA=>?_) ?_
  ·exact EY (T #[.bool false,I U 0,Y O 0 0] 103) (by simp[execOp,go_sem]) ⟨w'.heap.size,a.size,rfl,cF _ _⟩
  intro v w' a C;obtain⟨q,hq,rfl,y⟩:=C;clear a hq y w';simp only[Au,b1,cE,b5];refine AH rfl ?_
  iterate 3 (refine Bi rfl rfl rfl ?_;intro K hK;go_big_quiet_op;go_big_quiet_on)
  refine AR ?_;intro n m z;have a7:=z 21 _ (by decide) rfl;obtain⟨a5,y⟩:=Bh.at_ (z 27 _ (by decide) rfl);obtain⟨a3,c3,e3,ar⟩:=a7;injection e3 with e3;simp only[cX,cU,cT,cR,true_and,and_true] at e3;obtain⟨rfl,rfl⟩:=e3;obtain⟨Q,R,S⟩:=r3 y;obtain⟨f0,f1,f2⟩:=f3 y;obtain⟨l,aq⟩:=ex (((n.setCell ⟨q,0,O⟩ (.bool s.boards[k].has)).setCell ⟨q,1,O⟩ (I U s.boards[k].val)).setCell ⟨q,2,O⟩ (Y j l'.length c2));refine AI (w':=l) (by rw[aq];simp[execOp,go_sem,Q,f0,R,f1,S,f2]) ?_;unfold A7;have ac:l=setsAt n q 0 [(0,.bool s.boards[k].has),(1,I U s.boards[k].val),(2,Y j l'.length c2)]:=aq;have ap:Hq (Bl w l):=by rw[ac];exact DH a5 m _
  have P:l.heap[q]? =Z (T #[.bool s.boards[k].has,I U s.boards[k].val,Y j l'.length c2] 103 (0,0)):=by rw[ac];exact Di _ y
  have aT:Hq (Bm l D (Y j l'.length c2) l'):=by rw[ac];exact Gb ar.fr.rd (E9 ar y (by decide)) bf.o
  clear ar;clear aq ac m z y Q f0 R f1 S f2 aD aA ae af t bp bq br an aC aR;have A:=H.o.below ap.o;have ag:=HJ.o.below ap.o;have ai:q<l.heap.size:=Aa P;obtain⟨M,j1,V,j3,j4,j5,j6⟩:=ag.cells;have t:N<l.heap.size:=Aa ag;have an:=qC M t;have aC:=qC V t;have ao:=A.I7 aH;have af:=A.lt;have aD:=qC ao af;have aA:=A.bo.cap;have ae:=A.bo.lt;have a9:=qC (show l.cell? ⟨q,0,O⟩=_ from Cr P) ai;have ba:=qC (show l.cell? ⟨q,1,O⟩=_ from Cr P) ai;have bb:=qC (show l.cell? ⟨q,2,O⟩=_ from Cr P) ai;obtain⟨H1,bx⟩:=H2 A ag;clear A ag M j1 V j3 j4 j5 j6 ao P;go_upto_region 2 with (fail);refine AS 16 [15] [] [] trivial ?_
  iterate 15 (refine An rfl rfl rfl ?_;intro K hK;go_big_quiet_op;go_big_quiet_on)
  refine AH rfl ?_;refine AR ?_;intro n m z;clear z;have h9:=H1.o.below m;have X:∀ o,n.frozen? ⟨c.bo.b,o,O⟩=false:=h9.bo.frozen aH;obtain⟨v,L,_⟩:=h9.bo.el k hk;have Q:n.cell? ⟨c.bo.b,k*3,O⟩=Z _:=L 0 _ rfl;have f0:=X (k*3);have R:n.cell? ⟨c.bo.b,k*3+1,O⟩=Z _:=L 1 _ rfl;have f1:=X (k*3+1);have S:n.cell? ⟨c.bo.b,k*3+2,O⟩=Z _:=L 2 _ rfl;have f2:=X (k*3+2);have ah:=h9.Kq hk [(0,.bool s.boards[k].has),(1,I U s.boards[k].val),(2,Y j l'.length c2)] rfl L (x:=⟨s.boards[k].has,s.boards[k].val,l'⟩) fun w' aY a1=>⟨_,aY,(aT.o.Ag (.C9 m)).Ag a1⟩;obtain⟨E,F⟩:=ex (((n.setCell ⟨c.bo.b,k*3,O⟩ (.bool s.boards[k].has)).setCell ⟨c.bo.b,k*3+1,O⟩ (I U s.boards[k].val)).setCell ⟨c.bo.b,k*3+2,O⟩ (Y j l'.length c2));refine AI (w':=E) (by rw[F];simp[execOp,go_sem,Q,f0,R,f1,S,f2]) ?_;unfold A7;have aK:Hq (PA E D g d c {s with boards:=s.boards.set k ⟨s.boards[k].has,s.boards[k].val,l'⟩}):=by rw[F];exact ah.1
  have bD:Hq (Upd (Mut g c) l E):=by rw[F];exact(Upd.below m).trans ah.2
  have aL:Hq (Upd (Mut g c) w E):=by rw[F];exact((Upd.below ap.o).trans (Upd.below (m.mono (cG _)))).trans ah.2
  clear F ah L X h9 m Q f0 R f1 S f2 aD aA ae af t a9 ba bb an aC ai;have h2:=aK.o;have aO:=HJ.o.BG aL.o bz.o;obtain⟨M,j1,V,j3,j4,j5,j6⟩:=aO.cells;have t:N<E.heap.size:=Aa aO;have an:=qC M t;have aR:=qC j5 t;have bN:=HH aO;clear h2 aO M j1 V j3 j4 j5 j6;go_upto_region 4 with (fail);refine BQ 10 [(9,One E.heap.size (I U vy) 5)] ⟨One.AX,trivial⟩ ?_
  iterate 9 (refine AK rfl ?_;intro K hK;go_big_quiet_op;go_big_quiet_on)
  refine Ca rfl (fun w' a hA=>?_) ?_
  ·exact Bn (v:=Y (Z ⟨w'.heap.size,0,O⟩) 1 1) (w':=w'.alloc (T #[I U vy] 5)) (by simp[execOp,go_sem]) ⟨(cZ _ _).alloc (cG _) _,⟨w'.heap.size,a.size,rfl,cF _ _⟩⟩
  intro v w' a C;obtain⟨q4,bJ,rfl,bK⟩:=C;clear a bJ bK w';simp only[Au,b1,cE,b5];refine BN ?_;intro n m z;simp only[cO,cS,cW];have o9:=z 9 _ (by decide) rfl;have aW:=aL.o.trans (Upd.below m);obtain⟨be,bF⟩:=H2 (Iu B n D g d c _ i (Y (Z ⟨q4,0,O⟩) 1 1) [vy] (HG.o.BG aW HM.o) (aK.o.below m) bB.o hi (o9.sl (D:=fun _=>True) (fun _ _=>trivial)).1 (by simp)) aW;clear z m aW o9 an aR t;go_wp2_with fail;refine be.o.mono ?_;rintro e w5 ⟨rfl,p5,u5⟩;obtain⟨bC,bE⟩:=H2 p5 (bF.o.trans u5);clear p5 u5 be;go_wp2_with fail;go_ret;rw[HE.o];exact⟨rfl,bC.o,bE.o⟩
 |false=>
  have HE:=bg.o;rw[if_neg (by decide)] at HE;have HE:=HH HE;go_enter func87,ntmps87;go_upto_region 1 with (fail);refine AS 32 [28] [24,25,26,29,30,31] [(20,fun v _=>v=I J pr),(21,(fun v w'=>∃ j c2,v=.tuple #[.agg #[.bool s.boards[k].has,I U s.boards[k].val,Y j l'.length c2],I U vy,.bool false,I J er]∧Ax w' w.heap.size (Y j l'.length c2) l')),(27,Bh w.heap.size #[.bool false,I U 0,Y O 0 0] 103)] ⟨Ch,(fun v w1 w2 ⟨j,c2,e,h⟩ a=>⟨j,c2,e,Ty.below h a⟩),Bh.AX,trivial⟩ ?_
  iterate 20 (refine An rfl rfl rfl ?_;intro K hK;go_big_quiet_op;go_big_quiet_on)
  refine A9 rfl rfl (fun w' a hA=>?_) ?_
  ·refine AD (f:=116) (al:=[G (Z ⟨N,0,O⟩)]) rfl rfl rfl Ho ?_;exact(bh.o w' a).mono fun e w2 h=>⟨_,h.1,h.2,rfl⟩
  intro v w' a C;obtain rfl:=C;clear a w';simp only[Au,b1,cE,b5];refine A9 rfl rfl (fun w' a hA=>?_) ?_
  ·refine AD (f:=126) (al:=[.agg #[.bool s.boards[k].has,I U s.boards[k].val,.slice av s.boards[k].wait.length cv],I J i,I J pr]) rfl rfl rfl Ox ?_;exact(HC.o w' a).mono fun e w2 h=>by
    obtain⟨u,he,hf,aX⟩:=h;obtain⟨j,c2,hu⟩:=Bc hf.fr;subst hu;exact⟨_,he,aX,_,_,rfl,Ty.mono hf a.size⟩
  intro v w' a C;obtain⟨j,c2,rfl,a0⟩:=C;clear a a0 w';simp only[Au,b1,cE,b5]
  iterate 2 (refine An rfl rfl rfl ?_;intro K hK;go_big_quiet_op;go_big_quiet_on)
  iterate 3 (refine Bi rfl rfl rfl ?_;intro K hK;go_big_quiet_op;go_big_quiet_on)
  refine A9 rfl rfl (fun w' a hA=>?_) ?_
  ·exact EY (T #[.bool false,I U 0,Y O 0 0] 103) (by simp[execOp,go_sem]) ⟨w'.heap.size,a.size,rfl,cF _ _⟩
  intro v w' a C;obtain⟨q,hq,rfl,y⟩:=C;clear a hq y w';simp only[Au,b1,cE,b5];refine AH rfl ?_
  iterate 3 (refine Bi rfl rfl rfl ?_;intro K hK;go_big_quiet_op;go_big_quiet_on)
  refine AR ?_;intro n m z;have a7:=z 21 _ (by decide) rfl;obtain⟨a5,y⟩:=Bh.at_ (z 27 _ (by decide) rfl);obtain⟨a3,c3,e3,ar⟩:=a7;injection e3 with e3;simp only[cX,cU,cT,cR,true_and,and_true] at e3;obtain⟨rfl,rfl⟩:=e3;obtain⟨Q,R,S⟩:=r3 y;obtain⟨f0,f1,f2⟩:=f3 y;obtain⟨l,aq⟩:=ex (((n.setCell ⟨q,0,O⟩ (.bool s.boards[k].has)).setCell ⟨q,1,O⟩ (I U s.boards[k].val)).setCell ⟨q,2,O⟩ (Y j l'.length c2));refine AI (w':=l) (by rw[aq];simp[execOp,go_sem,Q,f0,R,f1,S,f2]) ?_;unfold A7;have ac:l=setsAt n q 0 [(0,.bool s.boards[k].has),(1,I U s.boards[k].val),(2,Y j l'.length c2)]:=aq;have ap:Hq (Bl w l):=by rw[ac];exact DH a5 m _
  have P:l.heap[q]? =Z (T #[.bool s.boards[k].has,I U s.boards[k].val,Y j l'.length c2] 103 (0,0)):=by rw[ac];exact Di _ y
  have aT:Hq (Bm l D (Y j l'.length c2) l'):=by rw[ac];exact Gb ar.fr.rd (E9 ar y (by decide)) bf.o
  clear ar;clear aq ac m z y Q f0 R f1 S f2 aD aA ae af t bp bq br an aC aR;have A:=H.o.below ap.o;have ag:=HJ.o.below ap.o;have ai:q<l.heap.size:=Aa P;obtain⟨M,j1,V,j3,j4,j5,j6⟩:=ag.cells;have t:N<l.heap.size:=Aa ag;have an:=qC M t;have aC:=qC V t;have ao:=A.I7 aH;have af:=A.lt;have aD:=qC ao af;have aA:=A.bo.cap;have ae:=A.bo.lt;have a9:=qC (show l.cell? ⟨q,0,O⟩=_ from Cr P) ai;have ba:=qC (show l.cell? ⟨q,1,O⟩=_ from Cr P) ai;have bb:=qC (show l.cell? ⟨q,2,O⟩=_ from Cr P) ai;obtain⟨H1,bx⟩:=H2 A ag;clear A ag M j1 V j3 j4 j5 j6 ao P;go_upto_region 2 with (fail);refine AS 16 [15] [] [] trivial ?_
  iterate 15 (refine An rfl rfl rfl ?_;intro K hK;go_big_quiet_op;go_big_quiet_on)
  refine AH rfl ?_;refine AR ?_;intro n m z;clear z;have h9:=H1.o.below m;have X:∀ o,n.frozen? ⟨c.bo.b,o,O⟩=false:=h9.bo.frozen aH;obtain⟨v,L,_⟩:=h9.bo.el k hk;have Q:n.cell? ⟨c.bo.b,k*3,O⟩=Z _:=L 0 _ rfl;have f0:=X (k*3);have R:n.cell? ⟨c.bo.b,k*3+1,O⟩=Z _:=L 1 _ rfl;have f1:=X (k*3+1);have S:n.cell? ⟨c.bo.b,k*3+2,O⟩=Z _:=L 2 _ rfl;have f2:=X (k*3+2);have ah:=h9.Kq hk [(0,.bool s.boards[k].has),(1,I U s.boards[k].val),(2,Y j l'.length c2)] rfl L (x:=⟨s.boards[k].has,s.boards[k].val,l'⟩) fun w' aY a1=>⟨_,aY,(aT.o.Ag (.C9 m)).Ag a1⟩;obtain⟨E,F⟩:=ex (((n.setCell ⟨c.bo.b,k*3,O⟩ (.bool s.boards[k].has)).setCell ⟨c.bo.b,k*3+1,O⟩ (I U s.boards[k].val)).setCell ⟨c.bo.b,k*3+2,O⟩ (Y j l'.length c2));refine AI (w':=E) (by rw[F];simp[execOp,go_sem,Q,f0,R,f1,S,f2]) ?_;unfold A7;have aK:Hq (PA E D g d c {s with boards:=s.boards.set k ⟨s.boards[k].has,s.boards[k].val,l'⟩}):=by rw[F];exact ah.1
  have bD:Hq (Upd (Mut g c) l E):=by rw[F];exact(Upd.below m).trans ah.2
  have aL:Hq (Upd (Mut g c) w E):=by rw[F];exact((Upd.below ap.o).trans (Upd.below (m.mono (cG _)))).trans ah.2
  clear F ah L X h9 m Q f0 R f1 S f2 aD aA ae af t a9 ba bb an aC ai;go_wp2_with fail;go_ret;rw[HE.o];exact⟨rfl,aK.o,aL.o⟩
def Xw(n:Nat)(a:n≤6)(w:da):c1 prog 110 #[I .u64 1,I .u64 (n:Int)] w fun e w'=>e=.returned (.tuple #[I .u64 0,I .u64 (n:Int)])∧w'=w:=by
 rcases(show n=0∨n=1∨n=2∨n=3∨n=4∨n=5∨n=6 by omega) with rfl|rfl|rfl|rfl|rfl|rfl|rfl<;>(go_enter func110,ntmps110;go_wp2;refine bodyPost_ret (v:=.tuple #[I .u64 0,_]) (by simp[results,results110,go_sem];rfl) rfl ⟨rfl,rfl⟩)
def DR:List c8:=[I U 1,I J 0,I J 0,I U 0,I U 0,I U 0,I U 0,I J 0,I J (-1),I J (-1),I U 0,I J 0]
def G9(cur:List c8)(k:Nat):Prop:=∀ j,j<k*12→cur[j]? =DR[j%12]?
def Qz:(prog.info? 51).map (·.size)=Z 12:=by kernel_rfl
def OW:(prog.info? 51).map (fun i=>(i.zero,i.size,i.bytes))=Z (Z (.agg #[I U 0,I J 0,I J 0,I U 0,I U 0,I U 0,I U 0,I J 0,I J 0,I J 0,I U 0,I J 0]),12,72):=by kernel_rfl
def Oq:∀ u∈DR,u.oneCell'=true:=by
 intro u a;simp only[DR,List.mem_cons,List.not_mem_nil,or_false] at a;rcases a with rfl|rfl|rfl|rfl|rfl|rfl|rfl|rfl|rfl|rfl|rfl|rfl<;>rfl
def SS{cur:List c8}{k:Nat}(h:G9 cur k){m:Nat}(e:m≤k)(c:k*12≤cur.length):(cur.take (m*12)).length=m*12∧(∀ u∈cur.take (m*12),u.oneCell'=true):=by
 refine⟨by simp;omega,fun u b=>?_⟩;obtain⟨j,a⟩:=List.mem_iff_getElem?.1 b;rw[cP] at a;split at a
 ·rename_i d;rw[h j (by omega)] at a;exact Oq u (List.mem_of_getElem? a)
 ·cases a
def Ot{cur a:List c8}{k m:Nat}(h:G9 cur k)(f:a.length=m*12)(d:∀ j,j<m*12→a[j]? =DR[j%12]?)(g:k*12+m*12≤cur.length):G9 (splice cur (k*12) a) (k+m):=fun j c=>by
 unfold splice;rcases dn j (k*12) with b|b
 ·rw[db (by simp;omega),cP,if_pos b];exact h j b
 ·rw[List.getElem?_append_right (by simp;omega)];have e:j-(cur.take (k*12)).length=j-k*12:=by
   rw[dh,Nat.min_eq_left (by omega)]
  rw[e,db (by rw[f];rw[Nat.add_mul] at c;omega),d _ (by rw[Nat.add_mul] at c;omega)]
  congr 1
  omega
def Rm(w:da)(n:Nat)(e:Ending)(w':da):Prop:=e=.returned (Y (Z ⟨w.heap.size,0,O⟩) n n)∧(∃ cur,w'.heap[w.heap.size]? =Z (T cur.toArray 51 (0,0))∧cur.length=n*12∧G9 cur n)∧Bl w w'
def Y0(b n:Nat)(w:da)(H:w.heap[b]? =Z (T DR.toArray 51 (0,0)))(hn:n≤6):
  c1 prog 67 #[Y (Z ⟨b,0,O⟩) 1 1,I J (n:Int)] w (Rm w n):=by
 obtain⟨i0,V,ac,ad,ae⟩:=info_parts OW;have am:b<w.heap.size:=Aa H;obtain⟨d,M⟩:∃ d:Array c8,d=madeCells (Value.cells (.agg #[I U 0,I J 0,I J 0,I U 0,I U 0,I U 0,I U 0,I J 0,I J 0,I J 0,I U 0,I J 0])) (n*12):=⟨_,rfl⟩;have t:d.size=n*12:=by rw[M,size_madeCells]
 have X:∀ W:da,(Instr.makeSlice 33 (I J (n:Int)) (I J (n:Int))).run prog W=.ok (Y (Z ⟨W.heap.size,0,O⟩) n n) (W.alloc (T d 51)):=fun W=>by
  have:=run_make (P:=prog) W 33 51 i0 _ underlying33 V ac J J n n (by omega) (Int.le_refl _) (by rw[ae];omega) (by omega);rw[ad,cY,←M] at this;exact this
 obtain⟨f,r⟩:=ex (w.alloc (T d 51));have F:f.heap[w.heap.size]? =Z (T d.toList.toArray 51 (0,0)):=by
  rw[r];exact cF w _
 have D:f.heap[b]? =Z (T DR.toArray 51 (0,0)):=by
  rw[r,Below.heap_alloc _ _ _ am];exact H
 have i:Bl w f:=by
  rw[r];exact(cZ _ w).alloc (cG _) _
 obtain⟨k0,l⟩:=ex (df 1 n);have ap:k0≤n:=by rw[l];exact dj _ _
 have aC:k0≤1:=by rw[l];exact dl _ _
 have aq:0<n→0<k0:=fun h=>by rw[l];exact Nat.le_min.2 ⟨cG _,h⟩
 have c:(DR.take (k0*12)).length=k0*12:=by
  rw[dh,show DR.length=12 from rfl];omega
 have an:∀ p,(di #[33,33] p #[Y (Z ⟨w.heap.size,0,O⟩) n n,Y (Z ⟨b,0,O⟩) 1 1]).run prog f=.ok (goInt k0) (f.setRow w.heap.size (splice d.toList 0 (DR.take (k0*12))).toArray):=fun p=>by
  rw[l];exact Jt f _ _ p 51 12 w.heap.size 0 n n ⟨b,0,O⟩ 1 1 d.toList _ (DR.take (df 1 n*12)) underlying33 Qz F (by rw[←l];exact c)
   (fun j v a=>by
    rw[Cu,cell_of_row f b _ _ _ _ D];rw[cP] at a;split at a
    ·simpa using a
    ·cases a) (by rw[←l,c];simp[t];omega) (fun u hu=>Oq u (List.mem_of_mem_take hu))
 obtain⟨Q,y⟩:=ex (f.setRow w.heap.size (splice d.toList 0 (DR.take (k0*12))).toArray);rw[←y,r] at an;have C:Hq (∃ cur,Q.heap[w.heap.size]? =Z (T cur.toArray 51 (0,0))∧cur.length=n*12∧G9 cur k0∧Bl w Q):=by
  refine⟨splice d.toList 0 (DR.take (k0*12)),by rw[y];exact setRow_heap f _ _ _ _ _ F,?_,?_,?_⟩
  ·rw[length_splice _ _ _ (by rw[c];simp[t];omega)];simp[t]
  ·have:=Ot (cur:=d.toList) (k:=0) (m:=k0) (fun j a=>by omega) c (fun j a=>by
    rw[cP,if_pos a]
    congr 1
    omega) (by simp[t];omega)
   simpa using this
  ·rw[y];exact⟨i.os,i.tape,i.output,by simpa[dm] using i.size,fun q L=>(setRow_other f _ q _ (by omega)).trans (i.block q L)⟩
 have aa:=Xw n hn;have aH:¬((n:Int)<0):=by omega
 have aK:IntKind.u64.wrap (n:Int)=(n:Int):=by rw[IntKind.wrap_u64];omega
 have aI:IntKind.i64.wrap (n:Int)=(n:Int):=by rw[de];omega
 have aA:¬((9223372036854775807:Int)<(n:Int)):=by omega
 obtain⟨ag,az⟩:=H2 aa (And.intro D i);clear l y r H F D i aa V ac ad ae c t M;go_enter func67,ntmps67;go_upto_region 8 with (first|(go_at_call 110;refine(ag.o _).mono ?_;rintro e w3 ⟨rfl,ab⟩;obtain rfl:w=w3:=ab.symm;clear ab)|fail)
 go_loopw [8] (fun v wr=>∃ k:Nat,k≤n∧(0<n→0<k)∧v=I J k∧Hq (∃ cur,wr.heap[w.heap.size]? =Z (T cur.toArray 51 (0,0))∧cur.length=n*12∧G9 cur k∧Bl w wr)) (fun v _=>n-(intOf v).toNat)
 case atStart=>exact⟨k0,ap,aq,rfl,C.o⟩
 case round=>
  obtain⟨k,aD,ar,rfl,A⟩:=hrel;by_cases hk:k<n
  ·obtain⟨cur,x,K,B,R⟩:=A.o;have aE:(k:Int)<(n:Int):=by omega
   obtain⟨m,g⟩:=ex (df k (n-k));have au:m≤k:=by rw[g];exact dl _ _
   have aF:m≤n-k:=by rw[g];exact dj _ _
   have aG:0<m:=by rw[g];exact Nat.le_min.2 ⟨ar (by omega),by omega⟩
   obtain⟨c,S⟩:=SS B au (by omega);have ao:∀ p E N,(di #[33,33] p #[Y (Z ⟨w.heap.size,k*12,O⟩) (n-k) E,Y (Z ⟨w.heap.size,0,O⟩) k N]).run prog wr.drew=.ok (goInt m) (wr.drew.setRow w.heap.size (splice cur (k*12) (cur.take (m*12))).toArray):=fun p E N=>by
    rw[g];exact Jt wr.drew _ _ p 51 12 w.heap.size (k*12) (n-k) E ⟨w.heap.size,0,O⟩ k N cur _ (cur.take (df k (n-k)*12)) underlying33 Qz x (by rw[←g];exact c)
     (fun j v a=>by
      rw[Cu,cell_of_row wr.drew _ _ _ _ _ x];rw[cP] at a;split at a
      ·simpa using a
      ·cases a) (by rw[←g,c,K];omega) (by rw[←g];exact S)
   obtain⟨W3,z⟩:=ex (wr.drew.setRow w.heap.size (splice cur (k*12) (cur.take (m*12))).toArray);have HN:Hq (∃ cur,W3.heap[w.heap.size]? =Z (T cur.toArray 51 (0,0))∧cur.length=n*12∧G9 cur (k+m)∧Bl w W3):=by
    refine⟨splice cur (k*12) (cur.take (m*12)),by rw[z];exact setRow_heap wr.drew _ _ _ _ _ x,?_,?_,?_⟩
    ·rw[length_splice _ _ _ (by rw[c];omega)];exact K
    ·exact Ot B c (fun j a=>by
      rw[cP,if_pos a];exact B j (by omega)) (by omega)
    ·have s:Bl w wr.drew:=R.drew;rw[z];exact⟨s.os,s.tape,s.output,by simpa[dm] using s.size,fun q L=>(setRow_other wr.drew _ q _ (by omega)).trans (s.block q L)⟩
   rw[←z] at ao;have aJ:IntKind.i64.wrap ((k:Int)+(m:Int))=(k:Int)+(m:Int):=by rw[de];omega
   clear g z x K B R c S A C X;go_wp2_with fail
   go_region
   go_roundw
   case rel=>exact⟨I J ((k:Int)+(m:Int)),_,_,_,_,_,_,_,_,_,_,_,_,_,⟨k+m,by omega,by omega,by simp,HN.o⟩,rfl⟩
   case measure=>simp[intOf];omega
  ·obtain rfl:k=n:=by omega
   have HA:=HH A.o;clear A C X;go_wp2_with fail;go_ret;obtain⟨cur,h1,h2,h3,h4⟩:=HA.o;exact⟨rfl,⟨cur,h1,h2,h3⟩,h4⟩
def Wl(w:da)(D:Nat→Prop)(g:Nat)(d:Ad)(a:Hd)(s:Ae)(kind:Int)(k:Nat)(b:Int)(data:List Int)(r:Nat)(W:c8)(i:Nat)(now:Int)(h:PA w D g d a s)(ok:Ah d s)(n:JB w r g kind k b W i now)(F:∀ q,w.heap.size≤q→D q)(j:k<s.mem.length):
  c1 prog 76 #[G (Z ⟨r,0,O⟩)] w fun e w'=>e=.returned (.bool true)∧PA w' D g d a (Q9 (⟨kind,k,b,data⟩:Ac) s)∧Upd (Mut g a) w w':=by
 obtain⟨y,Q,z,A,R,S,V⟩:=n.cells;have p:r<w.heap.size:=Aa n;have v:0<s.mem.length:=by omega
 have B:=h.YU v;have N:=h.lt;have ah:=qC B N;have aa:=h.me.cap;have L:=h.me.lt;have u:=h.me.el k j;have m:w.cell? ⟨a.me.b,k*1,O⟩=Z (I U s.mem[k]):=u 0 _ rfl;rw[dd] at m;have qm:=qC m L;have ac:(k:Int)<(s.mem.length:Int):=by omega
 have H:=HH h;have ad:=qC y p;have ae:=qC z p;have af:=qC A p;clear h n F ok u m y Q z A R S V B;go_enter func76,ntmps76;go_upto_region 1 with (fail);refine AS 20 [19] [] [] trivial ?_
 iterate 19 (refine An rfl rfl rfl ?_;intro K hK;go_big_quiet_op;go_big_quiet_on)
 refine AH rfl ?_;refine AR ?_;intro t l P;have f:=H.o.below l;have f0:t.frozen? ⟨a.me.b,k,O⟩=false:=f.me.frozen v k;have X:t.cell? ⟨a.me.b,k,O⟩=Z (I U s.mem[k]):=by
  have:=f.me.el k j 0 _ rfl;rwa [dd] at this
 have c:=f.YO j [(0,I U (b%256))] rfl (f.me.el k j) (x:=b%256) fun w' M ab=>M
 obtain⟨E,C⟩:=H2 c l;clear c f l P;refine AI (w':=t.setCell ⟨a.me.b,k,O⟩ (I U (b%256))) (by simp[execOp,go_sem,X,f0]) ?_;unfold A7;go_wp2_with fail;go_ret;have c:=E.o;simp only[setsAt,dd,Nat.add_zero] at c;refine⟨rfl,?_,(Upd.below C.o).trans c.2⟩;show PA _ D g d a {s with mem:=s.mem.set ((k:Int).toNat) (b%256)};exact c.1
def cc12{w:da}{b o:Nat}{a c f g i k l m n p d e:c8}(h:∀ (j:Nat) (v:c8),[a,c,f,g,i,k,l,m,n,p,d,e][j]? =Z v→w.cell? ⟨b,o+j,O⟩=Z v):w.cell? ⟨b,o,O⟩=Z a∧w.cell? ⟨b,o+1,O⟩=Z c∧w.cell? ⟨b,o+2,O⟩=Z f∧w.cell? ⟨b,o+3,O⟩=Z g∧w.cell? ⟨b,o+4,O⟩=Z i∧w.cell? ⟨b,o+5,O⟩=Z k∧w.cell? ⟨b,o+6,O⟩=Z l∧w.cell? ⟨b,o+7,O⟩=Z m∧w.cell? ⟨b,o+8,O⟩=Z n∧w.cell? ⟨b,o+9,O⟩=Z p∧w.cell? ⟨b,o+10,O⟩=Z d∧w.cell? ⟨b,o+11,O⟩=Z e:=⟨h 0 _ rfl,h 1 _ rfl,h 2 _ rfl,h 3 _ rfl,h 4 _ rfl,h 5 _ rfl,h 6 _ rfl,h 7 _ rfl,h 8 _ rfl,h 9 _ rfl,h 10 _ rfl,h 11 _ rfl⟩
def Pb(B:Nat)(w:da)(D:Nat→Prop)(g:Nat)(d:Ad)(a:Hd)(s:Ae)(kind:Int)(k:Nat)(b:Int)(data:List Int)(v:Nat)(vd:c8)(i:Nat)(now:Int)(h:PA w D g d a s)(ok:Ah d s)(u:JB w v g kind k b vd i now)(hD:∀ q,w.heap.size≤q→D q)(c:Gl B w)(t:i<s.procs.length):
  c1 prog 90 #[G (Z ⟨v,0,O⟩)] w fun e w'=>e=.returned (.bool true)∧PA w' D g d a (stopA i s)∧Upd (Mut g a) w w':=by
 obtain⟨j0,j1,j2,j3,j4,j5,j6⟩:=u.cells;have W:v<w.heap.size:=Aa u;have X:0<s.procs.length:=by omega
 have ad:=h.FC X;have aw:=h.lt;have aQ:=qC ad aw;have ar:=h.pr.cap;have m:=h.pr.lt;obtain⟨x0,x1,x2,x3,hx,V⟩:=h.pr.el i t;obtain⟨y0,y1,y2,y3,y4,y5,y6,y7,y8,y9,ag,ah⟩:=cc12 V;have n:0<w.heap.size:=by
  have:=c.hb;have:=c.hw;show 0<_;omega
 have z:w.cell? ⟨0,0,O⟩=Z (I U 1):=by have:=c.BC 0 _ rfl;simpa using this
 have A:w.cell? ⟨0,1,O⟩=Z (I J 0):=by have:=c.BC 1 _ rfl;simpa using this
 have F:w.cell? ⟨0,2,O⟩=Z (I J 0):=by have:=c.BC 2 _ rfl;simpa using this
 have L:w.cell? ⟨0,3,O⟩=Z (I U 0):=by have:=c.BC 3 _ rfl;simpa using this
 have M:w.cell? ⟨0,4,O⟩=Z (I U 0):=by have:=c.BC 4 _ rfl;simpa using this
 have N:w.cell? ⟨0,5,O⟩=Z (I U 0):=by have:=c.BC 5 _ rfl;simpa using this
 have P:w.cell? ⟨0,6,O⟩=Z (I U 0):=by have:=c.BC 6 _ rfl;simpa using this
 have Q:w.cell? ⟨0,7,O⟩=Z (I J 0):=by have:=c.BC 7 _ rfl;simpa using this
 have R:w.cell? ⟨0,8,O⟩=Z (I J (-1)):=by have:=c.BC 8 _ rfl;simpa using this
 have S:w.cell? ⟨0,9,O⟩=Z (I J (-1)):=by have:=c.BC 9 _ rfl;simpa using this
 have C:w.cell? ⟨0,10,O⟩=Z (I U 0):=by have:=c.BC 10 _ rfl;simpa using this
 have E:w.cell? ⟨0,11,O⟩=Z (I J 0):=by have:=c.BC 11 _ rfl;simpa using this
 have aE:=qC z n;have aF:=qC A n;have aI:=qC F n;have aJ:=qC L n;have aK:=qC M n;have aL:=qC N n;have aM:=qC P n;have aN:=qC Q n;have aO:=qC R n;have aP:=qC S n;have aG:=qC C n;have aH:=qC E n;have aR:=qC y0 m;have aS:=qC y1 m;have aV:=qC y2 m;have aW:=qC y3 m;have aX:=qC y4 m;have aY:=qC y5 m;have aZ:=qC y6 m;have a0:=qC y7 m;have a1:=qC y8 m;have a2:=qC y9 m;have aT:=qC ag m;have aU:=qC ah m;have bg:(i:Int)<(s.procs.length:Int):=by omega
 have H:=HH h;have bi:=qC j0 W;have bj:=qC j5 W;clear h u hD ok V c j0 j1 j2 j3 j4 j5 j6 ad y0 z y1 A y2 F y3 L y4 M y5 N y6 P y7 Q y8 R y9 S ag C ah E;go_enter func90,ntmps90;go_upto_region 1 with (fail);refine AS 15 [14] [] [] trivial ?_
 iterate 14 (refine An rfl rfl rfl ?_;intro K hK;go_big_quiet_op;go_big_quiet_on)
 refine AH rfl ?_;refine AR ?_;intro j r ax;have p:=H.o.below r;have l:∀ o,j.frozen? ⟨a.pr.b,o,O⟩=false:=p.pr.frozen X;obtain⟨u0,u1,u2,u3,hx,f⟩:=p.pr.el i t;have z0:j.cell? ⟨a.pr.b,i*12,O⟩=Z _:=f 0 _ rfl;have f0:=l (i*12);have z1:j.cell? ⟨a.pr.b,i*12+1,O⟩=Z _:=f 1 _ rfl;have f1:=l (i*12+1);have z2:j.cell? ⟨a.pr.b,i*12+2,O⟩=Z _:=f 2 _ rfl;have f2:=l (i*12+2);have z3:j.cell? ⟨a.pr.b,i*12+3,O⟩=Z _:=f 3 _ rfl;have f3:=l (i*12+3);have z4:j.cell? ⟨a.pr.b,i*12+4,O⟩=Z _:=f 4 _ rfl;have f4:=l (i*12+4);have z5:j.cell? ⟨a.pr.b,i*12+5,O⟩=Z _:=f 5 _ rfl;have f5:=l (i*12+5);have z6:j.cell? ⟨a.pr.b,i*12+6,O⟩=Z _:=f 6 _ rfl;have f6:=l (i*12+6);have z7:j.cell? ⟨a.pr.b,i*12+7,O⟩=Z _:=f 7 _ rfl;have f7:=l (i*12+7);have z8:j.cell? ⟨a.pr.b,i*12+8,O⟩=Z _:=f 8 _ rfl;have f8:=l (i*12+8);have z9:j.cell? ⟨a.pr.b,i*12+9,O⟩=Z _:=f 9 _ rfl;have f9:=l (i*12+9);have a6:j.cell? ⟨a.pr.b,i*12+10,O⟩=Z _:=f 10 _ rfl;have f10:=l (i*12+10);have a7:j.cell? ⟨a.pr.b,i*12+11,O⟩=Z _:=f 11 _ rfl;have f11:=l (i*12+11);have hp:=p.FY t [(0,I U 1),(1,I J 0),(2,I J 0),(3,I U 0),(4,I U 0),(5,I U 0),(6,I U 0),(7,I J 0),(8,I J (-1)),(9,I J (-1)),(10,I U 0),(11,I J 0)] rfl f (x:=EU) fun w' av bh=>⟨0,0,0,0,rfl,av⟩;obtain⟨y,aq⟩:=H2 hp r;clear hp p r ax f l aQ ar aE aR aF aS aI aV aJ aW aK aX aL aY aM aZ aN a0 aO a1 aP a2 aG aT aH aU;refine AI (w':=((((((((((((j.setCell ⟨a.pr.b,i*12,O⟩ (I U 1)).setCell ⟨a.pr.b,i*12+1,O⟩ (I J 0)).setCell ⟨a.pr.b,i*12+2,O⟩ (I J 0)).setCell ⟨a.pr.b,i*12+3,O⟩ (I U 0)).setCell ⟨a.pr.b,i*12+4,O⟩ (I U 0)).setCell ⟨a.pr.b,i*12+5,O⟩ (I U 0)).setCell ⟨a.pr.b,i*12+6,O⟩ (I U 0)).setCell ⟨a.pr.b,i*12+7,O⟩ (I J 0)).setCell ⟨a.pr.b,i*12+8,O⟩ (I J (-1))).setCell ⟨a.pr.b,i*12+9,O⟩ (I J (-1))).setCell ⟨a.pr.b,i*12+10,O⟩ (I U 0)).setCell ⟨a.pr.b,i*12+11,O⟩ (I J 0))) (by simp[execOp,go_sem,z0,f0,z1,f1,z2,f2,z3,f3,z4,f4,z5,f5,z6,f6,z7,f7,z8,f8,z9,f9,a6,f10,a7,f11]) ?_;unfold A7;go_wp2_with fail;go_ret;exact⟨rfl,y.o.1,(Upd.below aq.o).trans y.o.2⟩
def Wc(B:Nat)(w:da)(D:Nat→Prop)(g:Nat)(d:Ad)(a:Hd)(s:Ae)(kind:Int)(k:Nat)(b:Int)(data:List Int)(p:Nat)(vd:c8)(i:Nat)(now:Int)(h:PA w D g d a s)(ok:Ah d s)(j:JB w p g kind k b vd i now)(hD:∀ q,w.heap.size≤q→D q)(ae:Gl B w)(f:i<s.procs.length)(hid:i<d.procs.length):
  c1 prog 89 #[G (Z ⟨p,0,O⟩)] w fun e w'=>e=.returned (.bool (nextA d i s).2)∧PA w' D g d a (nextA d i s).1∧Upd (Mut g a) w w':=by
 have HS:Hq (∀ W,Bl w W→c1 prog 90 #[G (Z ⟨p,0,O⟩)] W fun e w'=>e=.returned (.bool true)∧PA w' D g d a (stopA i s)∧Upd (Mut g a) W w'):=fun W z=>
  Pb B W D g d a s kind k b data p vd i now (h.below z) ok (j.below z) (fun q hq=>hD q (c9 z.size hq)) (ae.below z) f
 obtain⟨m,Q,R,S,V,n,X⟩:=j.cells;have ah:p<w.heap.size:=Aa j;have aD:0<d.procs.length:=by omega
 have aq:=h.GW aD;have ag:=h.lt;have aI:=qC aq ag;have aK:=h.Ay.cap;have aA:=h.Ay.lt;obtain⟨nm,v,A,_⟩:=h.Ay.el i hid;have y2:w.cell? ⟨a.Ay.b,i*5+2,O⟩=Z (I J d.procs[i].period):=A 2 _ rfl;have aN:(i:Int)<(d.procs.length:Int):=by omega
 have aO:(i:Int)<(s.procs.length:Int):=by omega
 have N:0<s.procs.length:=by omega
 have r:=h.FC N;have ap:=qC r ag;have aL:=h.pr.cap;have aM:=h.pr.lt;have am:=qC m ah;have an:=qC n ah;have qp:=qC y2 aA;have y9:∃ v,w.cell? ⟨a.pr.b,i*12+9,O⟩=Z v:=by
  obtain⟨x0,x1,x2,x3,hx,A⟩:=h.pr.el i f;exact⟨_,A 9 _ rfl⟩
 obtain⟨v9,y9⟩:=y9;have C:Hq (nextA d i s=if d.procs[i].period=0 then(stopA i s,true) else({s with procs:=s.procs.set i {s.procs[i] with deadline:=-1}},false)):=by
  show nextA d i s=_;simp only[nextA,getD_at _ _ hid,getD_at _ _ f]
 generalize aE:d.procs[i].period=al at qp y2 C;clear aE;obtain⟨H,HJ⟩:=H2 h j;clear h j hD ok A ae y2 y9 m Q R S V n X aq r;go_enter func89,ntmps89;go_upto_region 1 with (fail);refine BQ 16 [] trivial ?_
 iterate 16 (refine AK rfl ?_;intro K hK;go_big_quiet_op;go_big_quiet_on)
 refine BN ?_;intro w9 c aH;simp only[cO,cS,cW];clear aH;by_cases P:al=0
 ·subst P;have HC:=HH (HS.o w9 c);have E:Hq (Upd (Mut g a) w w9):=Upd.below c;clear c;go_wp2_with fail;refine HC.o.mono ?_;rintro e w2 ⟨rfl,l,hu⟩;obtain⟨t,HU⟩:=H2 l (E.o.trans hu);clear l hu;go_wp2_with fail;go_ret;rw[C.o];exact⟨rfl,t.o,HU.o⟩
 ·have aQ:(al==0)=false:=by simpa using P
  have u:=H.o.below c;have M:=HJ.o.below c;have E:Hq (Upd (Mut g a) w w9):=Upd.below c;obtain⟨m,Q,R,S,V,n,X⟩:=M.cells;have ai:=Aa M;have r:=u.FC N;have aC:=u.lt;clear ap am an aI qp;have am:=qC m ai;have an:=qC n ai;have ap:=qC r aC;have H1:=HH u;clear u M m Q R S V n X r c;go_upto_region 3 with (fail);refine AS 15 [14] [] [] trivial ?_
  iterate 14 (refine An rfl rfl rfl ?_;intro K hK;go_big_quiet_op;go_big_quiet_on)
  refine AH rfl ?_;refine AR ?_;intro w8 F aG;have y:=H1.o.below F;obtain⟨u0,u1,u2,u3,hx,L⟩:=y.pr.el i f;have z0:w8.cell? ⟨a.pr.b,i*12+9,O⟩=Z _:=L 9 _ rfl;have f0:w8.frozen? ⟨a.pr.b,i*12+9,O⟩=false:=y.pr.frozen N _;have l:=y.FY f [(9,I J (-1))] rfl L (x:={s.procs[i] with deadline:=-1}) fun w' aB aP=>⟨u0,u1,u2,u3,hx,aB⟩;obtain⟨t,av⟩:=H2 l F;clear l y F aG L;refine AI (w':=w8.setCell ⟨a.pr.b,i*12+9,O⟩ (I J (-1))) (by simp[execOp,go_sem,z0,f0]) ?_;unfold A7;go_wp2_with fail;go_ret;rw[C.o,if_neg P];exact⟨rfl,t.o.1,(E.o.trans (Upd.below av.o)).trans t.o.2⟩
def Cv{α:Type}(l:List α)(i k:Nat)(v d:α):(l.set i v).getD k d=if i=k∧k<l.length then v else l.getD k d:=by
 simp only[cQ,List.getElem?_set];by_cases h:i=k
 ·subst h;by_cases a:i<l.length
  ·simp[a]
  ·simp[a]
 ·simp[h]
def getD_mem{α:Type}{l:List α}{k:Nat}{d:α}(h:k<l.length):l.getD k d∈l:=by
 rw[cQ,dc h];exact cV h
def DP(s:Ae)(p b a:Int):Prop:=0≤p∧(s.procs.getD p.toNat default).status=3∧(s.procs.getD p.toNat default).why=b∧(s.procs.getD p.toNat default).on=a
def AF(s:Ae)(kind:Int)(k:Nat):List Wt:=
 if kind=3 then(s.queues.getD k default).wait
 else if kind=4 then(s.semas.getD k default).wait
 else if kind=8 then(s.events.getD k default).wait
 else if kind=9 then(s.bufs.getD k default).put
 else if kind=10 then(s.bufs.getD k default).get
 else if kind=12 then(s.boards.getD k default).wait
 else []
def Inv(s:Ae):Prop:=∀ kind k x,x∈AF s kind k→DP s x.proc kind k
section
variable {d:Ad} {s s':Ae} {i:Nat} {t now:Int} {data:List Int} {a:Ac}
def Inv.kinds(h:Inv s){kind:Int}{k:Nat}{x:Wt}(l:x∈AF s kind k):kind=3∨kind=4∨kind=8∨kind=9∨kind=10∨kind=12:=by
 unfold AF at l;by_cases e:kind=3
 ·exact .inl e
 by_cases f:kind=4
 ·exact .inr (.inl f)
 by_cases g:kind=8
 ·exact .inr (.inr (.inl g))
 by_cases j:kind=9
 ·exact .inr (.inr (.inr (.inl j)))
 by_cases b:kind=10
 ·exact .inr (.inr (.inr (.inr (.inl b))))
 by_cases c:kind=12
 ·exact .inr (.inr (.inr (.inr (.inr c))))
 simp[e,f,g,j,b,c] at l
def Z6(j:Int):∃ P,CT d t data s j={s with procs:=P}:=by
 unfold CT;split
 ·exact⟨_,rfl⟩
 ·exact⟨_,rfl⟩
def Kx:∀ (l:List Int) (s:Ae),∃ P,wakeP d t data l s={s with procs:=P}
 | [],s=>⟨_,rfl⟩
 |j::l,s=>by
  obtain⟨P,b⟩:=Z6 (d:=d) (t:=t) (data:=data) (s:=s) j;obtain⟨Q,c⟩:=Kx l (CT d t data s j);refine⟨Q,?_⟩;show wakeP d t data l (CT d t data s j)=_;rw[c,b]
def Z7(l:List Int)(kind:Int)(k:Nat):AF (wakeP d t data l s) kind k=AF s kind k:=by
 obtain⟨P,b⟩:=Kx (d:=d) (t:=t) (data:=data) l s;rw[b];rfl
def ON(l:List Ai)(x:St)(data:List Int):(DS l x data).pc=x.pc:=by
 unfold DS;split
 ·rfl
 ·split
  ·simp only[D2];split<;>rfl
  ·rfl
structure Wk(x y:BA)(m:Bool):Prop where
 same:m=false→y=x
 ready:m=true→y.status=2
 pc:y.s.pc=x.s.pc
 deadline:y.deadline=x.deadline
 release:y.release=x.release
def Wk.refl(x:BA):Wk x x false:=⟨fun _=>rfl,fun h=>(by cases h),rfl,rfl,rfl⟩
def Z5(j:Int)(k:Nat)(g:k<s.procs.length):Wk (s.procs.getD k default) ((CT d t data s j).procs.getD k default) (decide ((k:Int)=j)):=by
 unfold CT;by_cases c:0≤j
 ·rw[if_pos c];by_cases f:(k:Int)=j
  ·have e:j.toNat=k:=by omega
   rw[decide_eq_true f,e];have b:(En k t (Co d k data s)).procs.getD k default=readyR t (Hp d k data (s.procs.getD k default)):=by
    simp only[En,Co,Cv,dk];simp[g]
   rw[b];exact⟨fun h=>(by cases h),fun _=>rfl,ON _ _ _,rfl,rfl⟩
  ·have e:¬j.toNat=k:=by omega
   rw[decide_eq_false f];have b:(En j.toNat t (Co d j.toNat data s)).procs.getD k default=s.procs.getD k default:=by
    simp only[En,Co,Cv,dk];simp[e]
   rw[b];exact .refl _
 ·rw[if_neg c,decide_eq_false (by omega)];exact .refl _
def Wk.trans{x y z:BA}{m n:Bool}(h:Wk x y m)(k:Wk y z n):Wk x z (m||n):=
 ⟨fun e=>by
  simp only[Bool.or_eq_false_iff] at e;rw[k.same e.2,h.same e.1],fun e=>by
  cases n with
  |true=>exact k.ready rfl
  |false=>
   simp only[Bool.or_false] at e;rw[k.same rfl];exact h.ready e,k.pc.trans h.pc,k.deadline.trans h.deadline,k.release.trans h.release⟩
def Kw:∀ (l:List Int) (s:Ae) (k:Nat),k<s.procs.length→Wk (s.procs.getD k default) ((wakeP d t data l s).procs.getD k default) (decide ((k:Int)∈l))
 | [],s,k,_=>by
  rw[decide_eq_false (by simp)];exact .refl _
 |j::l,s,k,b=>by
  have c:=Z5 (d:=d) (t:=t) (data:=data) (s:=s) j k b;have f:=Kw l (CT d t data s j) k (by rw[L8];exact b);have:=c.trans f;have e:(decide ((k:Int)=j)||decide ((k:Int)∈l))=decide ((k:Int)∈j::l):=by
   rw[←Bool.decide_or];exact decide_eq_decide.2 (by simp)
  rw[e] at this;exact this
def N3(l:List Int)(s:Ae):(wakeP d t data l s).procs.length=s.procs.length:=by
 induction l generalizing s with
 |nil=>rfl
 |cons j l b=>
  show(wakeP d t data l (CT d t data s j)).procs.length=_;rw[b,L8]
def DP.lt{p f e:Int}(h:DP s p f e):p.toNat<s.procs.length:=by
 rcases dn p.toNat s.procs.length with b|b
 ·exact b
 ·have c:=h.2.1;rw[cQ,List.getElem?_eq_none b] at c;cases c
def DP.uniq{p a b c e:Int}(h:DP s p a b)(k:DP s p c e):a=c∧b=e:=⟨h.2.2.1.symm.trans k.2.2.1,h.2.2.2.symm.trans k.2.2.2⟩
def Inv.IF(l:List Int)(h:∀ kind k x,x∈AF s kind k→DP s x.proc kind k∧x.proc∉l):Inv (wakeP d t data l s):=fun kind k x c=>by
 rw[Z7] at c;obtain⟨b,e⟩:=h kind k x c;have:=(Kw (d:=d) (t:=t) (data:=data) l s x.proc.toNat b.lt).same (decide_eq_false (by rw[Int.toNat_of_nonneg b.1];exact e));unfold DP at b ⊢;rw[this];exact b
def Inv.own(h:Inv s)(c:(s.procs.getD i default).status≠3)(y:BA):Inv {s with procs:=s.procs.set i y}:=fun kind k x j=>by
 have b:=h kind k x j;have g:¬i=x.proc.toNat:=by
  rintro e;rw[e] at c;exact c b.2.1
 unfold DP at b ⊢;have e:({s with procs:=s.procs.set i y}:Ae).procs.getD x.proc.toNat default=s.procs.getD x.proc.toNat default:=by
  show(s.procs.set i y).getD _ _=_;rw[Cv,if_neg (fun f=>g f.1)]
 rw[e];exact b
def Inv.block(h:Inv s)(g:s'.procs=s.procs)(f:(s.procs.getD i default).status≠3)(r:i<s.procs.length)(y:BA)
  (o:∀ kind k x,x∈AF s' kind k→x∈AF s kind k∨(x.proc=(i:Int)∧y.why=kind∧y.on=(k:Int))) (p:y.status=3):Inv {s' with procs:=s'.procs.set i y}:=fun kind k x c=>by
 rcases o kind k x c with c|⟨q,j,l⟩
 ·have b:=h kind k x c;have n:¬i=x.proc.toNat:=by
   rintro e;rw[e] at f;exact f b.2.1
  unfold DP at b ⊢;have e:({s' with procs:=s'.procs.set i y}:Ae).procs.getD x.proc.toNat default=s.procs.getD x.proc.toNat default:=by
   show(s'.procs.set i y).getD _ _=_;rw[Cv,if_neg (fun m=>n m.1),g]
  rw[e];exact b
 ·have e:({s' with procs:=s'.procs.set i y}:Ae).procs.getD x.proc.toNat default=y:=by
   show(s'.procs.set i y).getD _ _=_;rw[Cv,if_pos ⟨by omega,by rw[g];omega⟩]
  unfold DP;rw[e];exact⟨by omega,p,j,l⟩
end
section
variable {s:Ae} {k0:Nat}
def Xh(v:BU)(kind:Int)(k:Nat)(x:Wt)(h:x∈AF {s with semas:=s.semas.set k0 v} kind k):x∈AF s kind k∨(kind=4∧k0=k∧x∈v.wait):=by
 unfold AF at h ⊢;by_cases e:kind=4
 ·subst e;simp only[c0,if_false,if_true] at h ⊢;rw[Cv] at h;split at h
  ·rename_i a;exact .inr ⟨trivial,a.1,h⟩
  ·exact .inl h
 ·simp only[e,if_false] at h ⊢;exact .inl h
def Xe(v:C3)(kind:Int)(k:Nat)(x:Wt)(h:x∈AF {s with events:=s.events.set k0 v} kind k):x∈AF s kind k∨(kind=8∧k0=k∧x∈v.wait):=by
 unfold AF at h ⊢;by_cases e:kind=8
 ·subst e;simp only[c0,if_false,if_true] at h ⊢;rw[Cv] at h;split at h
  ·rename_i a;exact .inr ⟨trivial,a.1,h⟩
  ·exact .inl h
 ·simp only[e,if_false] at h ⊢;exact .inl h
def Xc(v:BE)(kind:Int)(k:Nat)(x:Wt)(h:x∈AF {s with boards:=s.boards.set k0 v} kind k):x∈AF s kind k∨(kind=12∧k0=k∧x∈v.wait):=by
 unfold AF at h ⊢;by_cases e:kind=12
 ·subst e;simp only[c0,if_false,if_true] at h ⊢;rw[Cv] at h;split at h
  ·rename_i a;exact .inr ⟨trivial,a.1,h⟩
  ·exact .inl h
 ·simp only[e,if_false] at h ⊢;exact .inl h
def Xg(v:AO)(kind:Int)(k:Nat)(x:Wt)(h:x∈AF {s with queues:=s.queues.set k0 v} kind k):x∈AF s kind k∨(kind=3∧k0=k∧x∈v.wait):=by
 unfold AF at h ⊢;by_cases e:kind=3
 ·subst e;simp only[if_true] at h ⊢;rw[Cv] at h;split at h
  ·rename_i a;exact .inr ⟨trivial,a.1,h⟩
  ·exact .inl h
 ·simp only[e,if_false] at h ⊢;exact .inl h
def Xd(v:AT)(kind:Int)(k:Nat)(x:Wt)(h:x∈AF {s with bufs:=s.bufs.set k0 v} kind k):x∈AF s kind k∨(kind=9∧k0=k∧x∈v.put)∨(kind=10∧k0=k∧x∈v.get):=by
 unfold AF at h ⊢;by_cases e:kind=9
 ·subst e;simp only[c0,if_false,if_true] at h ⊢;rw[Cv] at h;split at h
  ·rename_i a;exact .inr (.inl ⟨trivial,a.1,h⟩)
  ·exact .inl h
 ·by_cases b:kind=10
  ·subst b;simp only[c0,if_false,if_true] at h ⊢;rw[Cv] at h;split at h
   ·rename_i a;exact .inr (.inr ⟨trivial,a.1,h⟩)
   ·exact .inl h
  ·simp only[e,b,if_false] at h ⊢;exact .inl h
def Jg{l:List Wt}{x y:Wt}:x∈Cl l y↔x=y∨x∈l:=by
 unfold Cl;rw[(M9 l _ y).mem_iff];simp
def Xm{l:List Wt}{x:Wt}{p:Int}:x∈leaveW l p↔x∈l∧x.proc≠p:=by simp[leaveW]
end
end Go.Proofs.YtiepijihpgijbaaGreatDoor
