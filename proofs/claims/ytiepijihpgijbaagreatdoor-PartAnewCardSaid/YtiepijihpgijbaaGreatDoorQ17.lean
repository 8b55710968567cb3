import Derived.Test.YtiepijihpgijbaaGreatDoorQ16
import Derived.Test.YtiepijihpgijbaaGreatDoorQ14
set_option maxHeartbeats 8000000
set_option maxRecDepth 100000
set_option linter.all false
open Go.IntKind renaming u8→U,i64→J
open Go.Value renaming pointer→G,int→I,slice→Y
open Option renaming some→Z,none→O
open Go.Obj renaming cells→T
open Nat renaming le_of_eq→ab,lt_of_lt_of_le→aI,zero_le→aL,le_refl→aO,le_trans→df
open List renaming not_mem_nil→ak,mem_cons→am,setIfInBounds_toArray→aF,set_cons_zero→aP,set_cons_succ→aX,mem_singleton→bD,getElem_mem→cy
open Go.RowKit.Below renaming heap_setCell→ao,heap_alloc→dA,refl→eM
open Go renaming bodyPost_ret→ap,heap_setCell_same→av,results→aJ,World→cs,heap_alloc_new→cN,execOp→eJ,Value→eL
open Go.World renaming setCell→cF
open List.cons renaming injEq→dv
open Go.Value renaming slice→eK
namespace Go.Proofs.YtiepijihpgijbaaGreatDoor
open Go.RowKit Tryz
def GU{W a:cs}{B:Nat}{v:eL}{l:List Int}(h:Af U W B v l)(i:W.heap.size≤a.heap.size)(c:∀ b,B≤b→b<W.heap.size→a.heap[b]? =W.heap[b]?):Af U a B v l:=by
 have g:Ct (fun b=>B≤b) v:=Ja h fun b c _=>c
 have d:=A4.Ag (D:=fun b=>B≤b) (w':=a) ⟨h.mono (aL _),g⟩ ⟨i,fun b e f=>c b e f⟩;exact Np h d.1
def ZQ(W:cs):(zeroValue 28).run prog W=.ok .nilFunc W:=by kernel_rfl
def Tu{k:Int}(h:0≤k∧k≤16)(a:k≠0)(b:k≠15):∀ args w,(callFunc (Iy k) args).run prog w=.ok (.enter (Iy k) args) w:=by
 rcases(show k=1∨k=2∨k=3∨k=4∨k=5∨k=6∨k=7∨k=8∨k=9∨k=10∨k=11∨k=12∨k=13∨k=14∨k=16 by omega) with rfl|rfl|rfl|rfl|rfl|rfl|rfl|rfl|rfl|rfl|rfl|rfl|rfl|rfl|rfl<;>exact fun _ _=>by kernel_rfl
def TE:EG 75:=fun _ _=>by kernel_rfl
def YA(B:Nat)(w:cs)(D:Nat→Prop)(g:Nat)(d:Ad)(l:Hd)(s:Ae)(i:Nat)(now:Int)(cr:Gl B w)(hM:∀ q∈Mut g l,B≤q)(h:PA w D g d l s)(ok:Ah d s)(c5:K0 d)(c3:∀ x∈s.boards,0≤x.val∧x.val≤255)(cj:Ed (d.procs.getD i default).code.length (s.procs.getD i default).s)(hD:∀ q,w.heap.size≤q→D q)(dm:0≤now)(dn:now≤4294967296)(hi:i<s.procs.length):
  Calls prog 46 #[G (Z ⟨g,0,O⟩),I J i,I J now] w (Ro w D g d l (EI d i now s).1 (EI d i now s).2):=by
 have hid:i<d.procs.length:=by have:=ok.procs;omega
 have ew:(i:Int)<(d.procs.length:Int):=by omega
 have ey:(i:Int)<(s.procs.length:Int):=by omega
 have ez:=ok.procs;have db:=h.Ke;have c1:=h.K8;have de:=h.Pz;have ev:=h.lt;rw[getD_eq hid,getD_eq hi] at cj;obtain⟨r0,r1,r2,r3,hr,dQ⟩:=h.pr.el i hi;have dl:s.procs[i].s=⟨s.procs[i].s.pc,s.procs[i].s.left,[r0,r1,r2,r3]⟩:=by rw[←hr]
 have az:=Q8 (c5 _ (cy hid)) cj ok.I0;have cl:=ok.pr _ (cy hi);have ci:=ok.ok.pc _ (cy hid);obtain⟨rr,bL⟩:=ex (FZ d.procs[i].code s.procs[i].s s.mem);rw[←bL] at az;obtain⟨⟨aV,a6,R'⟩,n,ra,r,m⟩:=rr;obtain⟨s0,s1,s2,s3,rfl⟩:∃ s0 s1 s2 s3,R'=[s0,s1,s2,s3]:=by
  have h4:=az.1.AG;simp only at h4
  match R',h4 with
  | [a,b,c,e],_=>exact⟨a,b,c,e,rfl⟩
 obtain⟨k,rfl⟩:∃ k:Nat,ra=(k:Int):=⟨ra.toNat,by have:=az.2.nn;simp only at this;omega⟩;obtain⟨x1,bN⟩:∃ x1:BA,x1={s.procs[i] with s:=⟨aV,a6,[s0,s1,s2,s3]⟩}:=⟨_,rfl⟩;have dK:=HH bN;have ch:Ah d {s with procs:=s.procs.set i x1}:=ok.G4 i (by
  have h4:=az.1.pc;have h5:=ci.len;simp only at h4;rw[bN];exact {cl with AG:=az.1.AG,bytes:=az.1.bytes,pc:=⟨h4.1,by show aV≤24;omega⟩,left:=az.1.left})
 have cY:EI d i now s=(if(actA d i now ⟨n,k,r,m⟩ {s with procs:=s.procs.set i x1}).2 then(actA d i now ⟨n,k,r,m⟩ {s with procs:=s.procs.set i x1}).1 else {(actA d i now ⟨n,k,r,m⟩ {s with procs:=s.procs.set i x1}).1 with procs:=(actA d i now ⟨n,k,r,m⟩ {s with procs:=s.procs.set i x1}).1.procs.set i (waitR ⟨n,k,r,m⟩ ((actA d i now ⟨n,k,r,m⟩ {s with procs:=s.procs.set i x1}).1.procs.getD i default))},⟨n,k,r,m⟩):=by
  simp only[EI];rw[getD_eq hid,getD_eq hi,←bL,bN]
 rw[cY];have b8:=Ah.act (now:=now) (i:=i) (a:=⟨n,k,r,m⟩) ch c3 (by simpa using hi) az.2 dm dn;obtain⟨t,ht⟩:=ex (actA d i now ⟨n,k,r,m⟩ {s with procs:=s.procs.set i x1});rw[←ht] at b8 ⊢;obtain⟨a4,ce⟩:=ex (if t.2 then t.1 else {t.1 with procs:=t.1.procs.set i (waitR ⟨n,k,r,m⟩ (t.1.procs.getD i default))});rw[←ce];have ba:=HH ce;clear ce;obtain⟨HT,dE,dG,a1,OK,dJ,cD,HG,HM,a0,bw,bV⟩:=Rb ht b8 ch az ok bL dl cr hM db c1 de;obtain⟨dF,dL,dH⟩:=H3 hD cl ci;have h':PA w (Wo D [w.heap.size,w.heap.size+1]) g d l s:=h.wo (by intro q hq;simp only[am,ak,or_false] at hq;omega);have H:=HH h';have cg:w.cell? ⟨g,10,O⟩=Z (Y (Z ⟨l.pr.b,0,O⟩) s.procs.length l.pr.c):=h.FC (by omega);have cap:=h.pr.cap;have dM:∀ ob,(w.alloc ob).cell? ⟨g,10,O⟩=Z (Y (Z ⟨l.pr.b,0,O⟩) s.procs.length l.pr.c):=fun ob=>by
  rw[World.cell?_alloc_old _ _ _ (Nat.ne_of_lt h.lt)];exact cg
 clear cY bN ht b8 ch az bL ok cj dl dQ hr h h' hM db c1 de hD cl ci cr c5 c3;go_enter func46,ntmps46;go_upto_region 3 with (fail);clear cg dM;obtain⟨Q,bp⟩:=ex ((w.alloc (T #[I U 0,I J 0,I J 0,Y O 0 0] 40)).alloc (T #[I U 0,I J 0,I J 0,Y O 0 0] 40));rw[←bp];obtain⟨cn,cp⟩:=Da w (T #[I U 0,I J 0,I J 0,Y O 0 0] 40) (T #[I U 0,I J 0,I J 0,Y O 0 0] 40);have bQ:Hq (Bl w Q):=by rw[bp];exact DX w _ _
 have ay:Hq (Q.heap.size=w.heap.size+1+1):=by rw[bp];show _=_;simp
 rw[←bp] at cn cp;obtain⟨Q0,Q1⟩:=H2 cn cp;clear cn cp bp;have h0:=H.o.below bQ.o;obtain⟨ei,ej,ek,em,hr,hc⟩:=h0.pr.el i hi;obtain⟨rfl,rfl,rfl,rfl⟩:r0=ei∧r1=ej∧r2=ek∧r3=em:=by
  have h1:=hr;rw[cD.o] at h1;simp only[dv,and_true] at h1;exact h1
 have c8:=h0.lt;have aT:=h0.pr.lt;have dT:=h0.Ay.lt;have er:=h0.Ay.cap;obtain⟨nm,vc,c4,cd⟩:=h0.Ay.el i hid;obtain⟨ac,cc,rfl,_,_⟩:=cd.1.open_;have cu:=HH cd;have cP:=h0.GW (by omega);have cO:Q.cell? ⟨g,19,O⟩=Z (Y l.me.a s.mem.length l.me.c):=h0.cell 19;have yv:Q.cell? ⟨l.Ay.b,i*5+4,O⟩=Z (.slice ac d.procs[i].code.length cc):=c4 4 _ rfl;have y1:Q.cell? ⟨l.pr.b,i*12+1,O⟩=Z (I J s.procs[i].s.pc):=hc 1 _ rfl;have y2:Q.cell? ⟨l.pr.b,i*12+2,O⟩=Z (I J s.procs[i].s.left):=hc 2 _ rfl;have y3:Q.cell? ⟨l.pr.b,i*12+3,O⟩=Z (I U r0):=hc 3 _ rfl;have y4:Q.cell? ⟨l.pr.b,i*12+4,O⟩=Z (I U r1):=hc 4 _ rfl;have y5:Q.cell? ⟨l.pr.b,i*12+5,O⟩=Z (I U r2):=hc 5 _ rfl;have y6:Q.cell? ⟨l.pr.b,i*12+6,O⟩=Z (I U r3):=hc 6 _ rfl;have ec:=qC y1 aT;have ed:=qC y2 aT;have ee:=qC y3 aT;have ef:=qC y4 aT;have eg:=qC y5 aT;have eh:=qC y6 aT;have dY:=qC cP c8;have dX:=qC cO c8;have dZ:=qC yv dT;have bX:Hq (Cn Q l.me.a s.mem∧s.mem.length≤l.me.c):=⟨fun j hj=>⟨l.me.b,h0.me.ptr (by omega),h0.me.lt,by
  have:=h0.me.el j hj 0 _ rfl;simpa using this⟩,h0.me.cap⟩
 have HC:Hq (∀ W,Bl Q W→Calls prog 75 #[.slice ac d.procs[i].code.length cc,.agg #[I J s.procs[i].s.pc,I J s.procs[i].s.left,I U r0,I U r1,I U r2,I U r3],Y l.me.a s.mem.length l.me.c] W fun e w'=>∃ vd,e=.returned (.tuple #[.agg #[I J aV,I J a6,I U s0,I U s1,I U s2,I U s3],.agg #[I U n,I J k,I J r,vd]])∧Af U w' W.heap.size vd m∧Bl W w'):=fun W C=>by
  have hx:=dL.o;have hp:=dH.o;have:=YY B (.slice ac d.procs[i].code.length cc) d.procs[i].code ⟨s.procs[i].s.pc,s.procs[i].s.left,[r0,r1,r2,r3]⟩ l.me.a l.me.c s.mem W ((HG.o.below bQ.o).below C) (cu.o.1.below C) ⟨by have:=hp.len;omega,hp.ops⟩ (by have:=hx.pc.1;show-1≤s.procs[i].s.pc;omega) (by have:=hx.pc.2;show s.procs[i].s.pc≤_;omega) hx.left.1 hx.left.2 rfl (by have:=hx.bytes;rw[hr] at this;exact this) (fun j hj=>by
   obtain⟨bm,e1,e2,e3⟩:=bX.o.1 j hj;exact⟨bm,e1,aI e2 C.size,(C.cell (p:=⟨bm,j,O⟩) e2).trans e3⟩) bX.o.2
  rw[show (⟨s.procs[i].s.pc,s.procs[i].s.left,[r0,r1,r2,r3]⟩:St)=s.procs[i].s from by rw[←hr]] at this;have e2:=dJ.o;rw[←e2,cD.o] at this;exact this
 have H0:=HH h0;clear h0 hr hc c4 cd cP cO yv y1 y2 y3 y4 y5 y6;refine AS 26 [24,25] [21] [(18,(fun v w'=>∃ z A,v=.tuple #[.agg #[I J aV,I J a6,I U s0,I U s1,I U s2,I U s3],.agg #[I U n,I J k,I J r,Y z m.length A]]∧Af U w' Q.heap.size (Y z m.length A) m))] ⟨(fun v w1 w2 ⟨a2,c2,e,h⟩ C=>⟨a2,c2,e,h.below C⟩),trivial⟩ ?_
 iterate 18 (refine An rfl rfl rfl ?_;intro K hK;go_big_quiet_op;go_big_quiet_on)
 refine A9 rfl rfl (fun w' C hA=>?_) ?_
 ·refine AD (f:=75) (al:=[.slice ac d.procs[i].code.length cc,.agg #[I J s.procs[i].s.pc,I J s.procs[i].s.left,I U r0,I U r1,I U r2,I U r3],Y l.me.a s.mem.length l.me.c]) rfl rfl rfl TE ?_;exact(HC.o w' C).mono fun e w2 h=>by
   obtain⟨vd,he,hf,dP⟩:=h;obtain⟨a2,c2,rfl,_,_⟩:=hf.open_;exact⟨_,he,dP,_,_,rfl,hf.mono C.size⟩
 intro v w' C hv;obtain⟨z,A,rfl,dS⟩:=hv;clear C dS w';simp only[Au,aF,aX,aP]
 iterate 2 (refine An rfl rfl rfl ?_;intro K hK;go_big_quiet_op;go_big_quiet_on)
 iterate 1 (refine Bi rfl rfl rfl ?_;intro K hK;go_big_quiet_op;go_big_quiet_on)
 iterate 2 (refine An rfl rfl rfl ?_;intro K hK;go_big_quiet_op;go_big_quiet_on)
 refine AH rfl ?_;refine AH rfl ?_;refine AR ?_;intro w9 aA bM;obtain⟨eq,es,e3,dk⟩:=bM 18 _ (by decide) rfl;simp only[Value.tuple.injEq,Array.mk.injEq,dv,Value.agg.injEq,Value.slice.injEq,true_and,and_true] at e3;obtain⟨rfl,rfl⟩:=e3;have h9:=H0.o.below aA;have F9:∀ o,w9.frozen? ⟨l.pr.b,o,O⟩=false:=h9.pr.frozen (by omega);obtain⟨q0,q1,q2,q3,bK,af⟩:=h9.pr.el i hi;have z1:w9.cell? ⟨l.pr.b,i*12+1,O⟩=Z _:=af 1 _ rfl;have f1:=F9 (i*12+1);have z2:w9.cell? ⟨l.pr.b,i*12+2,O⟩=Z _:=af 2 _ rfl;have f2:=F9 (i*12+2);have z3:w9.cell? ⟨l.pr.b,i*12+3,O⟩=Z _:=af 3 _ rfl;have f3:=F9 (i*12+3);have z4:w9.cell? ⟨l.pr.b,i*12+4,O⟩=Z _:=af 4 _ rfl;have f4:=F9 (i*12+4);have z5:w9.cell? ⟨l.pr.b,i*12+5,O⟩=Z _:=af 5 _ rfl;have f5:=F9 (i*12+5);have z6:w9.cell? ⟨l.pr.b,i*12+6,O⟩=Z _:=af 6 _ rfl;have f6:=F9 (i*12+6);have aG:=h9.FY hi [(1,I J aV),(2,I J a6),(3,I U s0),(4,I U s1),(5,I U s2),(6,I U s3)] rfl af (x:=x1) fun w' cb dV=>by
  rw[dK.o];exact⟨s0,s1,s2,s3,rfl,cb⟩
 obtain⟨W1,b6⟩:=ex ((((((w9.setCell ⟨l.pr.b,i*12+1,O⟩ (I J aV)).setCell ⟨l.pr.b,i*12+2,O⟩ (I J a6)).setCell ⟨l.pr.b,i*12+3,O⟩ (I U s0)).setCell ⟨l.pr.b,i*12+4,O⟩ (I U s1)).setCell ⟨l.pr.b,i*12+5,O⟩ (I U s2)).setCell ⟨l.pr.b,i*12+6,O⟩ (I U s3));refine AI (w':=W1) (by rw[b6];simp[eJ,go_sem,z1,f1,z2,f2,z3,f3,z4,f4,z5,f5,z6,f6]) ?_;have a3:W1=setsAt w9 l.pr.b (i*12) [(1,I J aV),(2,I J a6),(3,I U s0),(4,I U s1),(5,I U s2),(6,I U s3)]:=b6;rw[←a3] at aG;have eA:l.pr.b<w.heap.size:=a0.o _ (by simp[Mut]);have du:W1.heap[w.heap.size]? =Z (T #[I U 0,I J 0,I J 0,Y O 0 0] 40 (0,0)):=by
  rw[a3,AU (by omega)];exact(aA.block _ (by have:=ay.o;omega)).trans Q0.o
 have bs:W1.heap[w.heap.size+1]? =Z (T #[I U 0,I J 0,I J 0,Y O 0 0] 40 (0,0)):=by
  rw[a3,AU (by omega)];exact(aA.block _ (by have:=ay.o;omega)).trans Q1.o
 have di:Af U W1 Q.heap.size (Y z m.length A) m:=GU dk (by rw[a3,BO];exact aO _) fun j dO _=>by
  have aS:j≠l.pr.b:=by have:=ay.o;omega
  rw[a3];exact AU aS _ _
 have cz:=HH aG.1;have bZ:Hq (Upd (Mut g l) w W1):=((Upd.below bQ.o).trans (Upd.below aA)).trans aG.2;clear b6 a3 aG af bK F9 h9 dk z1 f1 z2 f2 z3 f3 z4 f4 z5 f5 z6 f6 ec ed ee ef eg eh dY dX dZ;obtain⟨z0,z1,z2,z3⟩:=r4 bs;obtain⟨bh,bi,bj,bk⟩:=f4 bs;obtain⟨y,b7⟩:=ex ((((W1.setCell ⟨w.heap.size+1,0,O⟩ (I U n)).setCell ⟨w.heap.size+1,1,O⟩ (I J k)).setCell ⟨w.heap.size+1,2,O⟩ (I J r)).setCell ⟨w.heap.size+1,3,O⟩ (Y z m.length A));refine AI (w':=y) (by rw[b7];simp[eJ,go_sem,z0,bh,z1,bi,z2,bj,z3,bk]) ?_;unfold A7;have ai:y=setsAt W1 (w.heap.size+1) 0 [(0,I U n),(1,I J k),(2,I J r),(3,Y z m.length A)]:=b7;have dr:y.heap[w.heap.size]? =Z (T #[I U 0,I J 0,I J 0,Y O 0 0] 40 (0,0)):=by
  rw[ai,AU (by omega)];exact du
 have cm:y.heap[w.heap.size+1]? =Z (T #[I U n,I J k,I J r,Y z m.length A] 40 (0,0)):=by
  rw[ai];have hh:=Di [(0,I U n),(1,I J k),(2,I J r),(3,Y z m.length A)] bs;simp only[Er,aF,aX,aP] at hh;exact hh
 have dj:Af U y Q.heap.size (Y z m.length A) m:=GU di (by rw[ai,BO];exact aO _) fun j dO _=>by
  have aS:j≠w.heap.size+1:=by have:=ay.o;omega
  rw[ai];exact AU aS _ _
 have cA:Hq (PA y (Wo D [w.heap.size,w.heap.size+1]) g d l {s with procs:=s.procs.set i x1}):=cz.o.loc (fun b C=>by
  have:=bw.o b C;simp only[am,ak,or_false,not_or];omega) (by rw[ai,BO];exact aO _) fun b C F=>by
   rw[ai];exact AU (fun e=>F (by simp[e])) _ _
 have cG:Hq (Upd (Mut g l) w y):=by
  have E:=bZ.o;refine⟨?_,?_,?_,?_,fun j hj F=>?_⟩
  ·rw[ai,(Be _ _).1];exact E.os
  ·rw[ai,(Be _ _).2.1];exact E.tape
  ·rw[ai,(Be _ _).2.2];exact E.output
  ·rw[ai,BO];exact E.size
  ·rw[ai,AU (by omega)];exact E.block j hj F
 have cB:=HH dj;have cE:Hq (Q.heap.size≤y.heap.size):=by
  rw[ai,BO];have:=bZ.o.size;have:=Aa bs;have:=ay.o;show _≤_;omega
 obtain⟨b0,b1⟩:=H2 dr cm;clear b7 ai du bs di dj bM aA z0 bh z1 bi z2 bj z3 bk cz bZ HC bX cu H0 Q0 Q1;obtain⟨z0,z1,z2,z3⟩:=r4 cm;clear dr cm;go_upto_region 5 with (fail);obtain⟨W3,bH⟩:=ex (y.alloc (T #[G (Z ⟨g,0,O⟩),I U n,I J k,I J r,Y z m.length A,I J i,I J now] 154));rw[←bH];have da:W3.heap[y.heap.size]? =Z (T #[G (Z ⟨g,0,O⟩),I U n,I J k,I J r,Y z m.length A,I J i,I J now] 154 (0,0)):=by
  rw[bH];exact cN y _
 have bR:Hq (Bl y W3):=by
  rw[bH];exact(eM _ y).alloc (aO _) _
 have bU:=HH da;clear bH da z0 z1 z2 z3;go_upto_region 6 with (first|(refine ZM rfl rfl ?_)|(refine ZJ rfl rfl Nv Nw rfl rfl rfl rfl ?_)|fail);obtain⟨N,bI⟩:=ex (W3.alloc (.map #[⟨I U 1,.func (.func 76) #[G (Z ⟨y.heap.size,0,O⟩)] #[],0⟩,⟨I U 2,.func (.func 77) #[G (Z ⟨y.heap.size,0,O⟩)] #[],1⟩,⟨I U 3,.func (.func 78) #[G (Z ⟨y.heap.size,0,O⟩)] #[],2⟩,⟨I U 4,.func (.func 79) #[G (Z ⟨y.heap.size,0,O⟩)] #[],3⟩,⟨I U 5,.func (.func 80) #[G (Z ⟨y.heap.size,0,O⟩)] #[],4⟩,⟨I U 6,.func (.func 81) #[G (Z ⟨y.heap.size,0,O⟩)] #[],5⟩,⟨I U 7,.func (.func 82) #[G (Z ⟨y.heap.size,0,O⟩)] #[],6⟩,⟨I U 8,.func (.func 83) #[G (Z ⟨y.heap.size,0,O⟩)] #[],7⟩,⟨I U 9,.func (.func 84) #[G (Z ⟨y.heap.size,0,O⟩)] #[],8⟩,⟨I U 10,.func (.func 85) #[G (Z ⟨y.heap.size,0,O⟩)] #[],9⟩,⟨I U 11,.func (.func 86) #[G (Z ⟨y.heap.size,0,O⟩)] #[],10⟩,⟨I U 12,.func (.func 87) #[G (Z ⟨y.heap.size,0,O⟩)] #[],11⟩,⟨I U 13,.func (.func 88) #[G (Z ⟨y.heap.size,0,O⟩)] #[],12⟩,⟨I U 14,.func (.func 89) #[G (Z ⟨y.heap.size,0,O⟩)] #[],13⟩,⟨I U 16,.func (.func 90) #[G (Z ⟨y.heap.size,0,O⟩)] #[],14⟩] 15));rw[←bI];have bx:Hq (N.heap[W3.heap.size]? =Z (.map (LN y.heap.size).toArray 15)):=by
  rw[bI];exact cN W3 _
 have bS:Hq (Bl W3 N):=by
  rw[bI];exact(eM _ W3).alloc (aO _) _
 clear bI;have aY:Hq (Bl y N):=bR.o.trans (bS.o.mono bR.o.size);have bf:Hq (N.heap[w.heap.size+1]? =Z (T #[I U n,I J k,I J r,Y z m.length A] 40 (0,0))):=(aY.o.block _ (Aa b1.o)).trans b1.o;have bB:Hq (N.heap[w.heap.size]? =Z (T #[I U 0,I J 0,I J 0,Y O 0 0] 40 (0,0))):=(aY.o.block _ (Aa b0.o)).trans b0.o;have bW:Hq (PA N (Wo D [w.heap.size,w.heap.size+1]) g d l {s with procs:=s.procs.set i x1}):=cA.o.below aY.o;have bA:Hq (Upd (Mut g l) w N):=cG.o.trans (Upd.below aY.o);have cx:Hq (JB N y.heap.size g n k r (Y z m.length A) i now):=(bS.o.block _ (Aa bU.o)).trans bU.o;have bz:Hq (Af U N Q.heap.size (Y z m.length A) m):=cB.o.below aY.o;have bY:Hq (Q.heap.size≤N.heap.size):=df cE.o aY.o.size;have dp:N.cell? ⟨w.heap.size+1,0,O⟩=Z (I U n):=Cr bf.o;clear bR bS bU b0 b1 cG cB cE;by_cases bq:n=0∨n=15
 ·obtain⟨HF,HK⟩:=H2 (Ru y.heap.size bq) bq;have a9:Hq (a4={s with procs:=s.procs.set i x1}):=by
   show _=_;rw[ba.o,HT.o];rcases HK.o with e|e
   ·subst e;rfl
   ·subst e;rfl
  clear bq;go_upto_region 9 with (first|(refine ZL rfl rfl Nv Nw (ZQ _) bx.o rfl rfl HF.o ?_)|fail);clear bx dp;have bc:Hq (PA N (Wo D [w.heap.size,w.heap.size+1]) g d l a4):=by rw[a9.o];exact bW.o
  have bd:Hq (Upd (Mut g l) w N):=bA.o;have a8:=HH (Gj (Y z m.length A) m N (bz.o.mono (aL _)) (by have:=a1.o.2.data;simp only at this;omega));have bg:Hq (N.heap[w.heap.size]? =Z (T #[I U 0,I J 0,I J 0,Y O 0 0] 40 (0,0))):=bB.o;have aM:Hq (N.heap[w.heap.size+1]? =Z (T #[I U n,I J k,I J r,Y z m.length A] 40 (0,0))):=bf.o;have zq:N.cell? ⟨w.heap.size+1,3,O⟩=Z (Y z m.length A):=Cr aM.o;go_wp2_with fail;refine a8.o.mono ?_;rintro e L ⟨u,rfl,ho,ae⟩;obtain⟨S,V,rfl⟩:=Bq ho;obtain⟨bb,aK⟩:=H2 ho ae;have R:Hq (w.heap.size+1<N.heap.size):=by have:=ay.o;have:=bY.o;show _<_;omega
  have aw:L.heap[w.heap.size]? =Z (T #[I U 0,I J 0,I J 0,Y O 0 0] 40 (0,0)):=(ae.block _ (by have:=R.o;omega)).trans bg.o;have ax:L.heap[w.heap.size+1]? =Z (T #[I U n,I J k,I J r,Y z m.length A] 40 (0,0)):=(ae.block _ R.o).trans aM.o;obtain⟨z0,z1,z2,z3⟩:=r4 ax;obtain⟨bh,bi,bj,bk⟩:=f4 ax;obtain⟨y0,y1,y2,y3⟩:=r4 aw;obtain⟨cR,cS,cT,cU⟩:=f4 aw;clear aw ax zq ho ae;go_wp2_with fail;refine ap (v:=.agg #[I U n,I J k,I J r,Y S m.length V]) (by simp[aJ,results46,go_sem,z0,z1,z2,z3,y0,y1,y2,y3]) rfl ?_;obtain⟨W9,aq⟩:=ex (((((L.setCell ⟨w.heap.size+1,3,O⟩ (Y S m.length V)).setCell ⟨w.heap.size,0,O⟩ (I U n)).setCell ⟨w.heap.size,1,O⟩ (I J k)).setCell ⟨w.heap.size,2,O⟩ (I J r)).setCell ⟨w.heap.size,3,O⟩ (Y S m.length V));rw[←aq];have X:W9=setsAt (setsAt L (w.heap.size+1) 0 [(3,Y S m.length V)]) w.heap.size 0 [(0,I U n),(1,I J k),(2,I J r),(3,Y S m.length V)]:=aq;have au:W9.heap.size=L.heap.size:=by rw[X,BO,BO]
  have hoth:∀ j,j≠w.heap.size→j≠w.heap.size+1→W9.heap[j]? =L.heap[j]?:=fun j h1 h2=>by
   rw[X,AU h1,AU h2]
  clear aq;refine⟨_,rfl,?_,?_,?_⟩
  ·refine(GU bb.o.rd (ab au.symm) fun j hj _=>hoth j (by have:=R.o;omega) (by have:=R.o;omega)).mono (by have:=R.o;omega)
  ·refine PA.L6 (M:=[w.heap.size,w.heap.size+1]) ((bc.o.below aK.o).loc (fun b C=>?_) (ab au.symm) fun b C F=>?_) bV.o
   ·have:=bw.o b C;simp only[am,ak,or_false,not_or];omega
   ·simp only[am,ak,or_false,not_or] at F;exact hoth b F.1 F.2
  ·have E:=bd.o.trans (Upd.below aK.o);refine⟨?_,?_,?_,?_,fun j hj F=>?_⟩
   ·rw[X,(Be _ _).1,(Be _ _).1];exact E.os
   ·rw[X,(Be _ _).2.1,(Be _ _).2.1];exact E.tape
   ·rw[X,(Be _ _).2.2,(Be _ _).2.2];exact E.output
   ·rw[au];exact E.size
   ·rw[hoth j (by omega) (by omega)];exact E.block j hj F
 ·have HK:=HH bq;obtain⟨ix,HF⟩:=Rt y.heap.size a1.o.2.kind (fun h=>HK.o (.inl h)) (fun h=>HK.o (.inr h));replace HF:=HH HF;clear bq;have dR:∀ args W,(callFunc (Iy n) args).run prog W=.ok (.enter (Iy n) args) W:=Tu a1.o.2.kind (fun h=>HK.o (.inl h)) (fun h=>HK.o (.inr h));have bT:=HH (WH B N (Wo D [w.heap.size,w.heap.size+1]) g d l {s with procs:=s.procs.set i x1} n k r m y.heap.size (Y z m.length A) i now (HG.o.BG bA.o HM.o) HM.o bW.o dG.o cx.o (fun hm=>by have:=cA.o.Ke _ hm;omega) (fun q hq=>⟨dF.o q (by have:=ay.o;have:=bY.o;omega),by simp only[am,ak,or_false,not_or];have:=ay.o;have:=bY.o;omega⟩) dm dn (by simpa using hi) a1.o.2 (bz.o.CZ fun b C _ hm=>by have:=a0.o b hm;have:=ay.o;omega) (fun h=>HK.o (.inl h)) (fun h=>HK.o (.inr h)));rw[←HT.o] at bT;go_upto_region 7 with (first|(refine ZK rfl rfl Nv Nw bx.o rfl rfl HF.o ?_)|fail);clear bx dp;go_wp2_with fail;refine bT.o.mono ?_;rintro e P ⟨rfl,p5,u5⟩;have P5:=HH p5;have U5:Hq (Upd (Mut g l) w P):=bA.o.trans u5;have dc:w.heap.size∉Mut g l:=fun hm=>by have:=a0.o _ hm;omega
  have dd:w.heap.size+1∉Mut g l:=fun hm=>by have:=a0.o _ hm;omega
  have b3:Hq (P.heap[w.heap.size]? =Z (T #[I U 0,I J 0,I J 0,Y O 0 0] 40 (0,0))):=(u5.block _ (Aa bB.o) dc).trans bB.o;have aB:Hq (P.heap[w.heap.size+1]? =Z (T #[I U n,I J k,I J r,Y z m.length A] 40 (0,0))):=(u5.block _ (Aa bf.o) dd).trans bf.o;have cC:Hq (A4 P (NM g l) (Y z m.length A) m):=A4.Ag (bz.o.CZ fun b C _ hm=>by have:=a0.o b hm;have:=ay.o;omega) (KeepD.nm u5);clear p5 u5 dR bT HF bz cx bW bA bB bf;cases bJ:t.2
  ·have a9:Hq (a4={t.1 with procs:=t.1.procs.set i (waitR ⟨n,k,r,m⟩ (t.1.procs.getD i default))}):=by
    show _=_;rw[ba.o,bJ];rfl
   have cf:i<t.1.procs.length:=by have:=dE.o.procs;omega
   have aT:=P5.o.pr.lt;clear ba;have ea:∀ p:MC.FI (MC.Dj P [w.heap.size+1]),p.W.cell? ⟨w.heap.size+1,0,O⟩=Z (I U n):=fun p=>(p.cell (by simp)).trans (Cr aB.o);have eb:∀ p:MC.FI (MC.Dj P [w.heap.size+1]),p.W.cell? ⟨w.heap.size+1,1,O⟩=Z (I J k):=fun p=>(p.cell (by simp)).trans (Cr aB.o);go_upto_region 8 with (fail);clear bJ;refine MC.AS (MC.Dj P [w.heap.size+1]) 16 [9,12,15] [1,2,3,4,5,6,10,11,13,14] [] (MC.LP (fun b C=>by simp only[bD] at C;have:=Aa aB.o;omega)) trivial ?_
   iterate 1 (refine MC.An rfl rfl rfl ?_;intro K hK;go_big_quiet_op;go_big_quiet_on)
   iterate 6 (refine MC.Bi rfl rfl rfl ?_;intro K hK;go_big_quiet_op;go_big_quiet_on)
   iterate 2 (refine MC.An rfl rfl rfl ?_;intro K hK;go_big_quiet_op;go_big_quiet_on)
   refine MC.AH rfl ?_
   iterate 2 (refine MC.Bi rfl rfl rfl ?_;intro K hK;go_big_quiet_op;go_big_quiet_on)
   refine MC.AH rfl ?_
   iterate 2 (refine MC.Bi rfl rfl rfl ?_;intro K hK;go_big_quiet_op;go_big_quiet_on)
   refine MC.AH rfl ?_;refine MC.AR ?_;intro w9 aA bM;clear bM ea eb;have h9:=P5.o.below aA;have F9:∀ o,w9.frozen? ⟨l.pr.b,o,O⟩=false:=h9.pr.frozen (by omega);obtain⟨q0,q1,q2,q3,bK,af⟩:=h9.pr.el i cf;have z0:w9.cell? ⟨l.pr.b,i*12,O⟩=Z _:=af 0 _ rfl;have f0:=F9 (i*12);have bO:w9.cell? ⟨l.pr.b,i*12+10,O⟩=Z _:=af 10 _ rfl;have f10:=F9 (i*12+10);have bP:w9.cell? ⟨l.pr.b,i*12+11,O⟩=Z _:=af 11 _ rfl;have f11:=F9 (i*12+11);have aG:=h9.FY cf [(0,I U 3),(10,I U n),(11,I J k)] rfl af (x:=waitR ⟨n,k,r,m⟩ (t.1.procs.getD i default)) fun w' cb dV=>by
    rw[getD_eq cf];exact⟨q0,q1,q2,q3,bK,cb⟩
   have aS:l.pr.b∉ [w.heap.size+1]:=by
    simp only[bD];have:=a0.o l.pr.b (by simp[Mut]);omega
   have cZ:MC.Dj P [w.heap.size+1] w9:=MC.LP (fun b C=>by simp only[bD] at C;have:=Aa aB.o;omega) _ aA;obtain⟨V0,a5⟩:=ex (w9.setCell ⟨l.pr.b,i*12,O⟩ (I U 3));obtain⟨V1,bo⟩:=ex (V0.setCell ⟨l.pr.b,i*12+10,O⟩ (I U n));obtain⟨V2,bG⟩:=ex (V1.setCell ⟨l.pr.b,i*12+11,O⟩ (I J k));have b9:MC.Dj P [w.heap.size+1] V0:=by rw[a5];exact cZ.set aS _
   refine MC.AI (w':=V0) (by rw[a5];simp[eJ,go_sem,z0,f0,bO,f10,bP,f11]) b9 ?_;have ca:MC.Dj P [w.heap.size+1] V1:=by rw[bo];exact b9.set aS _
   refine MC.AI (w':=V1) (by rw[bo,a5];simp[eJ,go_sem,z0,f0,bO,f10,bP,f11]) ca ?_;have c0:MC.Dj P [w.heap.size+1] V2:=by rw[bG];exact ca.set aS _
   refine MC.AI (w':=V2) (by rw[bG,bo,a5];simp[eJ,go_sem,z0,f0,bO,f10,bP,f11]) c0 ?_;unfold MC.A7;have eV:V2=setsAt w9 l.pr.b (i*12) [(0,I U 3),(10,I U n),(11,I J k)]:=by rw[bG,bo,a5];rfl
   rw[←eV] at aG;have dI:=HH aG.1;have be:Hq (Upd (Mut g l) P V2):=(Upd.below aA).trans aG.2;clear a5 bo bG eV aG af bK F9 h9 aA cZ b9 ca c0 z0 f0 bO f10 bP f11;have bc:Hq (PA V2 (Wo D [w.heap.size,w.heap.size+1]) g d l a4):=by rw[a9.o];exact dI.o
   have bd:Hq (Upd (Mut g l) w V2):=U5.o.trans be.o;have a8:=HH (Gj (Y z m.length A) m V2 ((cC.o.Ag (KeepD.nm be.o)).1) (by have:=a1.o.2.data;simp only at this;omega));have bg:Hq (V2.heap[w.heap.size]? =Z (T #[I U 0,I J 0,I J 0,Y O 0 0] 40 (0,0))):=(be.o.block _ (Aa b3.o) dc).trans b3.o;have aM:Hq (V2.heap[w.heap.size+1]? =Z (T #[I U n,I J k,I J r,Y z m.length A] 40 (0,0))):=(be.o.block _ (Aa aB.o) dd).trans aB.o;have zq:V2.cell? ⟨w.heap.size+1,3,O⟩=Z (Y z m.length A):=Cr aM.o;go_wp2_with fail;refine a8.o.mono ?_;rintro e L ⟨u,rfl,ho,ae⟩;obtain⟨S,V,rfl⟩:=Bq ho;obtain⟨bb,aK⟩:=H2 ho ae;have R:Hq (w.heap.size+1<V2.heap.size):=by have:=Aa aB.o;have:=be.o.size;show _<_;omega
   have aw:L.heap[w.heap.size]? =Z (T #[I U 0,I J 0,I J 0,Y O 0 0] 40 (0,0)):=(ae.block _ (by have:=R.o;omega)).trans bg.o;have ax:L.heap[w.heap.size+1]? =Z (T #[I U n,I J k,I J r,Y z m.length A] 40 (0,0)):=(ae.block _ R.o).trans aM.o;obtain⟨z0,z1,z2,z3⟩:=r4 ax;obtain⟨bh,bi,bj,bk⟩:=f4 ax;obtain⟨y0,y1,y2,y3⟩:=r4 aw;obtain⟨cR,cS,cT,cU⟩:=f4 aw;clear aw ax zq ho ae;go_wp2_with fail;refine ap (v:=.agg #[I U n,I J k,I J r,Y S m.length V]) (by simp[aJ,results46,go_sem,z0,z1,z2,z3,y0,y1,y2,y3]) rfl ?_;obtain⟨W9,aq⟩:=ex (((((L.setCell ⟨w.heap.size+1,3,O⟩ (Y S m.length V)).setCell ⟨w.heap.size,0,O⟩ (I U n)).setCell ⟨w.heap.size,1,O⟩ (I J k)).setCell ⟨w.heap.size,2,O⟩ (I J r)).setCell ⟨w.heap.size,3,O⟩ (Y S m.length V));rw[←aq];have X:W9=setsAt (setsAt L (w.heap.size+1) 0 [(3,Y S m.length V)]) w.heap.size 0 [(0,I U n),(1,I J k),(2,I J r),(3,Y S m.length V)]:=aq;have au:W9.heap.size=L.heap.size:=by rw[X,BO,BO]
   have hoth:∀ j,j≠w.heap.size→j≠w.heap.size+1→W9.heap[j]? =L.heap[j]?:=fun j h1 h2=>by
    rw[X,AU h1,AU h2]
   clear aq;refine⟨_,rfl,?_,?_,?_⟩
   ·refine(GU bb.o.rd (ab au.symm) fun j hj _=>hoth j (by have:=R.o;omega) (by have:=R.o;omega)).mono (by have:=R.o;omega)
   ·refine PA.L6 (M:=[w.heap.size,w.heap.size+1]) ((bc.o.below aK.o).loc (fun b C=>?_) (ab au.symm) fun b C F=>?_) bV.o
    ·have:=bw.o b C;simp only[am,ak,or_false,not_or];omega
    ·simp only[am,ak,or_false,not_or] at F;exact hoth b F.1 F.2
   ·have E:=bd.o.trans (Upd.below aK.o);refine⟨?_,?_,?_,?_,fun j hj F=>?_⟩
    ·rw[X,(Be _ _).1,(Be _ _).1];exact E.os
    ·rw[X,(Be _ _).2.1,(Be _ _).2.1];exact E.tape
    ·rw[X,(Be _ _).2.2,(Be _ _).2.2];exact E.output
    ·rw[au];exact E.size
    ·rw[hoth j (by omega) (by omega)];exact E.block j hj F
  ·have a9:Hq (a4=t.1):=by
    show _=_;rw[ba.o,bJ];rfl
   clear ba;go_upto_region 9 with (fail);clear bJ;have bc:Hq (PA P (Wo D [w.heap.size,w.heap.size+1]) g d l a4):=by rw[a9.o];exact P5.o
   have bd:Hq (Upd (Mut g l) w P):=U5.o;have a8:=HH (Gj (Y z m.length A) m P (cC.o.1) (by have:=a1.o.2.data;simp only at this;omega));have bg:Hq (P.heap[w.heap.size]? =Z (T #[I U 0,I J 0,I J 0,Y O 0 0] 40 (0,0))):=b3.o;have aM:Hq (P.heap[w.heap.size+1]? =Z (T #[I U n,I J k,I J r,Y z m.length A] 40 (0,0))):=aB.o;have zq:P.cell? ⟨w.heap.size+1,3,O⟩=Z (Y z m.length A):=Cr aM.o;go_wp2_with fail;refine a8.o.mono ?_;rintro e L ⟨u,rfl,ho,ae⟩;obtain⟨S,V,rfl⟩:=Bq ho;obtain⟨bb,aK⟩:=H2 ho ae;have R:Hq (w.heap.size+1<P.heap.size):=by have:=Aa aB.o;show _<_;omega
   have aw:L.heap[w.heap.size]? =Z (T #[I U 0,I J 0,I J 0,Y O 0 0] 40 (0,0)):=(ae.block _ (by have:=R.o;omega)).trans bg.o;have ax:L.heap[w.heap.size+1]? =Z (T #[I U n,I J k,I J r,Y z m.length A] 40 (0,0)):=(ae.block _ R.o).trans aM.o;obtain⟨z0,z1,z2,z3⟩:=r4 ax;obtain⟨bh,bi,bj,bk⟩:=f4 ax;obtain⟨y0,y1,y2,y3⟩:=r4 aw;obtain⟨cR,cS,cT,cU⟩:=f4 aw;clear aw ax zq ho ae;go_wp2_with fail;refine ap (v:=.agg #[I U n,I J k,I J r,Y S m.length V]) (by simp[aJ,results46,go_sem,z0,z1,z2,z3,y0,y1,y2,y3]) rfl ?_;obtain⟨W9,aq⟩:=ex (((((L.setCell ⟨w.heap.size+1,3,O⟩ (Y S m.length V)).setCell ⟨w.heap.size,0,O⟩ (I U n)).setCell ⟨w.heap.size,1,O⟩ (I J k)).setCell ⟨w.heap.size,2,O⟩ (I J r)).setCell ⟨w.heap.size,3,O⟩ (Y S m.length V));rw[←aq];have X:W9=setsAt (setsAt L (w.heap.size+1) 0 [(3,Y S m.length V)]) w.heap.size 0 [(0,I U n),(1,I J k),(2,I J r),(3,Y S m.length V)]:=aq;have au:W9.heap.size=L.heap.size:=by rw[X,BO,BO]
   have hoth:∀ j,j≠w.heap.size→j≠w.heap.size+1→W9.heap[j]? =L.heap[j]?:=fun j h1 h2=>by
    rw[X,AU h1,AU h2]
   clear aq;refine⟨_,rfl,?_,?_,?_⟩
   ·refine(GU bb.o.rd (ab au.symm) fun j hj _=>hoth j (by have:=R.o;omega) (by have:=R.o;omega)).mono (by have:=R.o;omega)
   ·refine PA.L6 (M:=[w.heap.size,w.heap.size+1]) ((bc.o.below aK.o).loc (fun b C=>?_) (ab au.symm) fun b C F=>?_) bV.o
    ·have:=bw.o b C;simp only[am,ak,or_false,not_or];omega
    ·simp only[am,ak,or_false,not_or] at F;exact hoth b F.1 F.2
   ·have E:=bd.o.trans (Upd.below aK.o);refine⟨?_,?_,?_,?_,fun j hj F=>?_⟩
    ·rw[X,(Be _ _).1,(Be _ _).1];exact E.os
    ·rw[X,(Be _ _).2.1,(Be _ _).2.1];exact E.tape
    ·rw[X,(Be _ _).2.2,(Be _ _).2.2];exact E.output
    ·rw[au];exact E.size
    ·rw[hoth j (by omega) (by omega)];exact E.block j hj F
section
variable {w w':cs} {D:Nat→Prop} {g:Nat} {d:Ad} {hd:Hd} {s:Ae}
def PA.P8(h:PA w D g d hd s)(p:KeepD D w w'){c:Ae}(o:w'.heap[g]? =Z (T (CR d hd c) 88 (0,0)))(hoth:∀ b,b<w.heap.size→b≠g→w'.heap[b]? =w.heap[b]?)
  (e:c.procs=s.procs) (f:c.samples=s.samples) (i:c.queues=s.queues) (j:c.bufs=s.bufs) (k:c.boards=s.boards) (l:c.semas=s.semas) (m:c.events=s.events) (n:c.mem=s.mem):PA w' D g d hd c:=by
 have a:Dv D g 88 w w':=⟨p,⟨_,_,h.blk⟩,hoth⟩;exact⟨o,h.nd,h.Bs.one C8 a (by decide),h.Bt.one C8 a (by decide),h.AB.one Fc a (by decide),h.Ay.one Fb a (by decide),e ▸ h.pr.one Fw a (by decide),f ▸ h.sa.one FT a (by decide),i ▸ h.qu.one F0 a (by decide),j ▸ h.bu.one Fu a (by decide),k ▸ h.bo.one Ft a (by decide),l ▸ h.se.one F4 a (by decide),m ▸ h.ev.one Fv a (by decide),n ▸ h.me.one ED a (by decide)⟩
def PA.Kn(h:PA w D g d hd s)(c:Int):PA (w.setCell ⟨g,18,O⟩ (I J c)) D g d hd {s with clock:=c}∧Upd (Mut g hd) w (w.setCell ⟨g,18,O⟩ (I J c)):=
 ⟨h.P8 (KeepD.set h.nd _ _) (by rw[av w g 18 _ _ _ h.blk];rfl) (fun b _ a=>ao _ _ _ _ a) rfl rfl rfl rfl rfl rfl rfl rfl,Upd.Cc (M:=Mut g hd) (by simp[Mut]) 0 [(18,I J c)]⟩
def PA.Lr(h:PA w D g d hd s)(c:Int):PA (w.setCell ⟨g,17,O⟩ (I U c)) D g d hd {s with mode:=c}∧Upd (Mut g hd) w (w.setCell ⟨g,17,O⟩ (I U c)):=
 ⟨h.P8 (KeepD.set h.nd _ _) (by rw[av w g 17 _ _ _ h.blk];rfl) (fun b _ a=>ao _ _ _ _ a) rfl rfl rfl rfl rfl rfl rfl rfl,Upd.Cc (M:=Mut g hd) (by simp[Mut]) 0 [(17,I U c)]⟩
def BJ(w:cs)(B:Nat)(v:eL)(l:List CG):Prop:=Sl w B 3 v l.length (Hn l)
def BF.rd{B:Nat}{v:eL}{l:List CG}(h:BF w B v l):BJ w B v l:=Sl.Bw h
def PA.two(h:PA w' (Wo D [w.heap.size,w.heap.size+1]) g d hd s)(i:∀ b∈AL g hd,¬D b)(e:∀ b∈AL g hd,b<w.heap.size){W:cs}(j:w'.heap.size≤W.heap.size)(a:∀ b,b<w'.heap.size→b≠w.heap.size→b≠w.heap.size+1→W.heap[b]? =w'.heap[b]?):PA W D g d hd s:=
 PA.L6 (M:=[w.heap.size,w.heap.size+1]) (h.loc (fun b a=>by
  have:=e b a;simp only[am,ak,or_false,not_or];omega) j fun b f c=>by
  simp only[am,ak,or_false,not_or] at c;exact a b f c.1 c.2) i
def Upd.two{M:List Nat}{u:cs}(h:Upd M w w')(k:w'.heap.size≤u.heap.size)(f:u.os=w'.os)(l:u.tape=w'.tape)(i:u.output=w'.output)(c:∀ b,b<w'.heap.size→b≠w.heap.size→b≠w.heap.size+1→u.heap[b]? =w'.heap[b]?):Upd M w u:=
 ⟨f.trans h.os,l.trans h.tape,i.trans h.output,df h.size k,fun j a e=>(c j (aI a h.size) (by omega) (by omega)).trans (h.block j a e)⟩
end
def No{W a:cs}{B sz n:Nat}{v:eL}{d:List eL}(h:Sl W B sz v n d)(i:W.heap.size≤a.heap.size)(c:∀ b,B≤b→b<W.heap.size→a.heap[b]? =W.heap[b]?):Sl a B sz v n d:=by
 have g:Ct (fun b=>B≤b) v:=Ja h fun b c _=>c
 exact Np h (I6 (D:=fun b=>B≤b) (h.mono (aL _)) g ⟨i,fun b e f=>c b e f⟩)
def BF.lt{w:cs}{B b:Nat}{v:eL}{l:List CG}(h:BF w B v l)(a:v.ownBlock=Z b):b<w.heap.size:=by
 rcases h.2 with ⟨rfl,_⟩|⟨q,cap,cur,rfl,_,c,_⟩
 ·cases a
 ·injection a with a;have:=Aa c;show b<_;rw[←a];exact this
def Rp(w:cs)(D:Nat→Prop)(g:Nat)(d:Ad)(c:Hd)(r:Ae×Im)(e:Ending)(w':cs):Prop:=
 ∃ f h,e=.returned (.tuple #[.agg #[I J r.2.ran,I U r.2.act.kind,I J r.2.act.a,I J r.2.act.b,f,h],I J r.2.e])∧Af U w' w.heap.size f r.2.act.data∧BJ w' w.heap.size h r.2.faults∧PA w' D g d c r.1∧Upd (Mut g c) w w'
def Zb(B:Nat)(w:cs)(D:Nat→Prop)(g:Nat)(d:Ad)(l:Hd)(s:Ae)(now:Int)(cR:Gl B w)(hM:∀ q∈Mut g l,B≤q)(h:PA w D g d l s)(ok:Ah d s)(dk:K0 d)(dj:∀ x∈s.boards,0≤x.val∧x.val≤255)(ds:∀ i,i<s.procs.length→Ed (d.procs.getD i default).code.length (s.procs.getD i default).s)(hD:∀ q,w.heap.size≤q→D q):
  Calls prog 17 #[G (Z ⟨g,0,O⟩),I J now] w (Rp w D g d l (A3 d now s)):=by
 have HN:=HH h.Pz;have aE:=HH h.K8;have a9:=HH h.Ke;obtain⟨OK,HM,HG,dK,dx,dy,bT⟩:=H7 ok hM cR ds dj dk hD;have ez:=ok.clock;have h':PA w (Wo D [w.heap.size,w.heap.size+1]) g d l s:=h.wo (by intro q hq;simp only[am,ak,or_false] at hq;omega);have H:=HH h';have dz:=HH h.cut;have cC:=h.lt;have dR:∀ a b,((w.alloc a).alloc b).cell? ⟨g,17,O⟩=Z (I U s.mode):=fun a b=>((DX w a b).cell (p:=⟨g,17,O⟩) cC).trans (h.cell 17);have dS:∀ a b,((w.alloc a).alloc b).cell? ⟨g,18,O⟩=Z (I J s.clock):=fun a b=>((DX w a b).cell (p:=⟨g,18,O⟩) cC).trans (h.cell 18);have dT:∀ a b,((w.alloc a).alloc b).cell? ⟨g,20,O⟩=Z (.bool true):=fun a b=>((DX w a b).cell (p:=⟨g,20,O⟩) cC).trans (h.cell 20);have f18:∀ a b,((w.alloc a).alloc b).frozen? ⟨g,18,O⟩=false:=fun a b=>(h.below (DX w a b)).frozen 18;clear h h' ok hM cR ds dj dk hD;have eh:s.procs.length=d.procs.length:=OK.o.procs;have h6:s.procs.length≤6:=by have:=OK.o.ok.procs;omega
 go_enter func17,ntmps17;go_upto_region 4 with (fail);clear dR dS dT f18;obtain⟨F,b3⟩:=ex ((w.alloc (T #[I J 0,I U 0,I J 0,I J 0,Y O 0 0,Y O 0 0] 43)).alloc (T #[I J (-1),I U 0,I J 0,I J 0,Y O 0 0,Y O 0 0] 43));rw[←b3];obtain⟨cO,cP⟩:=Da w (T #[I J 0,I U 0,I J 0,I J 0,Y O 0 0,Y O 0 0] 43) (T #[I J (-1),I U 0,I J 0,I J 0,Y O 0 0,Y O 0 0] 43);have bx:Hq (Bl w F):=by rw[b3];exact DX w _ _
 rw[←b3] at cO cP;have Q0:Hq (F.heap[w.heap.size]? =Z (T #[I J 0,I U 0,I J 0,I J 0,Y O 0 0,Y O 0 0] 43 (0,0))):=cO;have Q1:Hq (F.heap[w.heap.size+1]? =Z (T #[I J (-1),I U 0,I J 0,I J 0,Y O 0 0,Y O 0 0] 43 (0,0))):=cP;clear cO cP b3;have aY:Hq (PA F (Wo D [w.heap.size,w.heap.size+1]) g d l s):=H.o.below bx.o;have en:F.cell? ⟨g,17,O⟩=Z (I U s.mode):=aY.o.cell 17;have eo:F.cell? ⟨g,18,O⟩=Z (I J s.clock):=aY.o.cell 18;have dU:F.frozen? ⟨g,18,O⟩=false:=aY.o.frozen 18;by_cases dn:now<s.clock
 ·have M:Hq (A3 d now s=(s,⟨-1,zeroA,[],2⟩)):=by
   show _=_;simp only[A3];rw[if_pos (.inl dn)]
  have R:Hq (F.heap[w.heap.size]? =Z (T #[I J 0,I U 0,I J 0,I J 0,Y O 0 0,Y O 0 0] 43 (0,0))):=Q0.o;have QB:Hq (F.heap[w.heap.size+1]? =Z (T #[I J (-1),I U 0,I J 0,I J 0,Y O 0 0,Y O 0 0] 43 (0,0))):=Q1.o;have ar:Hq (PA F (Wo D [w.heap.size,w.heap.size+1]) g d l (A3 d now s).1):=by
   rw[M.o];exact aY.o
  have au:Hq (Upd (Mut g l) w F):=(Upd.below bx.o);obtain⟨ay,az,aA,aB,aC,aD⟩:=r6 R.o;obtain⟨bc,bd,be,bf,bg,bh⟩:=f6 R.o;obtain⟨ac,ae,ag,ah,ai,aj⟩:=r6 QB.o;go_wp2_with fail;refine ap (v:=.tuple #[.agg #[I J (-1),I U 0,I J 0,I J 0,Y O 0 0,Y O 0 0],I J 2]) (by simp[aJ,results17,go_sem,ay,ac,az,ae,aA,ag,aB,ah,aC,ai,aD,aj]) rfl ?_;obtain⟨m,E⟩:=ex ((((((F.setCell ⟨w.heap.size,0,O⟩ (I J (-1))).setCell ⟨w.heap.size,1,O⟩ (I U 0)).setCell ⟨w.heap.size,2,O⟩ (I J 0)).setCell ⟨w.heap.size,3,O⟩ (I J 0)).setCell ⟨w.heap.size,4,O⟩ (Y O 0 0)).setCell ⟨w.heap.size,5,O⟩ (Y O 0 0));rw[←E];have K:m=setsAt F w.heap.size 0 [(0,I J (-1)),(1,I U 0),(2,I J 0),(3,I J 0),(4,Y O 0 0),(5,Y O 0 0)]:=E;have N:m.heap.size=F.heap.size:=by rw[K,BO]
  have hoth:∀ j,j≠w.heap.size→m.heap[j]? =F.heap[j]?:=fun j u=>by rw[K,AU u]
  have L:m.os=F.os∧m.tape=F.tape∧m.output=F.output:=by rw[K];exact Be _ _
  clear E;refine⟨(Y O 0 0),(Y O 0 0),?_,?_,?_,?_,?_⟩
  ·rw[M.o];try rfl
  ·rw[M.o];exact Af.nil _ _ _
  ·rw[M.o];exact(Sl.nil _ _ _)
  ·have aa:∀ b,(Wo D [w.heap.size,w.heap.size+1]) b→D b∧b≠w.heap.size:=(fun b f=>⟨f.1,fun e=>f.2 (by simp[e])⟩);exact(ar.o.Ei ⟨ab N.symm,fun b f hl=>hoth b (aa b f).2⟩ fun b f=>hoth b (by have:=aE.o b f;omega)).grow (fun b f=>(aa b f).1) HN.o
  ·exact au.o.two (ab N.symm) L.1 L.2.1 L.2.2 fun b _ u _=>hoth b u
 ·by_cases dl:1073741824<now
  ·have M:Hq (A3 d now s=(s,⟨-1,zeroA,[],2⟩)):=by
    show _=_;simp only[A3];rw[if_pos (.inr dl)]
   have R:Hq (F.heap[w.heap.size]? =Z (T #[I J 0,I U 0,I J 0,I J 0,Y O 0 0,Y O 0 0] 43 (0,0))):=Q0.o;have QB:Hq (F.heap[w.heap.size+1]? =Z (T #[I J (-1),I U 0,I J 0,I J 0,Y O 0 0,Y O 0 0] 43 (0,0))):=Q1.o;have ar:Hq (PA F (Wo D [w.heap.size,w.heap.size+1]) g d l (A3 d now s).1):=by
    rw[M.o];exact aY.o
   have au:Hq (Upd (Mut g l) w F):=(Upd.below bx.o);obtain⟨ay,az,aA,aB,aC,aD⟩:=r6 R.o;obtain⟨bc,bd,be,bf,bg,bh⟩:=f6 R.o;obtain⟨ac,ae,ag,ah,ai,aj⟩:=r6 QB.o;go_wp2_with fail;refine ap (v:=.tuple #[.agg #[I J (-1),I U 0,I J 0,I J 0,Y O 0 0,Y O 0 0],I J 2]) (by simp[aJ,results17,go_sem,ay,ac,az,ae,aA,ag,aB,ah,aC,ai,aD,aj]) rfl ?_;obtain⟨m,E⟩:=ex ((((((F.setCell ⟨w.heap.size,0,O⟩ (I J (-1))).setCell ⟨w.heap.size,1,O⟩ (I U 0)).setCell ⟨w.heap.size,2,O⟩ (I J 0)).setCell ⟨w.heap.size,3,O⟩ (I J 0)).setCell ⟨w.heap.size,4,O⟩ (Y O 0 0)).setCell ⟨w.heap.size,5,O⟩ (Y O 0 0));rw[←E];have K:m=setsAt F w.heap.size 0 [(0,I J (-1)),(1,I U 0),(2,I J 0),(3,I J 0),(4,Y O 0 0),(5,Y O 0 0)]:=E;have N:m.heap.size=F.heap.size:=by rw[K,BO]
   have hoth:∀ j,j≠w.heap.size→m.heap[j]? =F.heap[j]?:=fun j u=>by rw[K,AU u]
   have L:m.os=F.os∧m.tape=F.tape∧m.output=F.output:=by rw[K];exact Be _ _
   clear E;refine⟨(Y O 0 0),(Y O 0 0),?_,?_,?_,?_,?_⟩
   ·rw[M.o];try rfl
   ·rw[M.o];exact Af.nil _ _ _
   ·rw[M.o];exact(Sl.nil _ _ _)
   ·have aa:∀ b,(Wo D [w.heap.size,w.heap.size+1]) b→D b∧b≠w.heap.size:=(fun b f=>⟨f.1,fun e=>f.2 (by simp[e])⟩);exact(ar.o.Ei ⟨ab N.symm,fun b f hl=>hoth b (aa b f).2⟩ fun b f=>hoth b (by have:=aE.o b f;omega)).grow (fun b f=>(aa b f).1) HN.o
   ·exact au.o.two (ab N.symm) L.1 L.2.1 L.2.2 fun b _ u _=>hoth b u
  ·have a7:¬(now<s.clock∨1073741824<now):=by omega
   have a6:0≤now:=by omega
   have ef:now≤1073741824:=by omega
   have ej:IntKind.i64.wrap (now+1)=now+1:=by rw[IntKind.wrap_i64];omega
   obtain⟨S,bi⟩:=ex (F.setCell ⟨g,18,O⟩ (I J (now+1)));have c9:=HH bi;go_upto_region 7 with (fail);rw[←c9.o];have eB:g<F.heap.size:=aY.o.lt;have a0:Hq (S.heap[w.heap.size]? =Z (T #[I J 0,I U 0,I J 0,I J 0,Y O 0 0,Y O 0 0] 43 (0,0))):=by
    rw[bi];exact(ao _ _ _ _ (by show w.heap.size≠g;omega)).trans Q0.o
   have aN:Hq (S.heap[w.heap.size+1]? =Z (T #[I J (-1),I U 0,I J 0,I J 0,Y O 0 0,Y O 0 0] 43 (0,0))):=by
    rw[bi];exact(ao _ _ _ _ (by show w.heap.size+1≠g;omega)).trans Q1.o
   have aZ:Hq (PA S (Wo D [w.heap.size,w.heap.size+1]) g d l {s with clock:=now+1}):=by rw[bi];exact(aY.o.Kn _).1
   have cX:Hq (PA S (fun b=>D b∧b<w.heap.size) g d l {s with clock:=now+1}):=by rw[bi];exact((dz.o.below bx.o).Kn _).1
   have bB:Hq (Upd (Mut g l) w S):=by rw[bi];exact(Upd.below bx.o).trans (aY.o.Kn _).2
   have cQ:S.cell? ⟨g,17,O⟩=Z (I U s.mode):=aZ.o.cell 17;have cA:S.frozen? ⟨g,17,O⟩=false:=aZ.o.frozen 17;clear Q0 Q1 bi en eo dU ej dn dl c9;by_cases h4:s.mode=4
   ·have cB:(s.mode==4)=true:=by simp[h4]
    have M:Hq (A3 d now s=({s with clock:=now+1},⟨-1,zeroA,[],0⟩)):=by
     show _=_;simp only[A3];rw[if_neg a7,if_pos h4]
    clear h4;have R:Hq (S.heap[w.heap.size]? =Z (T #[I J 0,I U 0,I J 0,I J 0,Y O 0 0,Y O 0 0] 43 (0,0))):=a0.o;have QB:Hq (S.heap[w.heap.size+1]? =Z (T #[I J (-1),I U 0,I J 0,I J 0,Y O 0 0,Y O 0 0] 43 (0,0))):=aN.o;have ar:Hq (PA S (Wo D [w.heap.size,w.heap.size+1]) g d l (A3 d now s).1):=by
     rw[M.o];exact aZ.o
    have au:Hq (Upd (Mut g l) w S):=bB.o;obtain⟨ay,az,aA,aB,aC,aD⟩:=r6 R.o;obtain⟨bc,bd,be,bf,bg,bh⟩:=f6 R.o;obtain⟨ac,ae,ag,ah,ai,aj⟩:=r6 QB.o;go_wp2_with fail;refine ap (v:=.tuple #[.agg #[I J (-1),I U 0,I J 0,I J 0,Y O 0 0,Y O 0 0],I J 0]) (by simp[aJ,results17,go_sem,ay,ac,az,ae,aA,ag,aB,ah,aC,ai,aD,aj]) rfl ?_;obtain⟨m,E⟩:=ex ((((((S.setCell ⟨w.heap.size,0,O⟩ (I J (-1))).setCell ⟨w.heap.size,1,O⟩ (I U 0)).setCell ⟨w.heap.size,2,O⟩ (I J 0)).setCell ⟨w.heap.size,3,O⟩ (I J 0)).setCell ⟨w.heap.size,4,O⟩ (Y O 0 0)).setCell ⟨w.heap.size,5,O⟩ (Y O 0 0));rw[←E];have K:m=setsAt S w.heap.size 0 [(0,I J (-1)),(1,I U 0),(2,I J 0),(3,I J 0),(4,Y O 0 0),(5,Y O 0 0)]:=E;have N:m.heap.size=S.heap.size:=by rw[K,BO]
    have hoth:∀ j,j≠w.heap.size→m.heap[j]? =S.heap[j]?:=fun j u=>by rw[K,AU u]
    have L:m.os=S.os∧m.tape=S.tape∧m.output=S.output:=by rw[K];exact Be _ _
    clear E;refine⟨(Y O 0 0),(Y O 0 0),?_,?_,?_,?_,?_⟩
    ·rw[M.o];try rfl
    ·rw[M.o];exact Af.nil _ _ _
    ·rw[M.o];exact(Sl.nil _ _ _)
    ·have aa:∀ b,(Wo D [w.heap.size,w.heap.size+1]) b→D b∧b≠w.heap.size:=(fun b f=>⟨f.1,fun e=>f.2 (by simp[e])⟩);exact(ar.o.Ei ⟨ab N.symm,fun b f hl=>hoth b (aa b f).2⟩ fun b f=>hoth b (by have:=aE.o b f;omega)).grow (fun b f=>(aa b f).1) HN.o
    ·exact au.o.two (ab N.symm) L.1 L.2.1 L.2.2 fun b _ u _=>hoth b u
   ·by_cases aT:s.mode=1∨s.mode=2
    ·by_cases u:s.mode=1
     ·have cB:(s.mode==4)=false:=by simp[h4]
      obtain⟨s2,aH⟩:∃ z:Ae,z={s with clock:=now+1,mode:=3}:=⟨_,rfl⟩;have M:Hq (A3 d now s=(FE d now s.procs.length s2,⟨-1,zeroA,[],0⟩)):=by
       show _=_;simp only[A3];rw[if_neg a7,if_neg h4,if_pos aT,aH]
      obtain⟨W2,aU⟩:=ex (S.setCell ⟨g,17,O⟩ (I U 3));have bA:Hq (PA W2 (Wo D [w.heap.size,w.heap.size+1]) g d l s2):=by rw[aU,aH];exact(aZ.o.Lr _).1
      have aR:Hq (Upd (Mut g l) S W2):=by rw[aU];exact(aZ.o.Lr _).2
      have bO:s2.procs.length=s.procs.length:=by rw[aH]
      have cL:Ah d s2:=by rw[aH];exact(OK.o.clk (c:=now+1) (by omega) (by omega)).mode 3
      have ct:=HH cL;have cg:W2.cell? ⟨g,10,O⟩=Z (Y l.pr.a s.procs.length l.pr.c):=by
       have:=bA.o.cell 10;rw[←bO];exact this
      have dG:=HH aH;have cI:w.heap.size+1<W2.heap.size:=aI (Aa aN.o) aR.o.size;have aV:w.heap.size∉Mut g l:=fun hm=>by have:=a9.o _ hm;omega
      have aW:w.heap.size+1∉Mut g l:=fun hm=>by have:=a9.o _ hm;omega
      have bC:=HH aU;have cp:Hq (W2.heap[w.heap.size]? =Z (T #[I J 0,I U 0,I J 0,I J 0,Y O 0 0,Y O 0 0] 43 (0,0))):=(aR.o.block _ (Aa a0.o) aV).trans a0.o;have cq:Hq (W2.heap[w.heap.size+1]? =Z (T #[I J (-1),I U 0,I J 0,I J 0,Y O 0 0,Y O 0 0] 43 (0,0))):=(aR.o.block _ (Aa aN.o) aW).trans aN.o;clear aH h4 aU;have dh:(s.mode==1)=true:=by simp[u]
      clear u aT;go_upto_region 13 with (fail);rw[←bC.o];clear cQ cA bC;go_wp2_with fail;clear cg
      go_loopw [7,54] (fun _ v wr=>∃ k:Nat,k≤s.procs.length∧v=I J k∧Hq (PA wr (Wo D [w.heap.size,w.heap.size+1]) g d l (FE d now k s2)∧Upd (Mut g l) W2 wr)) (fun _ v _=>s.procs.length-(intOf v).toNat)
      case atStart=>exact⟨0,aL _,rfl,bA.o,Upd.refl _ _⟩
      case round=>
       obtain⟨k,ed,rfl,A⟩:=hrel;by_cases hk:k<s.procs.length
       ·have ee:(k:Int)<(s.procs.length:Int):=by omega
        obtain⟨hp,hu⟩:=A.o;have ek:=hu.size;obtain⟨HC,HU⟩:=H2 (Nr wr (Wo D [w.heap.size,w.heap.size+1]) g d l (FE d now k s2) k now hp (ct.o.Jx a6 (by omega) k (by omega)) (fun q hq=>⟨bT.o q (by omega),by simp only[am,ak,or_false,not_or];omega⟩) a6 (by omega) (by rw[Lz,bO];exact hk)) hu;clear A hp hu;go_wp2_with (refine HC.o.mono ?_;rintro e w3 ⟨rfl,p3,u3⟩;replace p3:=HH p3;replace u3:=HH (HU.o.trans u3))
        go_roundw
        case rel=>exact⟨k+1,by omega,by go_num,p3.o,u3.o⟩
        case measure=>simp[intOf];omega
       ·obtain rfl:k=s.procs.length:=by omega
        obtain⟨hp,hu⟩:=A.o;obtain⟨cn,bb⟩:=H2 hp hu;clear A hp hu;have R:Hq (wr.heap[w.heap.size]? =Z (T #[I J 0,I U 0,I J 0,I J 0,Y O 0 0,Y O 0 0] 43 (0,0))):=(bb.o.block _ (by omega) aV).trans cp.o;have QB:Hq (wr.heap[w.heap.size+1]? =Z (T #[I J (-1),I U 0,I J 0,I J 0,Y O 0 0,Y O 0 0] 43 (0,0))):=(bb.o.block _ cI aW).trans cq.o;have ar:Hq (PA wr (Wo D [w.heap.size,w.heap.size+1]) g d l (A3 d now s).1):=by
         rw[M.o];exact cn.o
        have au:Hq (Upd (Mut g l) w wr):=(bB.o.trans (aR.o.trans bb.o));obtain⟨ay,az,aA,aB,aC,aD⟩:=r6 R.o;obtain⟨bc,bd,be,bf,bg,bh⟩:=f6 R.o;obtain⟨ac,ae,ag,ah,ai,aj⟩:=r6 QB.o;go_wp2_with fail;refine ap (v:=.tuple #[.agg #[I J (-1),I U 0,I J 0,I J 0,Y O 0 0,Y O 0 0],I J 0]) (by simp[aJ,results17,go_sem,ay,ac,az,ae,aA,ag,aB,ah,aC,ai,aD,aj]) rfl ?_;obtain⟨m,E⟩:=ex ((((((wr.setCell ⟨w.heap.size,0,O⟩ (I J (-1))).setCell ⟨w.heap.size,1,O⟩ (I U 0)).setCell ⟨w.heap.size,2,O⟩ (I J 0)).setCell ⟨w.heap.size,3,O⟩ (I J 0)).setCell ⟨w.heap.size,4,O⟩ (Y O 0 0)).setCell ⟨w.heap.size,5,O⟩ (Y O 0 0));rw[←E];have K:m=setsAt wr w.heap.size 0 [(0,I J (-1)),(1,I U 0),(2,I J 0),(3,I J 0),(4,Y O 0 0),(5,Y O 0 0)]:=E;have N:m.heap.size=wr.heap.size:=by rw[K,BO]
        have hoth:∀ j,j≠w.heap.size→m.heap[j]? =wr.heap[j]?:=fun j u=>by rw[K,AU u]
        have L:m.os=wr.os∧m.tape=wr.tape∧m.output=wr.output:=by rw[K];exact Be _ _
        clear E;refine⟨(Y O 0 0),(Y O 0 0),?_,?_,?_,?_,?_⟩
        ·rw[M.o];try rfl
        ·rw[M.o];exact Af.nil _ _ _
        ·rw[M.o];exact(Sl.nil _ _ _)
        ·have aa:∀ b,(Wo D [w.heap.size,w.heap.size+1]) b→D b∧b≠w.heap.size:=(fun b f=>⟨f.1,fun e=>f.2 (by simp[e])⟩);exact(ar.o.Ei ⟨ab N.symm,fun b f hl=>hoth b (aa b f).2⟩ fun b f=>hoth b (by have:=aE.o b f;omega)).grow (fun b f=>(aa b f).1) HN.o
        ·exact au.o.two (ab N.symm) L.1 L.2.1 L.2.2 fun b _ u _=>hoth b u
     ·have cB:(s.mode==4)=false:=by simp[h4]
      obtain⟨s2,aH⟩:∃ z:Ae,z={s with clock:=now+1,mode:=3}:=⟨_,rfl⟩;have M:Hq (A3 d now s=(FE d now s.procs.length s2,⟨-1,zeroA,[],0⟩)):=by
       show _=_;simp only[A3];rw[if_neg a7,if_neg h4,if_pos aT,aH]
      obtain⟨W2,aU⟩:=ex (S.setCell ⟨g,17,O⟩ (I U 3));have bA:Hq (PA W2 (Wo D [w.heap.size,w.heap.size+1]) g d l s2):=by rw[aU,aH];exact(aZ.o.Lr _).1
      have aR:Hq (Upd (Mut g l) S W2):=by rw[aU];exact(aZ.o.Lr _).2
      have bO:s2.procs.length=s.procs.length:=by rw[aH]
      have cL:Ah d s2:=by rw[aH];exact(OK.o.clk (c:=now+1) (by omega) (by omega)).mode 3
      have ct:=HH cL;have cg:W2.cell? ⟨g,10,O⟩=Z (Y l.pr.a s.procs.length l.pr.c):=by
       have:=bA.o.cell 10;rw[←bO];exact this
      have dG:=HH aH;have cI:w.heap.size+1<W2.heap.size:=aI (Aa aN.o) aR.o.size;have aV:w.heap.size∉Mut g l:=fun hm=>by have:=a9.o _ hm;omega
      have aW:w.heap.size+1∉Mut g l:=fun hm=>by have:=a9.o _ hm;omega
      have bC:=HH aU;have cp:Hq (W2.heap[w.heap.size]? =Z (T #[I J 0,I U 0,I J 0,I J 0,Y O 0 0,Y O 0 0] 43 (0,0))):=(aR.o.block _ (Aa a0.o) aV).trans a0.o;have cq:Hq (W2.heap[w.heap.size+1]? =Z (T #[I J (-1),I U 0,I J 0,I J 0,Y O 0 0,Y O 0 0] 43 (0,0))):=(aR.o.block _ (Aa aN.o) aW).trans aN.o;clear aH h4 aU;have dh:(s.mode==1)=false:=by simp[u]
      have eb:(s.mode==2)=true:=by
       have:s.mode=2:=by omega
       simp[this]
      clear u aT;go_upto_region 13 with (fail);rw[←bC.o];clear cQ cA bC;go_wp2_with fail;clear cg
      go_loopw [7,54] (fun _ v wr=>∃ k:Nat,k≤s.procs.length∧v=I J k∧Hq (PA wr (Wo D [w.heap.size,w.heap.size+1]) g d l (FE d now k s2)∧Upd (Mut g l) W2 wr)) (fun _ v _=>s.procs.length-(intOf v).toNat)
      case atStart=>exact⟨0,aL _,rfl,bA.o,Upd.refl _ _⟩
      case round=>
       obtain⟨k,ed,rfl,A⟩:=hrel;by_cases hk:k<s.procs.length
       ·have ee:(k:Int)<(s.procs.length:Int):=by omega
        obtain⟨hp,hu⟩:=A.o;have ek:=hu.size;obtain⟨HC,HU⟩:=H2 (Nr wr (Wo D [w.heap.size,w.heap.size+1]) g d l (FE d now k s2) k now hp (ct.o.Jx a6 (by omega) k (by omega)) (fun q hq=>⟨bT.o q (by omega),by simp only[am,ak,or_false,not_or];omega⟩) a6 (by omega) (by rw[Lz,bO];exact hk)) hu;clear A hp hu;go_wp2_with (refine HC.o.mono ?_;rintro e w3 ⟨rfl,p3,u3⟩;replace p3:=HH p3;replace u3:=HH (HU.o.trans u3))
        go_roundw
        case rel=>exact⟨k+1,by omega,by go_num,p3.o,u3.o⟩
        case measure=>simp[intOf];omega
       ·obtain rfl:k=s.procs.length:=by omega
        obtain⟨hp,hu⟩:=A.o;obtain⟨cn,bb⟩:=H2 hp hu;clear A hp hu;have R:Hq (wr.heap[w.heap.size]? =Z (T #[I J 0,I U 0,I J 0,I J 0,Y O 0 0,Y O 0 0] 43 (0,0))):=(bb.o.block _ (by omega) aV).trans cp.o;have QB:Hq (wr.heap[w.heap.size+1]? =Z (T #[I J (-1),I U 0,I J 0,I J 0,Y O 0 0,Y O 0 0] 43 (0,0))):=(bb.o.block _ cI aW).trans cq.o;have ar:Hq (PA wr (Wo D [w.heap.size,w.heap.size+1]) g d l (A3 d now s).1):=by
         rw[M.o];exact cn.o
        have au:Hq (Upd (Mut g l) w wr):=(bB.o.trans (aR.o.trans bb.o));obtain⟨ay,az,aA,aB,aC,aD⟩:=r6 R.o;obtain⟨bc,bd,be,bf,bg,bh⟩:=f6 R.o;obtain⟨ac,ae,ag,ah,ai,aj⟩:=r6 QB.o;go_wp2_with fail;refine ap (v:=.tuple #[.agg #[I J (-1),I U 0,I J 0,I J 0,Y O 0 0,Y O 0 0],I J 0]) (by simp[aJ,results17,go_sem,ay,ac,az,ae,aA,ag,aB,ah,aC,ai,aD,aj]) rfl ?_;obtain⟨m,E⟩:=ex ((((((wr.setCell ⟨w.heap.size,0,O⟩ (I J (-1))).setCell ⟨w.heap.size,1,O⟩ (I U 0)).setCell ⟨w.heap.size,2,O⟩ (I J 0)).setCell ⟨w.heap.size,3,O⟩ (I J 0)).setCell ⟨w.heap.size,4,O⟩ (Y O 0 0)).setCell ⟨w.heap.size,5,O⟩ (Y O 0 0));rw[←E];have K:m=setsAt wr w.heap.size 0 [(0,I J (-1)),(1,I U 0),(2,I J 0),(3,I J 0),(4,Y O 0 0),(5,Y O 0 0)]:=E;have N:m.heap.size=wr.heap.size:=by rw[K,BO]
        have hoth:∀ j,j≠w.heap.size→m.heap[j]? =wr.heap[j]?:=fun j u=>by rw[K,AU u]
        have L:m.os=wr.os∧m.tape=wr.tape∧m.output=wr.output:=by rw[K];exact Be _ _
        clear E;refine⟨(Y O 0 0),(Y O 0 0),?_,?_,?_,?_,?_⟩
        ·rw[M.o];try rfl
        ·rw[M.o];exact Af.nil _ _ _
        ·rw[M.o];exact(Sl.nil _ _ _)
        ·have aa:∀ b,(Wo D [w.heap.size,w.heap.size+1]) b→D b∧b≠w.heap.size:=(fun b f=>⟨f.1,fun e=>f.2 (by simp[e])⟩);exact(ar.o.Ei ⟨ab N.symm,fun b f hl=>hoth b (aa b f).2⟩ fun b f=>hoth b (by have:=aE.o b f;omega)).grow (fun b f=>(aa b f).1) HN.o
        ·exact au.o.two (ab N.symm) L.1 L.2.1 L.2.2 fun b _ u _=>hoth b u
    ·have cB:(s.mode==4)=false:=by simp[h4]
     have dh:(s.mode==1)=false:=by
      have:s.mode≠1:=fun e=>aT (.inl e);simp[this]
     have eb:(s.mode==2)=false:=by
      have:s.mode≠2:=fun e=>aT (.inr e);simp[this]
     obtain⟨s1,bu⟩:∃ y:Ae,y={s with clock:=now+1}:=⟨_,rfl⟩;have cK:Ah d s1:=by rw[bu];exact OK.o.clk (c:=now+1) (by omega) (by omega)
     obtain⟨s3,bw⟩:=ex (Dl d now s1);have bQ:Ah d s3:=by rw[bw];exact cK.release a6 ef
     obtain⟨⟨s4,n⟩,bl⟩:∃ y,y=CP now s3:=⟨_,rfl⟩;have cM:Ah d s4:=by
      have:=bQ.late (now:=now);rw[←bl] at this;exact this
     have eA:n.length≤6:=by
      have e:n=C7 now 0 s3.procs:=congrArg Prod.snd bl;have:=KH now s3.procs 0;have:=bQ.procs;have:=bQ.ok.procs;rw[e];omega
     obtain⟨z,hz⟩:=ex (Hw d s4);have cJ:=PK d s4;rw[←hz] at cJ;have M:Hq (A3 d now s=if z<0 then(s4,⟨z,zeroA,n,0⟩) else((EI d z.toNat now s4).1,⟨z,(EI d z.toNat now s4).2,if(EI d z.toNat now s4).2.kind=15 then n++ [⟨z,(EI d z.toNat now s4).2.a%256,(EI d z.toNat now s4).2.b⟩] else n,0⟩)):=by
      show _=_;simp only[A3];rw[if_neg a7,if_neg h4,if_neg aT,←bu,←bw,←bl,←hz]
     have di:s4.boards=s.boards:=by
      have e:s4=(CP now s3).1:=congrArg Prod.fst bl;rw[e,bw,bu];rfl
     have dr:∀ k,(s4.procs.getD k default).s=(s.procs.getD k default).s:=fun k=>by
      have e:s4=(CP now s3).1:=congrArg Prod.fst bl;rw[e,Pf,bw,Qn,bu]
     have eC:s4.procs.length=s.procs.length:=by rw[cM.procs,eh]
     have cc:=HH (Yz S (fun b=>D b∧b<w.heap.size) g d l s1 now (by rw[bu];exact cX.o) cK a6 (by omega));rw[←bw] at cc;obtain⟨dH,HZ,dO,da,dw,dJ,dN,ev⟩:=H8 bl hz bQ cM di dr cJ (And.intro h4 (And.intro aT a7));have aV:w.heap.size∉Mut g l:=fun hm=>by have:=a9.o _ hm;omega
     have aW:w.heap.size+1∉Mut g l:=fun hm=>by have:=a9.o _ hm;omega
     clear bu bw bl hz cK bQ cM di dr cJ h4 aT a7 cA;go_wp2_with fail;clear cQ;refine cc.o.mono ?_;rintro e w3 ⟨rfl,p3,u3⟩;have c5:Hq (Upd (Mut g l) w w3):=bB.o.trans u3;have cu:Hq (w3.heap[w.heap.size]? =Z (T #[I J 0,I U 0,I J 0,I J 0,Y O 0 0,Y O 0 0] 43 (0,0))):=(u3.block _ (Aa a0.o) aV).trans a0.o;have bZ:Hq (w3.heap[w.heap.size+1]? =Z (T #[I J (-1),I U 0,I J 0,I J 0,Y O 0 0,Y O 0 0] 43 (0,0))):=(u3.block _ (Aa aN.o) aW).trans aN.o;have eE:w.heap.size+1<w3.heap.size:=Aa bZ.o;have ce:=HH (WJ w3 (fun b=>D b∧b<w.heap.size) g d l s3 now p3 dO.o (fun b f=>Nat.lt_trans f.2 (by omega)) a6 (by omega));rw[←dH.o] at ce;clear p3 u3 cc a0 aN aZ cX bB;go_wp2_with fail;refine ce.o.mono ?_;rintro e w4 ⟨v,rfl,ho,p4,u4⟩;obtain⟨V,X,rfl⟩:=BF.shape ho;have c6:Hq (Upd (Mut g l) w w4):=c5.o.trans u4;have db:Hq (w4.heap[w.heap.size]? =Z (T #[I J 0,I U 0,I J 0,I J 0,Y O 0 0,Y O 0 0] 43 (0,0))):=(u4.block _ (Aa cu.o) aV).trans cu.o;have b0:Hq (w4.heap[w.heap.size+1]? =Z (T #[I J (-1),I U 0,I J 0,I J 0,Y O 0 0,Y O 0 0] 43 (0,0))):=(u4.block _ (Aa bZ.o) aW).trans bZ.o;obtain⟨cU,cY⟩:=H2 ho p4;have c3:Hq (w3.heap.size≤w4.heap.size):=u4.size;clear ho p4 u4 ce c5 cu bZ;obtain⟨ac,ae,ag,ah,ai,aj⟩:=r6 b0.o;obtain⟨bH,bI,bJ,bK,bL,bM⟩:=f6 b0.o;go_upto_region 21 with (fail);clear ac bH ae bI ag bJ ah bK ai bL aj bM;obtain⟨W5,a4⟩:=ex (w4.setCell ⟨w.heap.size+1,5,O⟩ (Y V n.length X));rw[←a4];have b5:W5.heap.size=w4.heap.size:=by rw[a4];simp[cF]
     have br:∀ b,b≠w.heap.size+1→W5.heap[b]? =w4.heap[b]?:=fun b f=>by rw[a4];exact ao _ _ _ _ f
     have cv:Hq (W5.heap[w.heap.size]? =Z (T #[I J 0,I U 0,I J 0,I J 0,Y O 0 0,Y O 0 0] 43 (0,0))):=(br _ (by omega)).trans db.o;have cx:Hq (W5.heap[w.heap.size+1]? =Z (T #[I J (-1),I U 0,I J 0,I J 0,Y O 0 0,Y V n.length X] 43 (0,0))):=by
      rw[a4];show _=_;rw[av w4 (w.heap.size+1) 5 _ _ _ b0.o];rfl
     have ck:Hq (PA W5 (fun b=>D b∧b<w.heap.size) g d l s4):=cY.o.Ei ⟨ab b5.symm,fun b f _=>br b (by have:=f.2;omega)⟩ fun b f=>br b (by have:=aE.o b f;omega);have c7:Hq (Upd (Mut g l) w W5):=c6.o.two (ab b5.symm) (by rw[a4];rfl) (by rw[a4];rfl) (by rw[a4];rfl) fun b _ _ h2=>br b h2
     have cV:Hq (BF W5 w3.heap.size (Y V n.length X) n):=cU.o.Ag fun b f _=>br b (by omega);have c4:Hq (w3.heap.size≤W5.heap.size):=by rw[b5];exact c3.o
     have ch:=HH (Yc W5 (fun b=>D b∧b<w.heap.size) g d l s4 ck.o da.o);rw[←HZ.o] at ch;clear a4 b5 br cY c6 cU db b0 c3;go_wp2_with fail;refine ch.o.mono ?_;rintro e w6 ⟨rfl,b6⟩;have bn:=HH b6;have b1:w6.heap[w.heap.size+1]? =Z (T #[I J (-1),I U 0,I J 0,I J 0,Y O 0 0,Y V n.length X] 43 (0,0)):=(b6.block _ (Aa cx.o)).trans cx.o;obtain⟨ac,ae,ag,ah,ai,aj⟩:=r6 b1;obtain⟨bH,bI,bJ,bK,bL,bM⟩:=f6 b1;clear b6 ch;go_upto_region 22 with (fail);clear ac bH ae bI ag bJ ah bK ai bL aj bM;obtain⟨t,a5⟩:=ex (w6.setCell ⟨w.heap.size+1,0,O⟩ (I J z));rw[←a5];have b7:t.heap.size=w6.heap.size:=by rw[a5];simp[cF]
     have bs:∀ b,b≠w.heap.size+1→t.heap[b]? =w6.heap[b]?:=fun b f=>by rw[a5];exact ao _ _ _ _ f
     have bX:Hq (t.heap[w.heap.size]? =Z (T #[I J 0,I U 0,I J 0,I J 0,Y O 0 0,Y O 0 0] 43 (0,0))):=(bs _ (by omega)).trans ((bn.o.block _ (Aa cv.o)).trans cv.o);have bE:Hq (t.heap[w.heap.size+1]? =Z (T #[I J z,I U 0,I J 0,I J 0,Y O 0 0,Y V n.length X] 43 (0,0))):=by
      rw[a5];show _=_;rw[av w6 (w.heap.size+1) 0 _ _ _ b1];rfl
     have cl:Hq (PA t (fun b=>D b∧b<w.heap.size) g d l s4):=(ck.o.below bn.o).Ei ⟨ab b7.symm,fun b f _=>bs b (by have:=f.2;omega)⟩ fun b f=>bs b (by have:=aE.o b f;omega);have bV:Hq (Upd (Mut g l) w t):=(c7.o.trans (Upd.below bn.o)).two (ab b7.symm) (by rw[a5];rfl) (by rw[a5];rfl) (by rw[a5];rfl) fun b _ _ h2=>bs b h2
     have bz:Hq (BF t w3.heap.size (Y V n.length X) n):=cV.o.Ag fun b f hl=>(bs b (by omega)).trans (bn.o.block _ hl);have dI:Hq (w3.heap.size≤t.heap.size):=by
      rw[b7];exact df c4.o bn.o.size
     clear a5 b7 bs ck c7 cV cv cx b1 c4 bn;have x0:t.cell? ⟨w.heap.size+1,0,O⟩=Z (I J z):=Cr bE.o;by_cases dt:0≤z
     ·obtain⟨Q,rfl⟩:=Int.eq_ofNat_of_zero_le dt;have eg:Q<s4.procs.length:=by have:=dN.o.2;omega
      have cZ:PA t (fun b=>(D b∧b<w.heap.size)∨t.heap.size≤b) g d l s4:=cl.o.swap fun b f=>by
       have:¬t.heap.size≤b:=by omega
       simp[this]
      have ci:=HH (YA B t (fun b=>(D b∧b<w.heap.size)∨t.heap.size≤b) g d l s4 Q now (HG.o.BG bV.o HM.o) HM.o cZ da.o dy.o (by rw[dw.o];exact dx.o) (by rw[dJ.o];exact dK.o Q (by omega)) (fun q hq=>.inr hq) a6 (by omega) eg);obtain⟨⟨s5,⟨kd,P,rb,rd⟩⟩,bt⟩:∃ r,r=EI d Q now s4:=⟨_,rfl⟩;rw[←bt] at ci;have HF:Hq (A3 d now s=(s5,⟨Q,⟨kd,P,rb,rd⟩,if kd=15 then n++ [⟨Q,P%256,rb⟩] else n,0⟩)):=by
       show _=_;rw[M.o,if_neg (by omega),Int.toNat_natCast,←bt]
      clear cZ bt dt M;go_wp2_with fail;clear x0;refine ci.o.mono ?_;rintro e w8 ⟨vd,rfl,cH,p8,u8⟩;obtain⟨ad,cd,rfl,_,_⟩:=cH.open_;obtain⟨c1,c0,U8⟩:=H3 cH p8 u8;have c8:Hq (Upd (Mut g l) w w8):=bV.o.trans u8;have dc:Hq (w8.heap[w.heap.size]? =Z (T #[I J 0,I U 0,I J 0,I J 0,Y O 0 0,Y O 0 0] 43 (0,0))):=(u8.block _ (Aa bX.o) aV).trans bX.o;have b2:Hq (w8.heap[w.heap.size+1]? =Z (T #[I J Q,I U 0,I J 0,I J 0,Y O 0 0,Y V n.length X] 43 (0,0))):=(u8.block _ (Aa bE.o) aW).trans bE.o;have cW:Hq (BF w8 w3.heap.size (Y V n.length X) n):=bz.o.Ag fun b f hl=>u8.block b hl (fun hm=>by have:=a9.o b hm;omega);have eF:w3.heap.size≤t.heap.size:=dI.o;have eG:t.heap.size≤w8.heap.size:=u8.size;clear cH p8 u8 ci cl bV bX bE;obtain⟨ac,ae,ag,ah,ai,aj⟩:=r6 b2.o;obtain⟨bH,bI,bJ,bK,bL,bM⟩:=f6 b2.o;go_upto_region 24 with (fail);clear ac bH ae bI ag bJ ah bK ai bL aj bM;obtain⟨C,E⟩:=ex ((((w8.setCell ⟨w.heap.size+1,1,O⟩ (I U kd)).setCell ⟨w.heap.size+1,2,O⟩ (I J P)).setCell ⟨w.heap.size+1,3,O⟩ (I J rb)).setCell ⟨w.heap.size+1,4,O⟩ (Y ad rd.length cd));rw[←E];have eW:C=setsAt w8 (w.heap.size+1) 0 [(1,I U kd),(2,I J P),(3,I J rb),(4,Y ad rd.length cd)]:=E;have b8:C.heap.size=w8.heap.size:=by rw[eW,BO]
      have bk:∀ b,b≠w.heap.size+1→C.heap[b]? =w8.heap[b]?:=fun b f=>by rw[eW,AU f]
      have b4:C.os=w8.os∧C.tape=w8.tape∧C.output=w8.output:=by rw[eW];exact Be _ _
      have cw:Hq (C.heap[w.heap.size]? =Z (T #[I J 0,I U 0,I J 0,I J 0,Y O 0 0,Y O 0 0] 43 (0,0))):=(bk _ (by omega)).trans dc.o;have bF:Hq (C.heap[w.heap.size+1]? =Z (T #[I J Q,I U kd,I J P,I J rb,Y ad rd.length cd,Y V n.length X] 43 (0,0))):=by
       rw[eW];have hh:=Di [(1,I U kd),(2,I J P),(3,I J rb),(4,Y ad rd.length cd)] b2.o;simp only[Er,aF,aX,aP] at hh;exact hh
      have cm:Hq (PA C (fun b=>(D b∧b<w.heap.size)∨t.heap.size≤b) g d l s5):=c0.o.Ei ⟨ab b8.symm,fun b f _=>bk b (by rcases f with f|f;(have:=f.2;omega);omega)⟩ fun b f=>bk b (by have:=aE.o b f;omega);have ba:Hq (Upd (Mut g l) w C):=c8.o.two (ab b8.symm) b4.1 b4.2.1 b4.2.2 fun b _ _ h2=>bk b h2
      have cj:Hq (BF C w3.heap.size (Y V n.length X) n):=cW.o.Ag fun b f _=>bk b (by omega);have cr:Hq (Af U C t.heap.size (Y ad rd.length cd) rd):=GU c1.o (ab b8.symm) fun b f _=>bk b (by omega);have eI:t.heap.size≤C.heap.size:=by omega
      have x1:C.cell? ⟨w.heap.size+1,1,O⟩=Z (I U kd):=Cr bF.o;have dB:Hq (∀ b,(eK V n.length X).ownBlock=Z b→w3.heap.size≤b∧b<t.heap.size):=fun b f=>⟨bz.o.low f,bz.o.lt f⟩;clear E eW b8 bk b4 c0 c8 cW bz dc b2 c1;by_cases bq:kd=15
      ·have ec:(kd==15)=true:=by simp[bq]
       have aQ:Hq (A3 d now s=(s5,⟨Q,⟨kd,P,rb,rd⟩,n++ [⟨Q,P%256,rb⟩],0⟩)):=by
        show _=_;rw[HF.o,if_pos bq]
       have eH:IntKind.u8.wrap P=P%256:=IntKind.wrap_u8 P;obtain⟨a2,c2,aM,bt,dp,bp⟩:=BF.snoc (x:=⟨(Q:Int),P%256,rb⟩) (W:=C.alloc (T #[I J Q,I U (P%256),I J rb] 76)) (cj.o.Ag fun b _ f=>dA _ _ _ f) (by simp;omega) (by omega) (q:=C.heap.size) (cN _ _) 41;have eD:C.heap.size+1≤aM.heap.size:=by have:=bp.size;simpa using this
       have dq:∀ b,b<C.heap.size→(eK V n.length X).ownBlock≠Z b→aM.heap[b]? =C.heap[b]?:=fun b f a7=>(bp.block b (by simp;omega) (fun e=>a7 e.symm)).trans (dA _ _ _ (by omega));have cG:∀ b,b<C.heap.size→¬(w3.heap.size≤b∧b<t.heap.size)→aM.heap[b]? =C.heap[b]?:=fun b f hn=>dq b f fun e=>hn (dB.o b e);have ca:aM.heap[w.heap.size+1]? =Z (T #[I J Q,I U kd,I J P,I J rb,Y ad rd.length cd,Y V n.length X] 43 (0,0)):=(cG _ (by omega) (by omega)).trans bF.o;have bU:Hq (aM.os=C.os∧aM.tape=C.tape∧aM.output=C.output):=⟨bp.os,bp.tape,bp.output⟩;obtain⟨dF,cT,bo⟩:=H3 bt dp cG;clear bq HF bt dp bp dq cG;obtain⟨ep,eq,er,es,et,eu⟩:=r6 ca;obtain⟨dV,dW,dX,dY,dZ,ea⟩:=f6 ca;obtain⟨ac,ae,ag,ah,ai,aj⟩:=r6 bF.o;go_upto_region 26 with (at_builtin;refine Lib.wpList_append_run _ rfl _ _ _ _ rfl _ _ rfl rfl _ _ dF.o ?_);clear ep dV eq dW er dX es dY et dZ eu ea;clear ac ae ag ah ai aj;obtain⟨an,a3⟩:=ex (aM.setCell ⟨w.heap.size+1,5,O⟩ (Y a2 (n.length+1) c2));rw[←a3];have ei:an.heap.size=aM.heap.size:=by rw[a3];simp[cF]
       have bj:∀ b,b≠w.heap.size+1→an.heap[b]? =aM.heap[b]?:=fun b f=>by rw[a3];exact ao _ _ _ _ f
       have dP:Hq (an.heap[w.heap.size]? =Z (T #[I J 0,I U 0,I J 0,I J 0,Y O 0 0,Y O 0 0] 43 (0,0))):=(bj _ (by omega)).trans ((bo.o _ (by omega) (by omega)).trans cw.o);have dQ:Hq (an.heap[w.heap.size+1]? =Z (T #[I J Q,I U kd,I J P,I J rb,Y ad rd.length cd,Y a2 (n.length+1) c2] 43 (0,0))):=by
        rw[a3];show _=_;rw[av aM (w.heap.size+1) 5 _ _ _ ca];rfl
       have dD:Hq (PA an (fun b=>(D b∧b<w.heap.size)∨t.heap.size≤b) g d l s5):=cm.o.Ei ⟨by omega,fun b f hl=>(bj b (by rcases f with f|f;(have:=f.2;omega);omega)).trans (bo.o b hl (by rcases f with f|f;(have:=f.2;omega);omega))⟩ fun b f=>(bj b (by have:=aE.o b f;omega)).trans (bo.o b (by have:=aE.o b f;omega) (by have:=aE.o b f;omega));have dL:Hq (Upd (Mut g l) w an):=⟨by rw[a3];exact bU.o.1.trans ba.o.os,by rw[a3];exact bU.o.2.1.trans ba.o.tape,by rw[a3];exact bU.o.2.2.trans ba.o.output,by have:=ba.o.size;omega,fun b f hn=>(bj b (by omega)).trans ((bo.o b (by omega) (by omega)).trans (ba.o.block b f hn))⟩;have dC:Hq (BF an w3.heap.size (Y a2 (n.length+1) c2) (n++ [⟨(Q:Int),P%256,rb⟩])):=cT.o.Ag fun b f _=>bj b (by omega);have dE:Hq (Af U an t.heap.size (Y ad rd.length cd) rd):=GU cr.o (by omega) fun b f hl=>(bj b (by omega)).trans (bo.o b hl (by omega));clear a3 ei bj ca cT bo bU cm ba cj cr cw bF;have R:Hq (an.heap[w.heap.size]? =Z (T #[I J 0,I U 0,I J 0,I J 0,Y O 0 0,Y O 0 0] 43 (0,0))):=dP.o;have QB:Hq (an.heap[w.heap.size+1]? =Z (T #[I J Q,I U kd,I J P,I J rb,Y ad rd.length cd,Y a2 (n.length+1) c2] 43 (0,0))):=dQ.o;have ar:Hq (PA an (fun b=>(D b∧b<w.heap.size)∨t.heap.size≤b) g d l (A3 d now s).1):=by
        rw[aQ.o];exact dD.o
       have au:Hq (Upd (Mut g l) w an):=dL.o;obtain⟨ay,az,aA,aB,aC,aD⟩:=r6 R.o;obtain⟨bc,bd,be,bf,bg,bh⟩:=f6 R.o;obtain⟨ac,ae,ag,ah,ai,aj⟩:=r6 QB.o;go_wp2_with fail;refine ap (v:=.tuple #[.agg #[I J Q,I U kd,I J P,I J rb,Y ad rd.length cd,Y a2 (n.length+1) c2],I J 0]) (by simp[aJ,results17,go_sem,ay,ac,az,ae,aA,ag,aB,ah,aC,ai,aD,aj]) rfl ?_;obtain⟨m,E⟩:=ex ((((((an.setCell ⟨w.heap.size,0,O⟩ (I J Q)).setCell ⟨w.heap.size,1,O⟩ (I U kd)).setCell ⟨w.heap.size,2,O⟩ (I J P)).setCell ⟨w.heap.size,3,O⟩ (I J rb)).setCell ⟨w.heap.size,4,O⟩ (Y ad rd.length cd)).setCell ⟨w.heap.size,5,O⟩ (Y a2 (n.length+1) c2));rw[←E];have K:m=setsAt an w.heap.size 0 [(0,I J Q),(1,I U kd),(2,I J P),(3,I J rb),(4,Y ad rd.length cd),(5,Y a2 (n.length+1) c2)]:=E;have N:m.heap.size=an.heap.size:=by rw[K,BO]
       have hoth:∀ j,j≠w.heap.size→m.heap[j]? =an.heap[j]?:=fun j u=>by rw[K,AU u]
       have L:m.os=an.os∧m.tape=an.tape∧m.output=an.output:=by rw[K];exact Be _ _
       clear E;refine⟨(Y ad rd.length cd),(Y a2 (n.length+1) c2),?_,?_,?_,?_,?_⟩
       ·rw[aQ.o];try rfl
       ·rw[aQ.o];exact((GU dE.o (ab N.symm) fun b f _=>hoth b (by omega)).mono (by omega))
       ·rw[aQ.o];exact((No dC.o.rd (ab N.symm) fun b f _=>hoth b (by omega)).mono (by omega))
       ·have aa:∀ b,(fun b=>(D b∧b<w.heap.size)∨t.heap.size≤b) b→D b∧b≠w.heap.size:=(fun b f=>by rcases f with f|f;exact⟨f.1,by have:=f.2;omega⟩;exact⟨bT.o b (by omega),by omega⟩);exact(ar.o.Ei ⟨ab N.symm,fun b f hl=>hoth b (aa b f).2⟩ fun b f=>hoth b (by have:=aE.o b f;omega)).grow (fun b f=>(aa b f).1) HN.o
       ·exact au.o.two (ab N.symm) L.1 L.2.1 L.2.2 fun b _ u _=>hoth b u
      ·have ec:(kd==15)=false:=by simp[bq]
       have aQ:Hq (A3 d now s=(s5,⟨Q,⟨kd,P,rb,rd⟩,n,0⟩)):=by
        show _=_;rw[HF.o,if_neg bq]
       clear bq HF;have R:Hq (C.heap[w.heap.size]? =Z (T #[I J 0,I U 0,I J 0,I J 0,Y O 0 0,Y O 0 0] 43 (0,0))):=cw.o;have QB:Hq (C.heap[w.heap.size+1]? =Z (T #[I J Q,I U kd,I J P,I J rb,Y ad rd.length cd,Y V n.length X] 43 (0,0))):=bF.o;have ar:Hq (PA C (fun b=>(D b∧b<w.heap.size)∨t.heap.size≤b) g d l (A3 d now s).1):=by
        rw[aQ.o];exact cm.o
       have au:Hq (Upd (Mut g l) w C):=ba.o;obtain⟨ay,az,aA,aB,aC,aD⟩:=r6 R.o;obtain⟨bc,bd,be,bf,bg,bh⟩:=f6 R.o;obtain⟨ac,ae,ag,ah,ai,aj⟩:=r6 QB.o;go_wp2_with fail;refine ap (v:=.tuple #[.agg #[I J Q,I U kd,I J P,I J rb,Y ad rd.length cd,Y V n.length X],I J 0]) (by simp[aJ,results17,go_sem,ay,ac,az,ae,aA,ag,aB,ah,aC,ai,aD,aj]) rfl ?_;obtain⟨m,E⟩:=ex ((((((C.setCell ⟨w.heap.size,0,O⟩ (I J Q)).setCell ⟨w.heap.size,1,O⟩ (I U kd)).setCell ⟨w.heap.size,2,O⟩ (I J P)).setCell ⟨w.heap.size,3,O⟩ (I J rb)).setCell ⟨w.heap.size,4,O⟩ (Y ad rd.length cd)).setCell ⟨w.heap.size,5,O⟩ (Y V n.length X));rw[←E];have K:m=setsAt C w.heap.size 0 [(0,I J Q),(1,I U kd),(2,I J P),(3,I J rb),(4,Y ad rd.length cd),(5,Y V n.length X)]:=E;have N:m.heap.size=C.heap.size:=by rw[K,BO]
       have hoth:∀ j,j≠w.heap.size→m.heap[j]? =C.heap[j]?:=fun j u=>by rw[K,AU u]
       have L:m.os=C.os∧m.tape=C.tape∧m.output=C.output:=by rw[K];exact Be _ _
       clear E;refine⟨(Y ad rd.length cd),(Y V n.length X),?_,?_,?_,?_,?_⟩
       ·rw[aQ.o];try rfl
       ·rw[aQ.o];exact((GU cr.o (ab N.symm) fun b f _=>hoth b (by omega)).mono (by omega))
       ·rw[aQ.o];exact((No cj.o.rd (ab N.symm) fun b f _=>hoth b (by omega)).mono (by omega))
       ·have aa:∀ b,(fun b=>(D b∧b<w.heap.size)∨t.heap.size≤b) b→D b∧b≠w.heap.size:=(fun b f=>by rcases f with f|f;exact⟨f.1,by have:=f.2;omega⟩;exact⟨bT.o b (by omega),by omega⟩);exact(ar.o.Ei ⟨ab N.symm,fun b f hl=>hoth b (aa b f).2⟩ fun b f=>hoth b (by have:=aE.o b f;omega)).grow (fun b f=>(aa b f).1) HN.o
       ·exact au.o.two (ab N.symm) L.1 L.2.1 L.2.2 fun b _ u _=>hoth b u
     ·have HF:Hq (A3 d now s=(s4,⟨z,zeroA,n,0⟩)):=by
       show _=_;rw[M.o,if_pos (by omega)]
      have R:Hq (t.heap[w.heap.size]? =Z (T #[I J 0,I U 0,I J 0,I J 0,Y O 0 0,Y O 0 0] 43 (0,0))):=bX.o;have QB:Hq (t.heap[w.heap.size+1]? =Z (T #[I J z,I U 0,I J 0,I J 0,Y O 0 0,Y V n.length X] 43 (0,0))):=bE.o;have ar:Hq (PA t (fun b=>D b∧b<w.heap.size) g d l (A3 d now s).1):=by
       rw[HF.o];exact cl.o
      have au:Hq (Upd (Mut g l) w t):=bV.o;obtain⟨ay,az,aA,aB,aC,aD⟩:=r6 R.o;obtain⟨bc,bd,be,bf,bg,bh⟩:=f6 R.o;obtain⟨ac,ae,ag,ah,ai,aj⟩:=r6 QB.o;go_wp2_with fail;refine ap (v:=.tuple #[.agg #[I J z,I U 0,I J 0,I J 0,Y O 0 0,Y V n.length X],I J 0]) (by simp[aJ,results17,go_sem,ay,ac,az,ae,aA,ag,aB,ah,aC,ai,aD,aj]) rfl ?_;obtain⟨m,E⟩:=ex ((((((t.setCell ⟨w.heap.size,0,O⟩ (I J z)).setCell ⟨w.heap.size,1,O⟩ (I U 0)).setCell ⟨w.heap.size,2,O⟩ (I J 0)).setCell ⟨w.heap.size,3,O⟩ (I J 0)).setCell ⟨w.heap.size,4,O⟩ (Y O 0 0)).setCell ⟨w.heap.size,5,O⟩ (Y V n.length X));rw[←E];have K:m=setsAt t w.heap.size 0 [(0,I J z),(1,I U 0),(2,I J 0),(3,I J 0),(4,Y O 0 0),(5,Y V n.length X)]:=E;have N:m.heap.size=t.heap.size:=by rw[K,BO]
      have hoth:∀ j,j≠w.heap.size→m.heap[j]? =t.heap[j]?:=fun j u=>by rw[K,AU u]
      have L:m.os=t.os∧m.tape=t.tape∧m.output=t.output:=by rw[K];exact Be _ _
      clear E;refine⟨(Y O 0 0),(Y V n.length X),?_,?_,?_,?_,?_⟩
      ·rw[HF.o];try rfl
      ·rw[HF.o];exact Af.nil _ _ _
      ·rw[HF.o];exact((No bz.o.rd (ab N.symm) fun b f _=>hoth b (by omega)).mono (by omega))
      ·have aa:∀ b,(fun b=>D b∧b<w.heap.size) b→D b∧b≠w.heap.size:=(fun b f=>⟨f.1,by have:=f.2;omega⟩);exact(ar.o.Ei ⟨ab N.symm,fun b f hl=>hoth b (aa b f).2⟩ fun b f=>hoth b (by have:=aE.o b f;omega)).grow (fun b f=>(aa b f).1) HN.o
      ·exact au.o.two (ab N.symm) L.1 L.2.1 L.2.2 fun b _ u _=>hoth b u
end Go.Proofs.YtiepijihpgijbaaGreatDoor
