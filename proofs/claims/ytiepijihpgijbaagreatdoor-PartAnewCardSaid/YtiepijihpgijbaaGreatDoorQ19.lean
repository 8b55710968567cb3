import Derived.Test.YtiepijihpgijbaaGreatDoorQ18
set_option maxHeartbeats 8000000
set_option maxRecDepth 100000
set_option linter.all false
open Option renaming some→Z,none→O
open Go.Obj renaming cells→T
open Go.Value renaming slice→Y,int→I,pointer→G
open Go.IntKind renaming i64→J,u8→U
open Go.Value renaming int→aD
open Go.RowKit.Below renaming heap_alloc→aF,refl→aH
open Nat renaming le_refl→aG,zero_le→bE,ne_of_lt→ce
open List renaming setIfInBounds_toArray→a2,take_succ_eq_append_getElem→a9,set_cons_zero→bd,set_cons_succ→be,mem_singleton→bg,getElem_mem→bF,getElem?_eq_some_iff→bQ,getElem?_eq_getElem→b0,take_length→b8,map_append→cl,map_cons→cp,map_nil→cJ,eq_nil_of_length_eq_zero→cM
open Go.Value.slice renaming injEq→bc
open Go renaming heap_alloc_new→bi,Calls→bM,World→b6,execOp→cx,bodyPost_ret→db,Addr→dc,Value→dd
open Go.World renaming cell?_alloc_old→bB,ownsRow→cm
open Go.Lib renaming wpList_append_run→bJ
open Array renaming getElem?_eq_some_iff→bO
open Int renaming toNat_natCast→cK
open Go.Value.tuple renaming injEq→cQ
open Option.some renaming injEq→cU
open Go.Value.agg renaming injEq→cV
open List.cons renaming injEq→cW
open Go.RowKit renaming intOf→cX
open Array.mk renaming injEq→cY
namespace Go.Proofs.YtiepijihpgijbaaGreatDoor
open Go.RowKit Tryz
def Lj{d:Ad}{i:Int}{c:Bool}{p:CV}(h:Ek d i c=Z p):∃ (k:Nat) (a:k<d.Ab.length),i=(k:Int)∧p=d.Ab[k]∧p.o=c:=by
 unfold Ek at h;split at h
 ·cases h
 ·rename_i g;obtain⟨k,rfl⟩:=Int.eq_ofNat_of_zero_le (show 0≤i by omega);rw[cK] at h;split at h
  ·cases h
  ·rename_i q b;split at h
   ·rename_i f;simp only[cU] at h;subst h;have a:=(bQ.1 b).1;have e:=(bQ.1 b).2;exact⟨k,a,rfl,e.symm,f⟩
   ·cases h
def Nh{k z d r:Int}{q:List (List Int)}{l:List Wt}{n:Int}{m x:List Int}(h:x∈(sendQ k z d r q l n m).1):x∈q∨x=m:=by
 unfold sendQ at h;split at h
 ·exact .inl h
 ·split at h
  ·exact .inl h
  ·cases l with
   |cons y t=>exact .inl h
   |nil=>
    simp only[] at h;split at h
    ·exact .inl h
    ·simp only[List.mem_append,bg] at h;exact h
def US{w:b6}{B q:Nat}{v:dd}{l:List Wt}{k:TypeId}(h:Al w B v l)(u:w.heap[q]? =Z (T #[Y O 0 0,Y O 0 0,I J 0] k (0,0))):Ct (fun b=>B≤b∧b≠q) v:=fun a m c x d=>by
 obtain⟨y,cap,j,_,_,t⟩:=h.open_;subst x;simp only[bc] at j;obtain⟨rfl,rfl,rfl⟩:=j;obtain⟨b,o,s,r,z,i⟩:=t d;cases s;refine⟨r,fun e=>?_⟩;replace e:b=q:=e;subst e;have f:=(i 0 d).1;have g:=(i 0 d).2.2;rw[Cr u] at f g;have n:=(bO.1 g).1;have p:o=0:=by simp at n;omega
 subst p;simp at f
def UQ{w:b6}{B q:Nat}{v:dd}{l:List Int}{i:TypeId}(h:Af U w B v l)(s:w.heap[q]? =Z (T #[Y O 0 0,Y O 0 0,I J 0] i (0,0))):Ct (fun b=>B≤b∧b≠q) v:=fun a m c t f=>by
 obtain⟨u,cap,g,_,_,r⟩:=h.open_;subst t;simp only[bc] at g;obtain⟨rfl,rfl,rfl⟩:=g;obtain⟨b,o,n,k,x,p⟩:=r f;cases n;refine⟨k,fun e=>?_⟩;replace e:b=q:=e;subst e;have d:=p 0 f;rw[Cr s] at d;have j:=(bO.1 d).1;simp at j;rcases(show o=0∨o=1∨o=2 by omega) with rfl|rfl|rfl<;>simp at d
def UR{w:b6}{B q:Nat}{v:dd}{l:List (List Int)}{t:TypeId}(h:A6 w B v l)(D:∀ m∈l,m≠ [])(k:w.heap[q]? =Z (T #[Y O 0 0,Y O 0 0,I J 0] t (0,0))):BS w (fun b=>B≤b∧b≠q) v l:=by
 obtain⟨vs,j,f⟩:=h;refine⟨vs,j.mono (bE _),fun a m c F g=>?_,fun i u x n s=>⟨(f i u x n s).mono (bE _),UQ (f i u x n s) k⟩⟩;obtain⟨K,cap,p,_,_,N,E⟩:=j;subst F;simp only[bc] at p;obtain⟨rfl,rfl,rfl⟩:=p;obtain⟨b,o,A,z,M,C⟩:=E g;cases A;refine⟨z,fun e=>?_⟩;replace e:b=q:=e;subst e;have r:0<vs.length:=by omega
 have d:=C 0 vs[0] (b0 r);obtain⟨H,L,e,_,_,_⟩:=(f 0 vs[0] l[0] (b0 r) (b0 g)).open_;have P:0<l[0].length:=List.length_pos_iff.2 (D _ (bF g));rw[e,Cr k] at d;have y:=(bO.1 d).1;simp at y;rcases(show o=0∨o=1∨o=2 by omega) with rfl|rfl|rfl
 ·simp at d;omega
 ·simp at d;omega
 ·simp at d
def S7(B:Nat)(w:b6)(F:Nat→Prop)(g:Nat)(d:Ad)(s:Ae)(now bf:Int)(vd:dd)(data:List Int)(b1:Gl B w)(cb:∀ b,F b→B≤b)(h:PX w F g d s)(ok:Ah d s)(bN:∀ p∈d.Ab,p.size≤64)(ck:∀ x∈s.queues,∀ m∈x.q,m≠ [])(bI:A4 w (fun b=>¬F b) vd data)(c0:data.length≤100000)(cc:Bf data):
  bM prog 19 #[G (Z ⟨g,0,O⟩),I J now,I J bf,vd] w (GA w F g d (Dc d now bf data s)):=by
 have HX:=HH h;obtain⟨hl,t,D,hp,ca,b9⟩:=h;have aR:w.cell? ⟨g,20,O⟩=Z (.bool true):=hp.cell 20;obtain⟨HL,HP,b5,aQ,HG,bu,OK,cE,cF,ct,b4⟩:=Ra hl hp ca b9 b1 cb ok bN ck bI cc;obtain⟨ad,cd,rfl,_,_,_⟩:=bI.1.open_;have X:=HH (PR w D g d t s bf false hp);have cZ:=ok.clock;clear hl hp ca b9 b1 cb ok bN bI cc ck;cases aK:Ek d bf false with
 |none=>
  have HE:Hq (Dc d now bf data s=(s,2)):=by
   show _=_;unfold Dc;rw[aK]
  rw[aK] at X;clear aK;go_enter func19,ntmps19;go_wp2_with fail;refine X.o.mono ?_;rintro e i ⟨rfl,H⟩;have P:=HH H;clear H X aR;go_wp2_with fail;go_ret;rw[HE.o];have a:Bl w (i.alloc (T #[.string ⟨#[]⟩,I U 0,.bool false,I J 0,I J 0,I J 0] 62)):=P.o.alloc P.o.size _;exact⟨rfl,HX.o.Iw a,Fr.below a⟩
 |some p=>
  obtain⟨k,hk,rfl,rfl,cO⟩:=Lj aK;rw[aK] at X;have aZ:=HH aK;clear aK cO;have c9:=cE.o _ (bF hk);by_cases j:now<s.clock
  ·have HE:Hq (Dc d now k data s=(s,2)):=by
    show _=_;unfold Dc;rw[aZ.o];simp only[];rw[if_pos (.inl j)]
   go_enter func19,ntmps19;go_wp2_with fail;refine X.o.mono ?_;rintro e i ⟨⟨nm,rfl⟩,H⟩;obtain⟨P,M⟩:=H2 H (HP.o.below H);have a8:∀ C,(i.alloc C).cell? ⟨g,18,O⟩=Z (I J s.clock):=fun C=>by
    rw[bB _ _ _ (ce M.o.lt)];exact M.o.cell 18
   have ba:∀ C,(i.alloc C).frozen? ⟨g,18,O⟩=false:=fun C=>(M.o.below ((aH _ i).alloc (aG _) C)).frozen 18;clear H X aR;go_wp2_with fail;go_ret;rw[HE.o];have a:Bl w (i.alloc (T #[.string nm,I U d.Ab[k].kind,.bool d.Ab[k].o,I J d.Ab[k].size,I J d.Ab[k].depth,I J d.Ab[k].At] 62)):=P.o.alloc P.o.size _;exact⟨rfl,HX.o.Iw a,Fr.below a⟩
  by_cases h2:1073741824<now
  ·have HE:Hq (Dc d now k data s=(s,2)):=by
    show _=_;unfold Dc;rw[aZ.o];simp only[];rw[if_pos (.inr (.inl h2))]
   go_enter func19,ntmps19;go_wp2_with fail;refine X.o.mono ?_;rintro e i ⟨⟨nm,rfl⟩,H⟩;obtain⟨P,M⟩:=H2 H (HP.o.below H);have a8:∀ C,(i.alloc C).cell? ⟨g,18,O⟩=Z (I J s.clock):=fun C=>by
    rw[bB _ _ _ (ce M.o.lt)];exact M.o.cell 18
   have ba:∀ C,(i.alloc C).frozen? ⟨g,18,O⟩=false:=fun C=>(M.o.below ((aH _ i).alloc (aG _) C)).frozen 18;clear H X aR;go_wp2_with fail;go_ret;rw[HE.o];have a:Bl w (i.alloc (T #[.string nm,I U d.Ab[k].kind,.bool d.Ab[k].o,I J d.Ab[k].size,I J d.Ab[k].depth,I J d.Ab[k].At] 62)):=P.o.alloc P.o.size _;exact⟨rfl,HX.o.Iw a,Fr.below a⟩
  by_cases h3:data.length=0
  ·have hz:((data.length:Int)==0)=true:=by simp[h3]
   have cg:data=[]:=cM h3;have HN:=HH cg;have HE:Hq (Dc d now k data s=(s,2)):=by
    show _=_;unfold Dc;rw[aZ.o];simp only[];rw[if_pos (.inr (.inr cg))]
   go_enter func19,ntmps19;go_wp2_with fail;refine X.o.mono ?_;rintro e i ⟨⟨nm,rfl⟩,H⟩;obtain⟨P,M⟩:=H2 H (HP.o.below H);have a8:∀ C,(i.alloc C).cell? ⟨g,18,O⟩=Z (I J s.clock):=fun C=>by
    rw[bB _ _ _ (ce M.o.lt)];exact M.o.cell 18
   have ba:∀ C,(i.alloc C).frozen? ⟨g,18,O⟩=false:=fun C=>(M.o.below ((aH _ i).alloc (aG _) C)).frozen 18;clear H X aR;go_wp2_with fail;go_ret;rw[HE.o];have a:Bl w (i.alloc (T #[.string nm,I U d.Ab[k].kind,.bool d.Ab[k].o,I J d.Ab[k].size,I J d.Ab[k].depth,I J d.Ab[k].At] 62)):=P.o.alloc P.o.size _;exact⟨rfl,HX.o.Iw a,Fr.below a⟩
  have hz:((data.length:Int)==0)=false:=by
   exact beq_false_of_ne (show(data.length:Int)≠0 by omega)
  have ch:data≠ []:=fun e=>h3 (by rw[e];rfl);have bw:=HH ch;clear h3 ch;by_cases h4:d.Ab[k].size<(data.length:Int)
  ·have HE:Hq (Dc d now k data s=(s,3)):=by
    show _=_;unfold Dc;rw[aZ.o];simp only[];rw[if_neg (by simp only[not_or];exact⟨j,h2,bw.o⟩),if_pos h4]
   go_enter func19,ntmps19;go_wp2_with fail;refine X.o.mono ?_;rintro e i ⟨⟨nm,rfl⟩,H⟩;obtain⟨P,M⟩:=H2 H (HP.o.below H);have a8:∀ C,(i.alloc C).cell? ⟨g,18,O⟩=Z (I J s.clock):=fun C=>by
    rw[bB _ _ _ (ce M.o.lt)];exact M.o.cell 18
   have ba:∀ C,(i.alloc C).frozen? ⟨g,18,O⟩=false:=fun C=>(M.o.below ((aH _ i).alloc (aG _) C)).frozen 18;clear H X aR;go_wp2_with fail;go_ret;rw[HE.o];have a:Bl w (i.alloc (T #[.string nm,I U d.Ab[k].kind,.bool d.Ab[k].o,I J d.Ab[k].size,I J d.Ab[k].depth,I J d.Ab[k].At] 62)):=P.o.alloc P.o.size _;exact⟨rfl,HX.o.Iw a,Fr.below a⟩
  have b7:Hq (Dc d now k data s=if d.Ab[k].kind=1 then({s with clock:=now,samples:=s.samples.set k (writeSa d.Ab[k] (s.samples.getD k default) now data).1},(writeSa d.Ab[k] (s.samples.getD k default) now data).2) else(wakeP d now data [(sendQ d.Ab[k].kind d.Ab[k].size d.Ab[k].depth d.Ab[k].At (s.queues.getD k default).q (s.queues.getD k default).wait (s.queues.getD k default).lost data).2.2.2.1] {s with clock:=now,queues:=s.queues.set k ⟨(sendQ d.Ab[k].kind d.Ab[k].size d.Ab[k].depth d.Ab[k].At (s.queues.getD k default).q (s.queues.getD k default).wait (s.queues.getD k default).lost data).1,(sendQ d.Ab[k].kind d.Ab[k].size d.Ab[k].depth d.Ab[k].At (s.queues.getD k default).q (s.queues.getD k default).wait (s.queues.getD k default).lost data).2.1,(sendQ d.Ab[k].kind d.Ab[k].size d.Ab[k].depth d.Ab[k].At (s.queues.getD k default).q (s.queues.getD k default).wait (s.queues.getD k default).lost data).2.2.1⟩},(sendQ d.Ab[k].kind d.Ab[k].size d.Ab[k].depth d.Ab[k].At (s.queues.getD k default).q (s.queues.getD k default).wait (s.queues.getD k default).lost data).2.2.2.2)):=by
   show _=_;unfold Dc;rw[aZ.o];simp only[];rw[if_neg (by simp only[not_or];exact⟨j,h2,bw.o⟩),if_neg h4,cK]
  have cf:0≤now:=by omega
  have c6:now≤1073741824:=by omega
  have cL:data.length≤64:=by omega
  go_enter func19,ntmps19;go_wp2_with fail;refine X.o.mono ?_;rintro e i ⟨⟨nm,rfl⟩,H⟩;obtain⟨P,M⟩:=H2 H (HP.o.below H);have a8:∀ C,(i.alloc C).cell? ⟨g,18,O⟩=Z (I J s.clock):=fun C=>by
   rw[bB _ _ _ (ce M.o.lt)];exact M.o.cell 18
  have ba:∀ C,(i.alloc C).frozen? ⟨g,18,O⟩=false:=fun C=>(M.o.below ((aH _ i).alloc (aG _) C)).frozen 18;clear H X aR;go_upto_region 9 with (fail);obtain⟨W0,bl⟩:=ex (i.alloc (T #[.string nm,I U d.Ab[k].kind,.bool d.Ab[k].o,I J d.Ab[k].size,I J d.Ab[k].depth,I J d.Ab[k].At] 62));rw[←bl];have b2:Hq (Bl w W0):=by rw[bl];exact P.o.alloc P.o.size _
  have cn:W0.heap[i.heap.size]? =Z (T #[.string nm,I U d.Ab[k].kind,.bool d.Ab[k].o,I J d.Ab[k].size,I J d.Ab[k].depth,I J d.Ab[k].At] 62 (0,0)):=by rw[bl];exact bi i _
  have c8:w.heap.size≤i.heap.size:=P.o.size;have c1:=HP.o.lt;have bx:Hq (PA W0 (Mo w D) g d t s):=HP.o.mo.below b2.o;clear bl a8 ba;obtain⟨A,aU⟩:=ex (W0.setCell ⟨g,18,O⟩ (I J now));rw[←aU];have bk:Hq (PA A (Mo w D) g d t {s with clock:=now}):=by rw[aU];exact(bx.o.Kn _).1
  have a0:Hq (Upd (Mut g t) w A):=by rw[aU];exact(Upd.below b2.o).trans (bx.o.Kn _).2
  have QB:Hq (A.heap[i.heap.size]? =Z (T #[.string nm,I U d.Ab[k].kind,.bool d.Ab[k].o,I J d.Ab[k].size,I J d.Ab[k].depth,I J d.Ab[k].At] 62 (0,0))):=by
   rw[aU];exact(Below.heap_setCell _ _ _ _ (by show i.heap.size≠g;omega)).trans cn
  have bs:Hq (A4 A (NM g t) (Y ad data.length cd) data):=A4.Ag (ct.o.mono fun b a hm=>a (aQ.o b (GQ b hm))) (KeepD.nm a0.o);have cA:Hq (Ah d {s with clock:=now}):=OK.o.clk cf (by omega);have cT:W0.heap.size=A.heap.size:=by rw[aU];simp[World.setCell]
  have da:w.heap.size≤A.heap.size:=a0.o.size;clear aU cn bx cT;have bN:=OK.o.samples;have c7:=OK.o.queues;have kx:A.cell? ⟨i.heap.size,1,O⟩=Z (I U d.Ab[k].kind):=Cr QB.o;have aj:i.heap.size<A.heap.size:=Aa QB.o;by_cases aW:d.Ab[k].kind=1
  ·have H:(d.Ab[k].kind==1)=true:=by simp[aW]
   have ai:k<s.samples.length:=by omega
   have cN:(k:Int)<(s.samples.length:Int):=by omega
   have j:=bk.o;have am:=j.lt;have af:=j.sa.lt;have cap:s.samples.length≤t.sa.c:=j.sa.cap;have sl:A.cell? ⟨g,11,O⟩=Z (Y (Z ⟨t.sa.b,0,O⟩) s.samples.length t.sa.c):=j.Ic (by show 0<s.samples.length;omega);have aM:=qC sl am;obtain⟨v,hc,hr⟩:=j.sa.el k ai;obtain⟨av,cv,rfl,_,_,_⟩:=hr.1.open_;obtain⟨y0,y1,y2⟩:=EO hc;have bX:=qC y0 af;have bY:=qC y1 af;have bZ:=qC y2 af;have aN:=qC (show A.cell? ⟨i.heap.size,0,O⟩=_ from Cr QB.o) aj;have aO:=qC (show A.cell? ⟨i.heap.size,1,O⟩=_ from Cr QB.o) aj;have aP:=qC (show A.cell? ⟨i.heap.size,2,O⟩=_ from Cr QB.o) aj;have bU:=qC (show A.cell? ⟨i.heap.size,3,O⟩=_ from Cr QB.o) aj;have bV:=qC (show A.cell? ⟨i.heap.size,4,O⟩=_ from Cr QB.o) aj;have bW:=qC (show A.cell? ⟨i.heap.size,5,O⟩=_ from Cr QB.o) aj;obtain⟨y,er,hw⟩:∃ y er,writeSa d.Ab[k] s.samples[k] now data=(y,er):=⟨_,_,rfl⟩;have HC:Hq (∀ W,Bl A W→bM prog 48 #[.agg #[.string nm,I U d.Ab[k].kind,.bool d.Ab[k].o,I J d.Ab[k].size,I J d.Ab[k].depth,I J d.Ab[k].At],.agg #[.slice av s.samples[k].data.length cv,I J s.samples[k].at_,.bool s.samples[k].has],I J now,Y ad data.length cd] W fun e w'=>∃ v,e=.returned (.tuple #[.agg #[v,I J y.at_,.bool y.has],I J er])∧AA w' W.heap.size v y.data∧Bl W w'):=fun W a=>by
    have:=QR nm d.Ab[k].kind d.Ab[k].o d.Ab[k].size d.Ab[k].depth d.Ab[k].At s.samples[k].at_ s.samples[k].has (.slice av s.samples[k].data.length cv) s.samples[k].data W (hr.1.below a) (by have:=(OK.o.sa _ (bF ai)).len;omega) now (Y ad data.length cd) data (bs.o.1.below a) (by omega);have e:writeSa (⟨d.Ab[k].kind,d.Ab[k].o,d.Ab[k].size,d.Ab[k].depth,d.Ab[k].At⟩:CV) (⟨s.samples[k].data,s.samples[k].at_,s.samples[k].has⟩:Ee) now data=(y,er):=hw;rw[e] at this;exact this
   have HE:Hq (Dc d now k data s=({s with clock:=now,samples:=s.samples.set k y},er)):=by
    show _=_;rw[b7.o,if_pos aW,getD_at _ _ ai,hw]
   clear hw hr aW;clear j hc sl y0 y1 y2;go_upto_region 10 with (fail);clear kx H;refine AS 18 [16] [14,17] [(11,(fun v w'=>∃ E c2,v=.tuple #[.agg #[Y E y.data.length c2,I J y.at_,.bool y.has],I J er]∧AA w' A.heap.size (Y E y.data.length c2) y.data)),(15,Bh A.heap.size #[Y O 0 0,I J 0,.bool false] 114)] ⟨(fun v i w2 ⟨E,c2,e,h⟩ a=>⟨E,c2,e,Ty.below h a⟩),Bh.AX,trivial⟩ ?_
   iterate 11 (refine An rfl rfl rfl ?_;intro K hK;go_big_quiet_op;go_big_quiet_on)
   refine A9 rfl rfl (fun w' a hA=>?_) ?_
   ·refine AD (f:=48) (al:=[.agg #[.string nm,I U d.Ab[k].kind,.bool d.Ab[k].o,I J d.Ab[k].size,I J d.Ab[k].depth,I J d.Ab[k].At],.agg #[.slice av s.samples[k].data.length cv,I J s.samples[k].at_,.bool s.samples[k].has],I J now,Y ad data.length cd]) rfl rfl rfl O1 ?_;exact(HC.o w' a).mono fun e w2 h=>by
     obtain⟨u,he,hf,bG⟩:=h;obtain⟨E,c2,hu⟩:=Ty.shape hf;subst hu;exact⟨_,he,bG,_,_,rfl,Ty.mono hf a.size⟩
   intro v w' a hv;obtain⟨E,c2,rfl,bK⟩:=hv;clear a bK w';simp only[Au,a2,be,bd]
   iterate 2 (refine An rfl rfl rfl ?_;intro K hK;go_big_quiet_op;go_big_quiet_on)
   iterate 1 (refine Bi rfl rfl rfl ?_;intro K hK;go_big_quiet_op;go_big_quiet_on)
   refine A9 rfl rfl (fun w' a hA=>?_) ?_
   ·exact EY (T #[Y O 0 0,I J 0,.bool false] 114) (by simp[cx,go_sem]) ⟨w'.heap.size,a.size,rfl,bi _ _⟩
   intro v w' a hv;obtain⟨q,hq,rfl,V⟩:=hv;clear a hq V w';simp only[Au,a2,be,bd];refine AH rfl ?_
   iterate 1 (refine Bi rfl rfl rfl ?_;intro K hK;go_big_quiet_op;go_big_quiet_on)
   refine AR ?_;intro R S an;have bT:=an 11 _ (by decide) rfl;obtain⟨bP,V⟩:=Bh.at_ (an 15 _ (by decide) rfl);obtain⟨a3,c3,e3,aV⟩:=bT;simp only[cQ,cY,cW,cV,bc,true_and,and_true] at e3;obtain⟨rfl,rfl⟩:=e3;obtain⟨z0,z1,z2⟩:=r3 V;obtain⟨f0,f1,f2⟩:=f3 V;obtain⟨L,aI⟩:=ex (((R.setCell ⟨q,0,O⟩ (Y E y.data.length c2)).setCell ⟨q,1,O⟩ (I J y.at_)).setCell ⟨q,2,O⟩ (.bool y.has));refine AI (w':=L) (by rw[aI];simp[cx,go_sem,z0,f0,z1,f1,z2,f2]) ?_;unfold A7;have ay:L=setsAt R q 0 [(0,Y E y.data.length c2),(1,I J y.at_),(2,.bool y.has)]:=aI;have aY:Hq (Bl A L):=by rw[ay];exact DH bP S _
   have ao:L.heap[q]? =Z (T #[Y E y.data.length c2,I J y.at_,.bool y.has] 114 (0,0)):=by
    rw[ay];have hh:=Di [(0,Y E y.data.length c2),(1,I J y.at_),(2,.bool y.has)] V;simp only[Er,a2,be,bd] at hh;exact hh
   have bt:Hq (A4 L (Mo w D) (Y E y.data.length c2) y.data):=by
    have h3:AA L A.heap.size (Y E y.data.length c2) y.data:=Ty.Ag aV fun b cs a=>by
     rw[ay,AU (DT a V (by decide))];exact a
    exact Af.CZ (Ty.sl h3) fun b a _=>.inr (by omega)
   clear aV;clear aI ay S an V z0 f0 z1 f1 z2 f2 aM am af bX bY bZ aN aO aP bU bV bW;have aC:q<L.heap.size:=Aa ao;have j:=bk.o.below aY.o;have am:=j.lt;have af:=j.sa.lt;have cI:s.samples.length≤t.sa.c:=j.sa.cap;have sl:L.cell? ⟨g,11,O⟩=Z (Y (Z ⟨t.sa.b,0,O⟩) s.samples.length t.sa.c):=j.Ic (by show 0<s.samples.length;omega);have aM:=qC sl am;have aN:=qC (show L.cell? ⟨q,0,O⟩=_ from Cr ao) aC;have aO:=qC (show L.cell? ⟨q,1,O⟩=_ from Cr ao) aC;have aP:=qC (show L.cell? ⟨q,2,O⟩=_ from Cr ao) aC;have H1:=HH j;clear j sl ao;go_upto_region 11 with (fail);refine AS 9 [8] [] [] trivial ?_
   iterate 8 (refine An rfl rfl rfl ?_;intro K hK;go_big_quiet_op;go_big_quiet_on)
   refine AH rfl ?_;refine AR ?_;intro R S an;clear an;have h9:=H1.o.below S;have F9:∀ o,R.frozen? ⟨t.sa.b,o,O⟩=false:=h9.sa.frozen (by show 0<s.samples.length;omega);obtain⟨v,ak,_⟩:=h9.sa.el k ai;have z0:R.cell? ⟨t.sa.b,k*3,O⟩=Z _:=ak 0 _ rfl;have f0:=F9 (k*3);have z1:R.cell? ⟨t.sa.b,k*3+1,O⟩=Z _:=ak 1 _ rfl;have f1:=F9 (k*3+1);have z2:R.cell? ⟨t.sa.b,k*3+2,O⟩=Z _:=ak 2 _ rfl;have f2:=F9 (k*3+2);have aJ:=h9.Lt ai [(0,Y E y.data.length c2),(1,I J y.at_),(2,.bool y.has)] rfl ak (x:=y) fun w' bH bm=>⟨_,bH,(bt.o.Ag (.C9 S)).Ag bm⟩;obtain⟨W3,aB⟩:=ex (((R.setCell ⟨t.sa.b,k*3,O⟩ (Y E y.data.length c2)).setCell ⟨t.sa.b,k*3+1,O⟩ (I J y.at_)).setCell ⟨t.sa.b,k*3+2,O⟩ (.bool y.has));refine AI (w':=W3) (by rw[aB];simp[cx,go_sem,z0,f0,z1,f1,z2,f2]) ?_;unfold A7;have bj:Hq (PA W3 (Mo w D) g d t {s with clock:=now,samples:=s.samples.set k y}):=by rw[aB];exact aJ.1
   have a1:Hq (Upd (Mut g t) A W3):=by rw[aB];exact((Upd.below aY.o).trans (Upd.below S)).trans aJ.2
   clear aB aJ ak F9 h9 S z0 f0 z1 f1 z2 f2 aM am af aN aO aP aC;go_wp2_with fail;go_ret;rw[HE.o];exact⟨rfl,PX.F6 HL.o b5.o aQ.o bj.o (a0.o.trans a1.o)⟩
  ·have H:(d.Ab[k].kind==1)=false:=by simp[aW]
   have ai:k<s.queues.length:=by omega
   have cN:(k:Int)<(s.queues.length:Int):=by omega
   have j:=bk.o;have am:=j.lt;have af:=j.qu.lt;have cap:s.queues.length≤t.qu.c:=j.qu.cap;have sl:A.cell? ⟨g,12,O⟩=Z (Y (Z ⟨t.qu.b,0,O⟩) s.queues.length t.qu.c):=j.Ib (by show 0<s.queues.length;omega);have aM:=qC sl am;obtain⟨v,u,hc,bR,bS⟩:=j.qu.el k ai;obtain⟨aq,cq,rfl⟩:=bR.rd.C2;obtain⟨aw,cw,rfl,_,_,_⟩:=bS.1.open_;obtain⟨y0,y1,y2⟩:=EO hc;have bX:=qC y0 af;have bY:=qC y1 af;have bZ:=qC y2 af;have aN:=qC (show A.cell? ⟨i.heap.size,0,O⟩=_ from Cr QB.o) aj;have aO:=qC (show A.cell? ⟨i.heap.size,1,O⟩=_ from Cr QB.o) aj;have aP:=qC (show A.cell? ⟨i.heap.size,2,O⟩=_ from Cr QB.o) aj;have bU:=qC (show A.cell? ⟨i.heap.size,3,O⟩=_ from Cr QB.o) aj;have bV:=qC (show A.cell? ⟨i.heap.size,4,O⟩=_ from Cr QB.o) aj;have bW:=qC (show A.cell? ⟨i.heap.size,5,O⟩=_ from Cr QB.o) aj;have aX:=OK.o.qu _ (bF ai);have h6:=OK.o.ok.procs;obtain⟨N,Q,n1,wk,er,hw⟩:∃ N Q n1 wk er,sendQ d.Ab[k].kind d.Ab[k].size d.Ab[k].depth d.Ab[k].At s.queues[k].q s.queues[k].wait s.queues[k].lost data=(N,Q,n1,wk,er):=⟨_,_,_,_,_,rfl⟩;have HC:Hq (∀ W,Bl A W→bM prog 49 #[.agg #[.string nm,I U d.Ab[k].kind,.bool d.Ab[k].o,I J d.Ab[k].size,I J d.Ab[k].depth,I J d.Ab[k].At],.agg #[.slice aq s.queues[k].q.length cq,.slice aw s.queues[k].wait.length cw,I J s.queues[k].lost],Y ad data.length cd] W (LJ W N Q n1 (I J wk) (I J er))):=fun W a=>by
    have:=Qq nm d.Ab[k].kind d.Ab[k].o d.Ab[k].size d.Ab[k].depth d.Ab[k].At s.queues[k].lost (Y ad data.length cd) data (.slice aq s.queues[k].q.length cq) (.slice aw s.queues[k].wait.length cw) s.queues[k].q s.queues[k].wait W (bR.rd.below a) (bS.1.below a) (aX.wait.wf h6) (by have:=aX.wait.len;omega) (by have:=aX.len;omega) (fun x hx=>by have:=(aX.msg x hx).1;omega) (bs.o.1.below a) (by omega);rw[hw] at this;exact this
   have HE:Hq (Dc d now k data s=(wakeP d now data [wk] {s with clock:=now,queues:=s.queues.set k ⟨N,Q,n1⟩},er)):=by
    show _=_;rw[b7.o,if_neg aW,getD_at _ _ ai,hw]
   have bo:=aX.Ng (k:=d.Ab[k].kind) (s:=d.Ab[k].size) (d:=d.Ab[k].depth) (r:=d.Ab[k].At) (m:=data) ⟨cL,b4.o⟩;rw[hw] at bo;have cB:Hq (Ah d {s with clock:=now,queues:=s.queues.set k ⟨N,Q,n1⟩}):=cA.o.Ko k bo.1;have cH:Hq (wk<(s.procs.length:Int)):=by rw[show (s.procs.length:Int)=d.procs.length by rw[OK.o.procs]];exact bo.2
   have cz:Hq (∀ m∈N,m≠ []):=fun m hm=>by
    have j:=Nh (k:=d.Ab[k].kind) (z:=d.Ab[k].size) (d:=d.Ab[k].depth) (r:=d.Ab[k].At) (q:=s.queues[k].q) (l:=s.queues[k].wait) (n:=s.queues[k].lost) (m:=data) (x:=m) (by rw[hw];exact hm);rcases j with j|j
    ·exact cF.o _ (bF ai) m j
    ·rw[j];exact bw.o
   clear hw bR bS aX aW bo;clear j hc sl y0 y1 y2;go_upto_region 13 with (fail);clear kx H;refine AS 19 [16] [13,14,17,18] [(10,(fun v w'=>∃ E c2 a3 c3,v=.tuple #[.agg #[Y E N.length c2,Y a3 Q.length c3,I J n1],I J wk,I J er]∧A6 w' A.heap.size (Y E N.length c2) N∧Aq w' A.heap.size (Y a3 Q.length c3) Q)),(15,Bh A.heap.size #[Y O 0 0,Y O 0 0,I J 0] 107)] ⟨(fun v i w2 ⟨E,c2,a3,c3,e,h,h'⟩ a=>⟨E,c2,a3,c3,e,h.below a,h'.below a⟩),Bh.AX,trivial⟩ ?_
   iterate 10 (refine An rfl rfl rfl ?_;intro K hK;go_big_quiet_op;go_big_quiet_on)
   refine A9 rfl rfl (fun w' a hA=>?_) ?_
   ·refine AD (f:=49) (al:=[.agg #[.string nm,I U d.Ab[k].kind,.bool d.Ab[k].o,I J d.Ab[k].size,I J d.Ab[k].depth,I J d.Ab[k].At],.agg #[.slice aq s.queues[k].q.length cq,.slice aw s.queues[k].wait.length cw,I J s.queues[k].lost],Y ad data.length cd]) rfl rfl rfl O0 ?_;exact(HC.o w' a).mono fun e w2 h=>by
     obtain⟨u1,u2,he,ci,hf,bG⟩:=h;obtain⟨E,c2,cR⟩:=ci.C2;obtain⟨a3,c3,cS⟩:=Bc hf;subst cR cS;exact⟨_,he,bG,_,_,_,_,rfl,ci.mono a.size,hf.mono a.size⟩
   intro v w' a hv;obtain⟨E,c2,a3,c3,rfl,cP,bK⟩:=hv;clear a cP bK w';simp only[Au,a2,be,bd]
   iterate 2 (refine An rfl rfl rfl ?_;intro K hK;go_big_quiet_op;go_big_quiet_on)
   iterate 2 (refine Bi rfl rfl rfl ?_;intro K hK;go_big_quiet_op;go_big_quiet_on)
   refine A9 rfl rfl (fun w' a hA=>?_) ?_
   ·exact EY (T #[Y O 0 0,Y O 0 0,I J 0] 107) (by simp[cx,go_sem]) ⟨w'.heap.size,a.size,rfl,bi _ _⟩
   intro v w' a hv;obtain⟨q,hq,rfl,V⟩:=hv;clear a hq V w';simp only[Au,a2,be,bd];refine AH rfl ?_
   iterate 2 (refine Bi rfl rfl rfl ?_;intro K hK;go_big_quiet_op;go_big_quiet_on)
   refine AR ?_;intro R S an;have bT:=an 10 _ (by decide) rfl;obtain⟨bP,V⟩:=Bh.at_ (an 15 _ (by decide) rfl);obtain⟨a4,c4,a5,c5,e3,cj,aV⟩:=bT;simp only[cQ,cY,cW,cV,bc,true_and,and_true] at e3;obtain⟨⟨rfl,rfl⟩,rfl,rfl⟩:=e3;obtain⟨z0,z1,z2⟩:=r3 V;obtain⟨f0,f1,f2⟩:=f3 V;obtain⟨L,aI⟩:=ex (((R.setCell ⟨q,0,O⟩ (Y E N.length c2)).setCell ⟨q,1,O⟩ (Y a3 Q.length c3)).setCell ⟨q,2,O⟩ (I J n1));refine AI (w':=L) (by rw[aI];simp[cx,go_sem,z0,f0,z1,f1,z2,f2]) ?_;unfold A7;have ay:L=setsAt R q 0 [(0,Y E N.length c2),(1,Y a3 Q.length c3),(2,I J n1)]:=aI;have aY:Hq (Bl A L):=by rw[ay];exact DH bP S _
   have ao:L.heap[q]? =Z (T #[Y E N.length c2,Y a3 Q.length c3,I J n1] 107 (0,0)):=by
    rw[ay];have hh:=Di [(0,Y E N.length c2),(1,Y a3 Q.length c3),(2,I J n1)] V;simp only[Er,a2,be,bd] at hh;exact hh
   have bL:KeepD (fun b=>A.heap.size≤b∧b≠q) R L:=⟨by rw[ay,BO];exact aG _,fun b a _=>by rw[ay];exact AU a.2 _ _⟩;have bt:Hq (BS L (Mo w D) (Y E N.length c2) N):=((UR cj cz.o V).Ag bL).mono fun b a=>.inr (by omega);have cu:Hq (Bm L (Mo w D) (Y a3 Q.length c3) Q):=(Bm.Ag ⟨aV.1.mono (bE _),US aV.1 V⟩ bL).mono fun b a=>.inr (by omega);clear aV cj bL;clear aI ay S an V z0 f0 z1 f1 z2 f2 aM am af bX bY bZ aN aO aP bU bV bW;have aC:q<L.heap.size:=Aa ao;have j:=bk.o.below aY.o;have am:=j.lt;have af:=j.qu.lt;have cI:s.queues.length≤t.qu.c:=j.qu.cap;have sl:L.cell? ⟨g,12,O⟩=Z (Y (Z ⟨t.qu.b,0,O⟩) s.queues.length t.qu.c):=j.Ib (by show 0<s.queues.length;omega);have aM:=qC sl am;have aN:=qC (show L.cell? ⟨q,0,O⟩=_ from Cr ao) aC;have aO:=qC (show L.cell? ⟨q,1,O⟩=_ from Cr ao) aC;have aP:=qC (show L.cell? ⟨q,2,O⟩=_ from Cr ao) aC;have H1:=HH j;clear j sl ao;go_upto_region 14 with (fail);refine AS 9 [8] [] [] trivial ?_
   iterate 8 (refine An rfl rfl rfl ?_;intro K hK;go_big_quiet_op;go_big_quiet_on)
   refine AH rfl ?_;refine AR ?_;intro R S an;clear an;have h9:=H1.o.below S;have F9:∀ o,R.frozen? ⟨t.qu.b,o,O⟩=false:=h9.qu.frozen (by show 0<s.queues.length;omega);obtain⟨v,u,ak,_,_⟩:=h9.qu.el k ai;have z0:R.cell? ⟨t.qu.b,k*3,O⟩=Z _:=ak 0 _ rfl;have f0:=F9 (k*3);have z1:R.cell? ⟨t.qu.b,k*3+1,O⟩=Z _:=ak 1 _ rfl;have f1:=F9 (k*3+1);have z2:R.cell? ⟨t.qu.b,k*3+2,O⟩=Z _:=ak 2 _ rfl;have f2:=F9 (k*3+2);have aJ:=h9.Jv ai [(0,Y E N.length c2),(1,Y a3 Q.length c3),(2,I J n1)] rfl ak (x:=⟨N,Q,n1⟩) fun w' bH bm=>⟨_,_,bH,(bt.o.Ag (.C9 S)).Ag bm,(cu.o.Ag (.C9 S)).Ag bm⟩;obtain⟨W3,aB⟩:=ex (((R.setCell ⟨t.qu.b,k*3,O⟩ (Y E N.length c2)).setCell ⟨t.qu.b,k*3+1,O⟩ (Y a3 Q.length c3)).setCell ⟨t.qu.b,k*3+2,O⟩ (I J n1));refine AI (w':=W3) (by rw[aB];simp[cx,go_sem,z0,f0,z1,f1,z2,f2]) ?_;unfold A7;have bj:Hq (PA W3 (Mo w D) g d t {s with clock:=now,queues:=s.queues.set k ⟨N,Q,n1⟩}):=by rw[aB];exact aJ.1
   have a1:Hq (Upd (Mut g t) A W3):=by rw[aB];exact((Upd.below aY.o).trans (Upd.below S)).trans aJ.2
   clear aB aJ ak F9 h9 S z0 f0 z1 f1 z2 f2 aM am af aN aO aP aC;have cy:=HH ((HG.o.BG a0.o fun b a=>bu.o b (aQ.o b (GQ b a))).BG a1.o fun b a=>bu.o b (aQ.o b (GQ b a)));have cC:Hq (Fj (W3.alloc (T #[I J wk] 3)) (NM g t) (Y (Z ⟨W3.heap.size,0,O⟩) 1 1) [wk]):=by
    have j:One W3.heap.size (I J wk) 3 (Y (Z ⟨W3.heap.size,0,O⟩) 1 1) (W3.alloc (T #[I J wk] 3)):=⟨W3.heap.size,aG _,rfl,bi W3 _⟩;have h2:=j.sl (D:=NM g t) (fun b a=>EF bj.o a);exact⟨h2.1,h2.2⟩
   have bb:Bl W3 (W3.alloc (T #[I J wk] 3)):=(aH _ W3).alloc (aG _) _;obtain⟨b3,cr⟩:=H2 (IG B (W3.alloc (T #[I J wk] 3)) (Mo w D) g d t _ now (Y ad data.length cd) (Y (Z ⟨W3.heap.size,0,O⟩) 1 1) data [wk] (cy.o.below bb) (fun b a=>bu.o b (aQ.o b (GQ b a))) (bj.o.below bb) cB.o ((bs.o.Ag (KeepD.nm a1.o)).Ag (KeepD.C9 bb)) cC.o (by omega) b4.o (by simp) (fun z hz=>by simp only[bg] at hz;subst hz;exact cH.o) cf (by omega)) bb;clear bb;go_wp2_with fail;refine b3.o.mono ?_;rintro e w5 ⟨rfl,p5,u5⟩;obtain⟨cD,cG⟩:=H2 p5 u5;clear p5 u5 b3;go_wp2_with fail;go_ret;rw[HE.o];exact⟨rfl,PX.F6 HL.o b5.o aQ.o cD.o ((a0.o.trans a1.o).trans ((Upd.below cr.o).trans cG.o))⟩
def QV(w:b6)(F:Nat→Prop)(g:Nat)(d:Ad)(r:Ae×List (List Int)×Int)(e:Ending)(w':b6):Prop:=
 ∃ v,e=.returned (.tuple #[v,I J r.2.2])∧BS w' (Gr w w' F) v r.2.1∧PX w' (Gr w w' F) g d r.1∧Fr F w w'
def Sp(B:Nat)(w:b6)(F:Nat→Prop)(g:Nat)(d:Ad)(s:Ae)(az:Int)(aY:Gl B w)(a8:∀ b,F b→B≤b)(h:PX w F g d s)(ok:Ah d s):
  bM prog 21 #[G (Z ⟨g,0,O⟩),I J az] w (QV w F g d (ET d az s)):=by
 have HX:=HH h;obtain⟨hl,f,D,hp,a7,a6⟩:=h;have a5:w.cell? ⟨g,20,O⟩=Z (.bool true):=hp.cell 20;obtain⟨HL,HP,aE,aZ,HG,bw,OK,ai⟩:=H8 hl hp a7 a6 aY a8 ok (PR w D g d f s az true hp);clear hl hp a7 a6 aY a8 ok;cases ag:Ek d az true with
 |none=>
  have HE:Hq (ET d az s=(s,[],2)):=by
   show _=_;unfold ET;rw[ag]
  rw[ag] at ai;clear ag;go_enter func21,ntmps21;go_wp2_with fail;refine ai.o.mono ?_;rintro e w1 ⟨rfl,ap⟩;have an:=HH ap;clear ap ai a5;go_wp2_with fail;refine db (v:=.tuple #[Y O 0 0,I J 2]) (by simp[results,results21,go_sem]) rfl ?_;rw[HE.o];have r:Bl w (w1.alloc (T #[.string ⟨#[]⟩,I U 0,.bool false,I J 0,I J 0,I J 0] 62)):=an.o.alloc an.o.size _;exact⟨_,rfl,BS.nil,HX.o.Iw r,Fr.below r⟩
 |some p=>
  obtain⟨k,hk,rfl,rfl,bo⟩:=Lj ag;rw[ag] at ai;have bh:=HH ag;clear ag bo;have ak:k<s.samples.length:=by have:=OK.o.samples;omega
  have aj:k<s.queues.length:=by have:=OK.o.queues;omega
  have bC:(k:Int)<(s.samples.length:Int):=by omega
  have bD:(k:Int)<(s.queues.length:Int):=by omega
  have HE:Hq (ET d k s=({s with queues:=s.queues.set k {s.queues[k] with q:=[]},samples:=s.samples.set k ⟨[],0,false⟩},if s.samples[k].has then [s.samples[k].data] else s.queues[k].q,0)):=by
   show _=_;unfold ET;rw[bh.o];simp only[cK,getD_at _ _ ak,getD_at _ _ aj]
  go_enter func21,ntmps21;go_wp2_with fail;refine ai.o.mono ?_;rintro e w1 ⟨⟨nm,rfl⟩,ap⟩;have an:=HH ap;clear ap ai a5;go_upto_region 6 with (fail);obtain⟨y,aP⟩:=ex (w1.alloc (T #[.string nm,I U d.Ab[k].kind,.bool d.Ab[k].o,I J d.Ab[k].size,I J d.Ab[k].depth,I J d.Ab[k].At] 62));rw[←aP];have am:Hq (Bl w y):=by rw[aP];exact an.o.alloc an.o.size _
  clear aP;have S:=HP.o.mo.below am.o;have a3:=S.Ic (by omega);have a4:=S.Ib (by omega);have bz:=S.sa.cap;have bA:=S.qu.cap;obtain⟨v,hc,hr⟩:=S.sa.el k ak;obtain⟨W,X,rfl,_,_,_⟩:=hr.1.open_;obtain⟨vq,u,ba,aT,br⟩:=S.qu.el k aj;obtain⟨aq,cq,rfl⟩:=aT.rd.C2;have yq:y.cell? ⟨f.qu.b,k*3,O⟩=Z (.slice aq s.queues[k].q.length cq):=ba 0 _ rfl;obtain⟨y0,y1,y2⟩:=EO hc;obtain⟨ao,HR,bj⟩:=H3 S hr aT;clear S hc hr ba aT br;cases C:s.samples[k].has with
  |true=>
   rw[C] at y2;have aJ:=HH C;clear C;go_upto_region 10 with (fail);clear a3 a4 yq y0 y1 y2;obtain⟨Q,R⟩:=ex ((y.alloc (T #[.slice W s.samples[k].data.length X,I J s.samples[k].at_,.bool true] 114)).alloc (T #[.slice W s.samples[k].data.length X] 34));rw[←R];have H:Hq (Bl y Q):=by
    rw[R];exact DX y _ _
   have a1:Hq (Q.heap[y.heap.size+1]? =Z (T #[.slice W s.samples[k].data.length X] 34 (0,0))):=by
    rw[R];exact(Da y _ _).2
   clear R;have l:=ao.o.below H.o;have ar:=l.lt;have aA:=l.Ic (by omega);have aB:=l.Ib (by omega);have bu:=l.sa.lt;have bq:=l.qu.lt;have bm:f.sa.b≠g:=by
    obtain⟨cs,ad,_⟩:=l.sa.blk (by omega);exact DT ad l.blk (by decide)
   have bn:f.qu.b≠g:=by
    obtain⟨cs,ad,_⟩:=l.qu.blk (by omega);exact DT ad l.blk (by decide)
   have q12:=qC aB ar;have q11:=qC aA ar;have H2:=HH l;clear l aA aB;refine AS 18 [15,17] [11,12,16] [] trivial ?_
   iterate 11 (refine An rfl rfl rfl ?_;intro K hK;go_big_quiet_op;go_big_quiet_on)
   iterate 2 (refine Bi rfl rfl rfl ?_;intro K hK;go_big_quiet_op;go_big_quiet_on)
   iterate 2 (refine An rfl rfl rfl ?_;intro K hK;go_big_quiet_op;go_big_quiet_on)
   refine AH rfl ?_
   iterate 1 (refine Bi rfl rfl rfl ?_;intro K hK;go_big_quiet_op;go_big_quiet_on)
   refine AH rfl ?_;refine AR ?_;intro w9 aa aV;clear aV q11 q12;have L:=H2.o.below aa;have F9:∀ o,w9.frozen? ⟨f.qu.b,o,O⟩=false:=L.qu.frozen (by omega);obtain⟨v9,u9,m,aS,ay⟩:=L.qu.el k aj;have A:w9.cell? ⟨f.qu.b,k*3,O⟩=Z _:=m 0 _ rfl;have f0:=F9 (k*3);have ae:=L.Jv aj [(0,Y O 0 0)] rfl m (x:={s.queues[k] with q:=[]}) fun w' ac au=>⟨_,_,ac,BS.nil,ay.Ag au⟩;obtain⟨W3,M⟩:=ex (w9.setCell ⟨f.qu.b,k*3,O⟩ (Y O 0 0));refine AI (w':=W3) (by rw[M];simp[cx,go_sem,A,f0]) ?_;have V:Hq (PA W3 (Mo w D) g d f {s with queues:=s.queues.set k {s.queues[k] with q:=[]}}):=by rw[M];exact ae.1
   have aL:Hq (Upd (Mut g f) Q W3):=by rw[M];exact(Upd.below aa).trans ae.2
   clear ae m aS ay F9 L A f0 M aa;have E:∀ o,W3.frozen? ⟨f.sa.b,o,O⟩=false:=V.o.sa.frozen (by show 0<s.samples.length;omega);obtain⟨v9,m,_⟩:=V.o.sa.el k ak;have A:W3.cell? ⟨f.sa.b,k*3,O⟩=Z _:=m 0 _ rfl;have f0:=E (k*3);have z1:W3.cell? ⟨f.sa.b,k*3+1,O⟩=Z _:=m 1 _ rfl;have f1:=E (k*3+1);have z2:W3.cell? ⟨f.sa.b,k*3+2,O⟩=Z _:=m 2 _ rfl;have f2:=E (k*3+2);have af:=V.o.Lt ak [(0,Y O 0 0),(1,I J 0),(2,.bool false)] rfl m (x:=⟨[],0,false⟩) fun w' ac au=>⟨_,ac,A4.nil⟩;obtain⟨t,N⟩:=ex (((W3.setCell ⟨f.sa.b,k*3,O⟩ (Y O 0 0)).setCell ⟨f.sa.b,k*3+1,O⟩ (I J 0)).setCell ⟨f.sa.b,k*3+2,O⟩ (.bool false));refine AI (w':=t) (by rw[N];simp[cx,go_sem,A,f0,z1,f1,z2,f2]) ?_;unfold A7;have aK:Hq (PA t (Mo w D) g d f {s with queues:=s.queues.set k {s.queues[k] with q:=[]},samples:=s.samples.set k ⟨[],0,false⟩}):=by rw[N];exact af.1
   have P:Hq (Upd (Mut g f) Q t):=by rw[N];exact aL.o.trans af.2
   clear af m E N A f0 z1 f1 z2 f2;go_wp2_with fail;refine db (v:=.tuple #[Y (Z ⟨y.heap.size+1,0,O⟩) 1 1,I J 0]) (by simp[results,results21,go_sem]) rfl ?_;rw[HE.o];have z:Upd (Mut g f) w t:=((Upd.below am.o).trans (Upd.below H.o)).trans P.o;have ax:=PX.F6 HL.o aE.o aZ.o aK.o z;have bs:=am.o.size;have bt:=H.o.size;have aU:=P.o.size;have C:(if s.samples[k].has=true then [s.samples[k].data] else s.queues[k].q)=[s.samples[k].data]:=if_pos aJ.o;refine⟨_,rfl,?_,ax.1,ax.2⟩;show BS t (Gr w t F) _ (if s.samples[k].has=true then [s.samples[k].data] else s.queues[k].q);rw[C];have bl:=Aa a1.o;have bp:t.heap[y.heap.size+1]? =Z (T #[.slice W s.samples[k].data.length X] 34 (0,0)):=(P.o.block _ bl (fun hm=>by have:=ao.o.Ke _ hm;omega)).trans a1.o;have aQ:A4 t (Mo w D) (.slice W s.samples[k].data.length X) s.samples[k].data:=(HR.o.Ag (KeepD.C9 H.o)).Ag ⟨aU,fun b r ab=>P.o.block b ab fun hm=>ao.o.P2 b r hm⟩;refine⟨[.slice W s.samples[k].data.length X],?_,?_,?_⟩
   ·exact⟨_,1,rfl,aG _,by simp,by simp,fun _=>⟨y.heap.size+1,0,rfl,bE _,by omega,fun j u z=>by
     rw[Cr bp]
     match j,z with
     |0,z=>simpa using z⟩⟩
   ·intro a n c hv _;simp only[bc] at hv;obtain⟨rfl,_,_⟩:=hv.1;exact .inr ⟨by show w.heap.size≤y.heap.size+1;omega,by show y.heap.size+1<_;omega⟩
   ·intro i u x z hx
    match i,z,hx with
    |0,z,hx=>
     simp only[List.getElem?_cons_zero,cU] at z hx;subst z hx;refine aQ.swap fun b ab r=>?_
     rcases r with r|r
     ·exact .inl (aE.o b r)
     ·exact .inr ⟨r,ab⟩
  |false=>
   rw[C] at y2;have aJ:=HH C;clear C;go_upto_region 10 with (fail);clear a3 a4 yq y0 y1 y2;obtain⟨Q,R⟩:=ex (y.alloc (T #[.slice W s.samples[k].data.length X,I J s.samples[k].at_,.bool false] 114));rw[←R];have H:Hq (Bl y Q):=by
    rw[R];exact(aH _ y).alloc (aG _) _
   clear R;have l:=ao.o.below H.o;have ar:=l.lt;have aA:=l.Ic (by omega);have aB:=l.Ib (by omega);have bu:=l.sa.lt;have bq:=l.qu.lt;have bm:f.sa.b≠g:=by
    obtain⟨cs,ad,_⟩:=l.sa.blk (by omega);exact DT ad l.blk (by decide)
   have bn:f.qu.b≠g:=by
    obtain⟨cs,ad,_⟩:=l.qu.blk (by omega);exact DT ad l.blk (by decide)
   have q12:=qC aB ar;have q11:=qC aA ar;have H2:=HH l;clear l aA aB;refine AS 18 [15,17] [11,12,16] [] trivial ?_
   iterate 11 (refine An rfl rfl rfl ?_;intro K hK;go_big_quiet_op;go_big_quiet_on)
   iterate 2 (refine Bi rfl rfl rfl ?_;intro K hK;go_big_quiet_op;go_big_quiet_on)
   iterate 2 (refine An rfl rfl rfl ?_;intro K hK;go_big_quiet_op;go_big_quiet_on)
   refine AH rfl ?_
   iterate 1 (refine Bi rfl rfl rfl ?_;intro K hK;go_big_quiet_op;go_big_quiet_on)
   refine AH rfl ?_;refine AR ?_;intro w9 aa aV;clear aV q11 q12;have L:=H2.o.below aa;have F9:∀ o,w9.frozen? ⟨f.qu.b,o,O⟩=false:=L.qu.frozen (by omega);obtain⟨v9,u9,m,aS,ay⟩:=L.qu.el k aj;have A:w9.cell? ⟨f.qu.b,k*3,O⟩=Z _:=m 0 _ rfl;have f0:=F9 (k*3);have ae:=L.Jv aj [(0,Y O 0 0)] rfl m (x:={s.queues[k] with q:=[]}) fun w' ac au=>⟨_,_,ac,BS.nil,ay.Ag au⟩;obtain⟨W3,M⟩:=ex (w9.setCell ⟨f.qu.b,k*3,O⟩ (Y O 0 0));refine AI (w':=W3) (by rw[M];simp[cx,go_sem,A,f0]) ?_;have V:Hq (PA W3 (Mo w D) g d f {s with queues:=s.queues.set k {s.queues[k] with q:=[]}}):=by rw[M];exact ae.1
   have aL:Hq (Upd (Mut g f) Q W3):=by rw[M];exact(Upd.below aa).trans ae.2
   clear ae m aS ay F9 L A f0 M aa;have E:∀ o,W3.frozen? ⟨f.sa.b,o,O⟩=false:=V.o.sa.frozen (by show 0<s.samples.length;omega);obtain⟨v9,m,_⟩:=V.o.sa.el k ak;have A:W3.cell? ⟨f.sa.b,k*3,O⟩=Z _:=m 0 _ rfl;have f0:=E (k*3);have z1:W3.cell? ⟨f.sa.b,k*3+1,O⟩=Z _:=m 1 _ rfl;have f1:=E (k*3+1);have z2:W3.cell? ⟨f.sa.b,k*3+2,O⟩=Z _:=m 2 _ rfl;have f2:=E (k*3+2);have af:=V.o.Lt ak [(0,Y O 0 0),(1,I J 0),(2,.bool false)] rfl m (x:=⟨[],0,false⟩) fun w' ac au=>⟨_,ac,A4.nil⟩;obtain⟨t,N⟩:=ex (((W3.setCell ⟨f.sa.b,k*3,O⟩ (Y O 0 0)).setCell ⟨f.sa.b,k*3+1,O⟩ (I J 0)).setCell ⟨f.sa.b,k*3+2,O⟩ (.bool false));refine AI (w':=t) (by rw[N];simp[cx,go_sem,A,f0,z1,f1,z2,f2]) ?_;unfold A7;have aK:Hq (PA t (Mo w D) g d f {s with queues:=s.queues.set k {s.queues[k] with q:=[]},samples:=s.samples.set k ⟨[],0,false⟩}):=by rw[N];exact af.1
   have P:Hq (Upd (Mut g f) Q t):=by rw[N];exact aL.o.trans af.2
   clear af m E N A f0 z1 f1 z2 f2;go_wp2_with fail;refine db (v:=.tuple #[.slice aq s.queues[k].q.length cq,I J 0]) (by simp[results,results21,go_sem]) rfl ?_;rw[HE.o];have z:Upd (Mut g f) w t:=((Upd.below am.o).trans (Upd.below H.o)).trans P.o;have ax:=PX.F6 HL.o aE.o aZ.o aK.o z;have bs:=am.o.size;have bt:=H.o.size;have aU:=P.o.size;have C:(if s.samples[k].has=true then [s.samples[k].data] else s.queues[k].q)=s.queues[k].q:=if_neg (by rw[aJ.o];simp);refine⟨_,rfl,?_,ax.1,ax.2⟩;show BS t (Gr w t F) _ (if s.samples[k].has=true then [s.samples[k].data] else s.queues[k].q);rw[C];have aQ:BS t (Mo w D) (.slice aq s.queues[k].q.length cq) s.queues[k].q:=(bj.o.Ag (KeepD.C9 H.o)).Ag ⟨aU,fun b r ab=>P.o.block b ab fun hm=>ao.o.P2 b r hm⟩;refine aQ.swap fun b ab r=>?_
   rcases r with r|r
   ·exact .inl (aE.o b r)
   ·exact .inr ⟨r,ab⟩
def Hs:(prog.info? 3).map (fun i=>(i.zero,i.size,i.bytes))=Z (Z (I J 0),1,8):=by kernel_rfl
def Sg(v:dd)(n:Nat)(f:List dd)(w:b6)(h:Sl w 0 12 v n f)(S:n≤1000000)(t:∀ u∈f,u.oneCell'=true):
  bM prog 26 #[v] w fun e w'=>∃ g,e=.returned g∧w'.ownsRow w.heap.size 51 12 g n f∧Bl w w':=by
 obtain⟨C,cap,rfl,W,l,z,m⟩:=h;obtain⟨R,H,N,P,Q⟩:=info_parts OW;have q:∀ (w:b6) (a:Option dc) (n c r i:Nat),(binOp .eql 33 (Y a n c) (Y O r i)).run prog w=.ok (.bool a.isNone) w:=fun w a n c r i=>Lib.run_eql_slice_nil w _ _ a n c r i underlying33
 obtain⟨p,B⟩:=H2 z t;clear z t;cases C with
 |none=>
  have d:n=0:=by have:=l rfl;omega
  subst d;have M:f=[]:=cM (by have:=p.o;omega);clear m l;go_enter func26,ntmps26;go_wp2;go_ret;subst M;exact⟨_,rfl,World.ownsRow_nil _ _ _ _,aH _ _⟩
 |some s=>
  have A:Hq (∀ j u,f[j]? =Z u→w.cell? (s.add j)=Z u):=by
   intro j u y;have V:=(bQ.1 y).1;have d:0<n:=by
    rcases Nat.eq_zero_or_pos n with d|d
    ·have:=p.o;rw[d] at this;omega
    ·exact d
   obtain⟨b,aa,D,_,_,E⟩:=m d;cases D;rw[Cu];exact E j u y
  clear m l;go_enter func26,ntmps26;go_wp2_with (at_builtin;refine wpList_append_own _ rfl _ _ 33 rfl w.heap.size 51 R (.agg #[I U 0,I J 0,I J 0,I U 0,I U 0,I U 0,I U 0,I J 0,I J 0,I J 0,I U 0,I J 0]) 12 72 underlying33 H N P Q rfl (by decide) _ _ _ rfl (World.ownsRow_made w #[] 0 (aG _) (bE _) (by simp)) s n cap f rfl ?qc1 ?qc2 ?qc3 ?qc4 ?qc5 ?qc6 ?_)
  case qc1=>exact p.o
  case qc2=>
   intro j u x;exact(World.cell?_alloc_lt _ _ _ (World.block_lt_of_cell? _ _ (A.o j u x))).trans (A.o j u x)
  case qc3=>exact B.o
  case qc4=>unfold maxLen;omega
  case qc5=>omega
  case qc6=>simp
  intro g w1 L F X;go_wp2;go_ret;exact⟨g,rfl,by simpa using L,((aH _ w).alloc (aG _) _).grown F (by simp) (by intro k K;simp[Value.ownBlock] at K;omega)⟩
def Z1(x:BU)(a b:Option dc)(n c d c2:Nat)(w:b6):bM prog 29 #[.agg #[I J x.count,Y a n c]] w fun e w'=>e=.returned (I J x.count)∧Bl w w':=by
 go_enter func29,ntmps29;go_wp2;go_ret;exact⟨rfl,(aH _ w).alloc (aG _) _⟩
def DJ(x:BU):Int:=x.count
def SZ(w:b6)(D:Nat→Prop)(b:Nat)(a:Option dc)(c:Nat)(l:List BU)(h:Am w D b 95 2 a c ElSe l)(N:l.length≤1000):
  bM prog 28 #[Y a l.length c,.func (.func 29) #[] #[]] w fun e w'=>∃ v,e=.returned v∧w'.ownsRow w.heap.size 3 1 v l.length ((l.map DJ).map (aD J))∧Bl w w':=by
 have H:=HH h;clear h;go_enter func28,ntmps28;go_wp2_with fail
 go_loopw [5,7,10] (fun s5 _ am wr=>∃ k:Nat,k≤l.length∧am=I J k∧∃ p r,s5=Y p k r∧Hq (Bl w wr∧wr.ownsRow w.heap.size 3 1 (Y p k r) k (((l.take k).map DJ).map (aD J)))) (fun _ _ v _=>l.length-(cX v).toNat)
 case atStart=>exact⟨0,bE _,rfl,O,0,rfl,aH _ w,by simp,.inl ⟨rfl,rfl⟩⟩
 case round=>
  obtain⟨k,ao,rfl,p,r,rfl,A⟩:=hrel;by_cases M:k<l.length
  ·have ap:(k:Int)<(l.length:Int):=by omega
   obtain⟨d,n⟩:=A.o;have s:=H.o.below F4 d;have ak:=s.ptr (by omega);have cap:=s.cap;obtain⟨v,L,S⟩:=s.el k M;obtain⟨g,i,rfl,_,_,_⟩:=S.1.open_;obtain⟨y0,y1⟩:=cc2 L;rw[ak];obtain⟨z,B⟩:=ex (DJ l[k]);have HC:Hq (bM prog 29 #[.agg #[I J l[k].count,.slice g l[k].wait.length i]] (wr.alloc (T #[I J l[k].count,.slice g l[k].wait.length i] 95)) fun e w'=>e=.returned (I J z)∧Below (wr.alloc (T #[I J l[k].count,.slice g l[k].wait.length i] 95)).heap.size (wr.alloc (T #[I J l[k].count,.slice g l[k].wait.length i] 95)) w'):=by
    show bM _ _ _ _ _;rw[B];exact Z1 l[k] g O l[k].wait.length i 0 0 (wr.alloc (T #[I J l[k].count,.slice g l[k].wait.length i] 95))
   have K:Bl w (wr.alloc (T #[I J l[k].count,.slice g l[k].wait.length i] 95)):=d.alloc d.size _;have R:(wr.alloc (T #[I J l[k].count,.slice g l[k].wait.length i] 95)).ownsRow w.heap.size 3 1 (Y p k r) k (((l.take k).map DJ).map (aD J)):=Bp n fun b _ d=>aF _ _ _ d
   obtain⟨E,ag⟩:=H2 K R;have aq:w.heap.size≤wr.heap.size:=d.size;have HZ:=HH B;clear A d n s L S K R B;go_wp2_with fail;refine HC.o.mono ?_;rintro e t ⟨rfl,x⟩;have f:=E.o.trans (x.mono E.o.size);have y:=Bp ag.o (w':=t) fun b _ N=>x.block b N
   obtain⟨F,c3,C,V,Q,m⟩:=Gv (W:=t.alloc (T #[I J z] 3)) (q:=t.heap.size) (new:=[I J z]) (Bp y fun b _ d=>aF _ _ _ d) underlying22 Hs rfl (by decide) (by have:=f.size;simp;omega) (by omega) (by decide) (bi _ _) rfl (by intro u hu;simp only[bg] at hu;subst hu;rfl) 22;have P:=fun b=>F8 (b:=b) y;have X:=m.size;have al:t.heap.size+1≤C.heap.size:=by simpa using X
   have ac:Hq (Bl w C):=⟨m.os.trans f.os,m.tape.trans f.tape,m.output.trans f.output,by have:=f.size;omega,fun j hj=>(m.block j (by have:=f.size;simp;omega) (fun e=>by have:=(P j e.symm).1;omega)).trans ((aF _ _ _ (by have:=f.size;omega)).trans (f.block j hj))⟩;have af:Hq (C.ownsRow w.heap.size 3 1 (Y F (k+1) c3) (k+1) (((l.take (k+1)).map DJ).map (aD J))):=by
    have e:((l.take (k+1)).map DJ).map (aD J)=((l.take k).map DJ).map (aD J)++ [I J z]:=by
     rw[HZ.o];simp only[a9 M,cl,cp,cJ]
    show cm _ _ _ _ _ _ _;rw[e];exact Q
   have ah:=HH V;clear f y x V Q m P X al;go_wp2_with (at_builtin;refine bJ _ rfl _ _ _ _ rfl _ _ rfl rfl _ _ ah.o ?_)
   go_roundw
   case rel=>exact⟨k+1,by omega,by go_num,F,c3,rfl,ac.o,af.o⟩
   case measure=>simp[cX];omega
  ·obtain rfl:k=l.length:=by omega
   obtain⟨d,n⟩:=A.o;rw[b8] at n;obtain⟨HB,HO⟩:=H2 d n;clear A d n;go_wp2_with fail;go_ret;exact⟨_,rfl,HO.o,HB.o⟩
def Zz(x:C3)(a b:Option dc)(n c f c2:Nat)(w:b6):bM prog 31 #[.agg #[.bool x.up,Y a n c]] w fun e w'=>e=.returned (I J (if x.up then(1:Int) else 0))∧Bl w w':=by
 cases d:x.up with
 |true=>
  go_enter func31,ntmps31;go_wp2;go_ret;exact⟨by simp,(aH _ w).alloc (aG _) _⟩
 |false=>
  go_enter func31,ntmps31;go_wp2;go_ret;exact⟨by simp,(aH _ w).alloc (aG _) _⟩
def Fp(x:C3):Int:=(if x.up then(1:Int) else 0)
def SX(w:b6)(D:Nat→Prop)(b:Nat)(a:Option dc)(c:Nat)(l:List C3)(h:Am w D b 99 2 a c ElEv l)(N:l.length≤1000):
  bM prog 30 #[Y a l.length c,.func (.func 31) #[] #[]] w fun e w'=>∃ v,e=.returned v∧w'.ownsRow w.heap.size 3 1 v l.length ((l.map Fp).map (aD J))∧Bl w w':=by
 have H:=HH h;clear h;go_enter func30,ntmps30;go_wp2_with fail
 go_loopw [5,7,10] (fun s5 _ am wr=>∃ k:Nat,k≤l.length∧am=I J k∧∃ p r,s5=Y p k r∧Hq (Bl w wr∧wr.ownsRow w.heap.size 3 1 (Y p k r) k (((l.take k).map Fp).map (aD J)))) (fun _ _ v _=>l.length-(cX v).toNat)
 case atStart=>exact⟨0,bE _,rfl,O,0,rfl,aH _ w,by simp,.inl ⟨rfl,rfl⟩⟩
 case round=>
  obtain⟨k,ao,rfl,p,r,rfl,A⟩:=hrel;by_cases M:k<l.length
  ·have ap:(k:Int)<(l.length:Int):=by omega
   obtain⟨d,n⟩:=A.o;have s:=H.o.below Fv d;have ak:=s.ptr (by omega);have cap:=s.cap;obtain⟨v,L,S⟩:=s.el k M;obtain⟨g,i,rfl,_,_,_⟩:=S.1.open_;obtain⟨y0,y1⟩:=cc2 L;rw[ak];obtain⟨z,B⟩:=ex (Fp l[k]);have HC:Hq (bM prog 31 #[.agg #[.bool l[k].up,.slice g l[k].wait.length i]] (wr.alloc (T #[.bool l[k].up,.slice g l[k].wait.length i] 99)) fun e w'=>e=.returned (I J z)∧Below (wr.alloc (T #[.bool l[k].up,.slice g l[k].wait.length i] 99)).heap.size (wr.alloc (T #[.bool l[k].up,.slice g l[k].wait.length i] 99)) w'):=by
    show bM _ _ _ _ _;rw[B];exact Zz l[k] g O l[k].wait.length i 0 0 (wr.alloc (T #[.bool l[k].up,.slice g l[k].wait.length i] 99))
   have K:Bl w (wr.alloc (T #[.bool l[k].up,.slice g l[k].wait.length i] 99)):=d.alloc d.size _;have R:(wr.alloc (T #[.bool l[k].up,.slice g l[k].wait.length i] 99)).ownsRow w.heap.size 3 1 (Y p k r) k (((l.take k).map Fp).map (aD J)):=Bp n fun b _ d=>aF _ _ _ d
   obtain⟨E,ag⟩:=H2 K R;have aq:w.heap.size≤wr.heap.size:=d.size;have HZ:=HH B;clear A d n s L S K R B;go_wp2_with fail;refine HC.o.mono ?_;rintro e t ⟨rfl,x⟩;have f:=E.o.trans (x.mono E.o.size);have y:=Bp ag.o (w':=t) fun b _ N=>x.block b N
   obtain⟨F,c3,C,V,Q,m⟩:=Gv (W:=t.alloc (T #[I J z] 3)) (q:=t.heap.size) (new:=[I J z]) (Bp y fun b _ d=>aF _ _ _ d) underlying22 Hs rfl (by decide) (by have:=f.size;simp;omega) (by omega) (by decide) (bi _ _) rfl (by intro u hu;simp only[bg] at hu;subst hu;rfl) 22;have P:=fun b=>F8 (b:=b) y;have X:=m.size;have al:t.heap.size+1≤C.heap.size:=by simpa using X
   have ac:Hq (Bl w C):=⟨m.os.trans f.os,m.tape.trans f.tape,m.output.trans f.output,by have:=f.size;omega,fun j hj=>(m.block j (by have:=f.size;simp;omega) (fun e=>by have:=(P j e.symm).1;omega)).trans ((aF _ _ _ (by have:=f.size;omega)).trans (f.block j hj))⟩;have af:Hq (C.ownsRow w.heap.size 3 1 (Y F (k+1) c3) (k+1) (((l.take (k+1)).map Fp).map (aD J))):=by
    have e:((l.take (k+1)).map Fp).map (aD J)=((l.take k).map Fp).map (aD J)++ [I J z]:=by
     rw[HZ.o];simp only[a9 M,cl,cp,cJ]
    show cm _ _ _ _ _ _ _;rw[e];exact Q
   have ah:=HH V;clear f y x V Q m P X al;go_wp2_with (at_builtin;refine bJ _ rfl _ _ _ _ rfl _ _ rfl rfl _ _ ah.o ?_)
   go_roundw
   case rel=>exact⟨k+1,by omega,by go_num,F,c3,rfl,ac.o,af.o⟩
   case measure=>simp[cX];omega
  ·obtain rfl:k=l.length:=by omega
   obtain⟨d,n⟩:=A.o;rw[b8] at n;obtain⟨HB,HO⟩:=H2 d n;clear A d n;go_wp2_with fail;go_ret;exact⟨_,rfl,HO.o,HB.o⟩
def Zx(x:BE)(a b:Option dc)(n c h c2:Nat)(w:b6)(d:0≤x.val∧x.val≤255):bM prog 33 #[.agg #[.bool x.has,I U x.val,Y a n c]] w fun e w'=>e=.returned (I J (if x.has then x.val else-1))∧Bl w w':=by
 have f:IntKind.i64.wrap x.val=x.val:=by rw[IntKind.wrap_i64];omega
 cases g:x.has with
 |true=>
  go_enter func33,ntmps33;go_wp2;go_ret;exact⟨by simp,(aH _ w).alloc (aG _) _⟩
 |false=>
  go_enter func33,ntmps33;go_wp2;go_ret;exact⟨by simp,(aH _ w).alloc (aG _) _⟩
def FO(x:BE):Int:=(if x.has then x.val else-1)
def SU(w:b6)(D:Nat→Prop)(b:Nat)(a:Option dc)(c:Nat)(l:List BE)(h:Am w D b 103 3 a c ElBo l)(P:l.length≤1000)(hv:∀ x∈l,0≤x.val∧x.val≤255):
  bM prog 32 #[Y a l.length c,.func (.func 33) #[] #[]] w fun e w'=>∃ v,e=.returned v∧w'.ownsRow w.heap.size 3 1 v l.length ((l.map FO).map (aD J))∧Bl w w':=by
 obtain⟨H,HV⟩:=H2 h hv;clear h hv;go_enter func32,ntmps32;go_wp2_with fail
 go_loopw [5,7,10] (fun s5 _ ap wr=>∃ k:Nat,k≤l.length∧ap=I J k∧∃ p r,s5=Y p k r∧Hq (Bl w wr∧wr.ownsRow w.heap.size 3 1 (Y p k r) k (((l.take k).map FO).map (aD J)))) (fun _ _ v _=>l.length-(cX v).toNat)
 case atStart=>exact⟨0,bE _,rfl,O,0,rfl,aH _ w,by simp,.inl ⟨rfl,rfl⟩⟩
 case round=>
  obtain⟨k,au,rfl,p,r,rfl,A⟩:=hrel;by_cases B:k<l.length
  ·have aw:(k:Int)<(l.length:Int):=by omega
   obtain⟨d,n⟩:=A.o;have s:=H.o.below Ft d;have an:=s.ptr (by omega);have cap:=s.cap;obtain⟨v,N,V⟩:=s.el k B;obtain⟨g,i,rfl,_,_,_⟩:=V.1.open_;obtain⟨y0,y1,y2⟩:=EO N;rw[an];obtain⟨z,E⟩:=ex (FO l[k]);have HC:Hq (bM prog 33 #[.agg #[.bool l[k].has,I U l[k].val,.slice g l[k].wait.length i]] (wr.alloc (T #[.bool l[k].has,I U l[k].val,.slice g l[k].wait.length i] 103)) fun e w'=>e=.returned (I J z)∧Below (wr.alloc (T #[.bool l[k].has,I U l[k].val,.slice g l[k].wait.length i] 103)).heap.size (wr.alloc (T #[.bool l[k].has,I U l[k].val,.slice g l[k].wait.length i] 103)) w'):=by
    show bM _ _ _ _ _;rw[E];exact Zx l[k] g O l[k].wait.length i 0 0 (wr.alloc (T #[.bool l[k].has,I U l[k].val,.slice g l[k].wait.length i] 103)) (HV.o _ (bF B))
   have M:Bl w (wr.alloc (T #[.bool l[k].has,I U l[k].val,.slice g l[k].wait.length i] 103)):=d.alloc d.size _;have S:(wr.alloc (T #[.bool l[k].has,I U l[k].val,.slice g l[k].wait.length i] 103)).ownsRow w.heap.size 3 1 (Y p k r) k (((l.take k).map FO).map (aD J)):=Bp n fun b _ d=>aF _ _ _ d
   obtain⟨K,ai⟩:=H2 M S;have ax:w.heap.size≤wr.heap.size:=d.size;have HZ:=HH E;clear A d n s N V M S E;go_wp2_with fail;refine HC.o.mono ?_;rintro e t ⟨rfl,y⟩;have f:=K.o.trans (y.mono K.o.size);have C:=Bp ai.o (w':=t) fun b _ P=>y.block b P
   obtain⟨L,c3,F,X,R,m⟩:=Gv (W:=t.alloc (T #[I J z] 3)) (q:=t.heap.size) (new:=[I J z]) (Bp C fun b _ d=>aF _ _ _ d) underlying22 Hs rfl (by decide) (by have:=f.size;simp;omega) (by omega) (by decide) (bi _ _) rfl (by intro u hu;simp only[bg] at hu;subst hu;rfl) 22;have Q:=fun b=>F8 (b:=b) C;have aa:=m.size;have ao:t.heap.size+1≤F.heap.size:=by simpa using aa
   have ae:Hq (Bl w F):=⟨m.os.trans f.os,m.tape.trans f.tape,m.output.trans f.output,by have:=f.size;omega,fun j hj=>(m.block j (by have:=f.size;simp;omega) (fun e=>by have:=(Q j e.symm).1;omega)).trans ((aF _ _ _ (by have:=f.size;omega)).trans (f.block j hj))⟩;have ah:Hq (F.ownsRow w.heap.size 3 1 (Y L (k+1) c3) (k+1) (((l.take (k+1)).map FO).map (aD J))):=by
    have e:((l.take (k+1)).map FO).map (aD J)=((l.take k).map FO).map (aD J)++ [I J z]:=by
     rw[HZ.o];simp only[a9 B,cl,cp,cJ]
    show cm _ _ _ _ _ _ _;rw[e];exact R
   have aj:=HH X;clear f C y X R m Q aa ao;go_wp2_with (at_builtin;refine bJ _ rfl _ _ _ _ rfl _ _ rfl rfl _ _ aj.o ?_)
   go_roundw
   case rel=>exact⟨k+1,by omega,by go_num,L,c3,rfl,ae.o,ah.o⟩
   case measure=>simp[cX];omega
  ·obtain rfl:k=l.length:=by omega
   obtain⟨d,n⟩:=A.o;rw[b8] at n;obtain⟨HB,HO⟩:=H2 d n;clear A d n;go_wp2_with fail;go_ret;exact⟨_,rfl,HO.o,HB.o⟩
def Z0(x:AO)(a b:Option dc)(n c d c2:Nat)(w:b6):bM prog 35 #[.agg #[Y a n c,Y b d c2,I J x.lost]] w fun e w'=>e=.returned (I J x.lost)∧Bl w w':=by
 go_enter func35,ntmps35;go_wp2;go_ret;exact⟨rfl,(aH _ w).alloc (aG _) _⟩
def Gp(x:AO):Int:=x.lost
def SY(w:b6)(D:Nat→Prop)(b:Nat)(a:Option dc)(c:Nat)(l:List AO)(h:Am w D b 107 3 a c ElQu l)(Q:l.length≤1000):
  bM prog 34 #[Y a l.length c,.func (.func 35) #[] #[]] w fun e w'=>∃ v,e=.returned v∧w'.ownsRow w.heap.size 3 1 v l.length ((l.map Gp).map (aD J))∧Bl w w':=by
 have H:=HH h;clear h;go_enter func34,ntmps34;go_wp2_with fail
 go_loopw [5,7,10] (fun s5 _ ap wr=>∃ k:Nat,k≤l.length∧ap=I J k∧∃ s t,s5=Y s k t∧Hq (Bl w wr∧wr.ownsRow w.heap.size 3 1 (Y s k t) k (((l.take k).map Gp).map (aD J)))) (fun _ _ v _=>l.length-(cX v).toNat)
 case atStart=>exact⟨0,bE _,rfl,O,0,rfl,aH _ w,by simp,.inl ⟨rfl,rfl⟩⟩
 case round=>
  obtain⟨k,au,rfl,s,t,rfl,A⟩:=hrel;by_cases P:k<l.length
  ·have ax:(k:Int)<(l.length:Int):=by omega
   obtain⟨d,r⟩:=A.o;have x:=H.o.below F0 d;have an:=x.ptr (by omega);have cap:=x.cap;obtain⟨v,u,N,X,aa⟩:=x.el k P;obtain⟨g,m,rfl⟩:=X.rd.C2;obtain⟨i,n,rfl,_,_,_⟩:=aa.1.open_;obtain⟨y0,y1,y2⟩:=EO N;rw[an];obtain⟨z,E⟩:=ex (Gp l[k]);have HC:Hq (bM prog 35 #[.agg #[.slice g l[k].q.length m,.slice i l[k].wait.length n,I J l[k].lost]] (wr.alloc (T #[.slice g l[k].q.length m,.slice i l[k].wait.length n,I J l[k].lost] 107)) fun e w'=>e=.returned (I J z)∧Below (wr.alloc (T #[.slice g l[k].q.length m,.slice i l[k].wait.length n,I J l[k].lost] 107)).heap.size (wr.alloc (T #[.slice g l[k].q.length m,.slice i l[k].wait.length n,I J l[k].lost] 107)) w'):=by
    show bM _ _ _ _ _;rw[E];exact Z0 l[k] g i l[k].q.length m l[k].wait.length n (wr.alloc (T #[.slice g l[k].q.length m,.slice i l[k].wait.length n,I J l[k].lost] 107))
   have M:Bl w (wr.alloc (T #[.slice g l[k].q.length m,.slice i l[k].wait.length n,I J l[k].lost] 107)):=d.alloc d.size _;have V:(wr.alloc (T #[.slice g l[k].q.length m,.slice i l[k].wait.length n,I J l[k].lost] 107)).ownsRow w.heap.size 3 1 (Y s k t) k (((l.take k).map Gp).map (aD J)):=Bp r fun b _ d=>aF _ _ _ d
   obtain⟨K,aj⟩:=H2 M V;have ay:w.heap.size≤wr.heap.size:=d.size;have HZ:=HH E;clear A d r x N X aa M V E;go_wp2_with fail;refine HC.o.mono ?_;rintro e y ⟨rfl,B⟩;have f:=K.o.trans (B.mono K.o.size);have C:=Bp aj.o (w':=y) fun b _ Q=>B.block b Q
   obtain⟨L,c3,F,ab,S,p⟩:=Gv (W:=y.alloc (T #[I J z] 3)) (q:=y.heap.size) (new:=[I J z]) (Bp C fun b _ d=>aF _ _ _ d) underlying22 Hs rfl (by decide) (by have:=f.size;simp;omega) (by omega) (by decide) (bi _ _) rfl (by intro u hu;simp only[bg] at hu;subst hu;rfl) 22;have R:=fun b=>F8 (b:=b) C;have ac:=p.size;have ao:y.heap.size+1≤F.heap.size:=by simpa using ac
   have af:Hq (Bl w F):=⟨p.os.trans f.os,p.tape.trans f.tape,p.output.trans f.output,by have:=f.size;omega,fun j hj=>(p.block j (by have:=f.size;simp;omega) (fun e=>by have:=(R j e.symm).1;omega)).trans ((aF _ _ _ (by have:=f.size;omega)).trans (f.block j hj))⟩;have ai:Hq (F.ownsRow w.heap.size 3 1 (Y L (k+1) c3) (k+1) (((l.take (k+1)).map Gp).map (aD J))):=by
    have e:((l.take (k+1)).map Gp).map (aD J)=((l.take k).map Gp).map (aD J)++ [I J z]:=by
     rw[HZ.o];simp only[a9 P,cl,cp,cJ]
    show cm _ _ _ _ _ _ _;rw[e];exact S
   have ak:=HH ab;clear f C B ab S p R ac ao;go_wp2_with (at_builtin;refine bJ _ rfl _ _ _ _ rfl _ _ rfl rfl _ _ ak.o ?_)
   go_roundw
   case rel=>exact⟨k+1,by omega,by go_num,L,c3,rfl,af.o,ai.o⟩
   case measure=>simp[cX];omega
  ·obtain rfl:k=l.length:=by omega
   obtain⟨d,r⟩:=A.o;rw[b8] at r;obtain⟨HB,HO⟩:=H2 d r;clear A d r;go_wp2_with fail;go_ret;exact⟨_,rfl,HO.o,HB.o⟩
end Go.Proofs.YtiepijihpgijbaaGreatDoor
