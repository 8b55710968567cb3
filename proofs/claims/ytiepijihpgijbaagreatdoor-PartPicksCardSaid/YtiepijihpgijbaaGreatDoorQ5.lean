import Derived.Test.YtiepijihpgijbaaGreatDoorQ4
set_option maxHeartbeats 8000000
set_option maxRecDepth 100000
set_option linter.all false
open Option renaming some→Z,none→O
open Go.Obj renaming cells→T
open Go.Value renaming slice→Y,int→I,pointer→G
open Go.IntKind renaming i64→J,u8→U
open Go.Value renaming int→aG,ownBlock→eu
open Go.RowKit.Below renaming heap_alloc→aH,refl→bc,heap_setCell→cK,setCell→ey
open Nat renaming le_refl→a2,zero_le→dc,ne_of_lt→eb,eq_zero_or_pos→en
open List renaming setIfInBounds_toArray→bd,mem_singleton→be,getElem?_eq_some_iff→bJ,set_cons_zero→cY,set_cons_succ→db,eq_nil_of_length_eq_zero→dd,take_succ_eq_append_getElem→de,replicate→dj,getElem_mem→dV,range→dW,length_replicate→dX,map_append→ed,map_cons→ee,mem_map→ei,getElem?_eq_getElem→ek,map_nil→ep,take_length→es,range_succ→eG,length_map→eH,getD_eq_getElem?_getD→eJ,getElem?_eq_none→eM,mem_replicate→eP
open Go.World renaming cell?_alloc_old→bQ,block_lt_of_cell?→dZ,setCell→ec,cell?_alloc_lt→eh,frozen?→ej,ownsRow_made→em,ownsRow_nil→eo,ownsRow→eC
open Go renaming heap_alloc_new→df,World→dU,heap_setCell_same→dY,Calls→ea,Value→ef,wpList_append_own→et,execOp→eA,info_parts→eE,Addr→eF,bodyPost_ret→eI,TypeId→eK,maxLen→eR,results→eS
open Go.Lib renaming wpList_append_run→dh,run_eql_slice_nil→eg
open Go.Value.slice renaming injEq→di
open Int renaming toNat_natCast→eq,eq_ofNat_of_zero_le→ez
open Array renaming getElem?_eq_some_iff→ew
open Option.some renaming injEq→eB
open Go.RowKit renaming intOf→eD
open Go.Value.tuple renaming injEq→eL
open Go.Value.agg renaming injEq→eN
open List.cons renaming injEq→eO
open Array.mk renaming injEq→eQ
namespace Go.Proofs.YtiepijihpgijbaaGreatDoor
open Go.RowKit Tryz
def Lj{d:Ad}{i:Int}{c:Bool}{p:CV}(h:Ek d i c=Z p):∃ (k:Nat) (a:k<d.Ab.length),i=(k:Int)∧p=d.Ab[k]∧p.o=c:=by
 unfold Ek at h;split at h
 ·cases h
 ·rename_i g;obtain⟨k,rfl⟩:=ez (show 0≤i by omega);rw[eq] at h;split at h
  ·cases h
  ·rename_i q b;split at h
   ·rename_i f;simp only[eB] at h;subst h;have a:=(bJ.1 b).1;have e:=(bJ.1 b).2;exact⟨k,a,rfl,e.symm,f⟩
   ·cases h
def Nh{k z d r:Int}{q:List (List Int)}{l:List Wt}{n:Int}{m x:List Int}(h:x∈(sendQ k z d r q l n m).1):x∈q∨x=m:=by
 unfold sendQ at h;split at h
 ·exact .inl h
 ·split at h
  ·exact .inl h
  ·cases l with
   |cons y t=>exact .inl h
   |nil=>
    simp only[] at h;split at h
    ·exact .inl h
    ·simp only[List.mem_append,be] at h;exact h
def US{w:dU}{B q:Nat}{v:ef}{l:List Wt}{k:eK}(h:Al w B v l)(u:w.heap[q]? =Z (T #[Y O 0 0,Y O 0 0,I J 0] k (0,0))):Ct (fun b=>B≤b∧b≠q) v:=fun a m c x d=>by
 obtain⟨y,cap,j,_,_,t⟩:=h.open_;subst x;simp only[di] at j;obtain⟨rfl,rfl,rfl⟩:=j;obtain⟨b,o,s,r,z,i⟩:=t d;cases s;refine⟨r,fun e=>?_⟩;replace e:b=q:=e;subst e;have f:=(i 0 d).1;have g:=(i 0 d).2.2;rw[Cr u] at f g;have n:=(ew.1 g).1;have p:o=0:=by simp at n;omega
 subst p;simp at f
def UQ{w:dU}{B q:Nat}{v:ef}{l:List Int}{i:eK}(h:Af U w B v l)(s:w.heap[q]? =Z (T #[Y O 0 0,Y O 0 0,I J 0] i (0,0))):Ct (fun b=>B≤b∧b≠q) v:=fun a m c t f=>by
 obtain⟨u,cap,g,_,_,r⟩:=h.open_;subst t;simp only[di] at g;obtain⟨rfl,rfl,rfl⟩:=g;obtain⟨b,o,n,k,x,p⟩:=r f;cases n;refine⟨k,fun e=>?_⟩;replace e:b=q:=e;subst e;have d:=p 0 f;rw[Cr s] at d;have j:=(ew.1 d).1;simp at j;rcases(show o=0∨o=1∨o=2 by omega) with rfl|rfl|rfl<;>simp at d
def UR{w:dU}{B q:Nat}{v:ef}{l:List (List Int)}{t:eK}(h:A6 w B v l)(D:∀ m∈l,m≠ [])(k:w.heap[q]? =Z (T #[Y O 0 0,Y O 0 0,I J 0] t (0,0))):BS w (fun b=>B≤b∧b≠q) v l:=by
 obtain⟨vs,j,f⟩:=h;refine⟨vs,j.mono (dc _),fun a m c F g=>?_,fun i u x n s=>⟨(f i u x n s).mono (dc _),UQ (f i u x n s) k⟩⟩;obtain⟨K,cap,p,_,_,N,E⟩:=j;subst F;simp only[di] at p;obtain⟨rfl,rfl,rfl⟩:=p;obtain⟨b,o,A,z,M,C⟩:=E g;cases A;refine⟨z,fun e=>?_⟩;replace e:b=q:=e;subst e;have r:0<vs.length:=by omega
 have d:=C 0 vs[0] (ek r);obtain⟨H,L,e,_,_,_⟩:=(f 0 vs[0] l[0] (ek r) (ek g)).open_;have P:0<l[0].length:=List.length_pos_iff.2 (D _ (dV g));rw[e,Cr k] at d;have y:=(ew.1 d).1;simp at y;rcases(show o=0∨o=1∨o=2 by omega) with rfl|rfl|rfl
 ·simp at d;omega
 ·simp at d;omega
 ·simp at d
def S7(B:Nat)(w:dU)(F:Nat→Prop)(g:Nat)(d:Ad)(s:Ae)(now bf:Int)(vd:ef)(data:List Int)(b1:Gl B w)(cb:∀ b,F b→B≤b)(h:PX w F g d s)(ok:Ah d s)(bN:∀ p∈d.Ab,p.size≤64)(ck:∀ x∈s.queues,∀ m∈x.q,m≠ [])(bI:A4 w (fun b=>¬F b) vd data)(c0:data.length≤100000)(cc:Bf data):
  ea prog 19 #[G (Z ⟨g,0,O⟩),I J now,I J bf,vd] w (GA w F g d (Dc d now bf data s)):=by
 have HX:=HH h;obtain⟨hl,t,D,hp,ca,b9⟩:=h;have aR:w.cell? ⟨g,20,O⟩=Z (.bool true):=hp.cell 20;obtain⟨HL,HP,b5,aQ,HG,bu,OK,cE,cF,ct,b4⟩:=Ra hl hp ca b9 b1 cb ok bN ck bI cc;obtain⟨ad,cd,rfl,_,_,_⟩:=bI.1.open_;have X:=HH (PR w D g d t s bf false hp);have cZ:=ok.clock;clear hl hp ca b9 b1 cb ok bN bI cc ck;cases aK:Ek d bf false with
 |none=>
  have HE:Hq (Dc d now bf data s=(s,2)):=by
   show _=_;unfold Dc;rw[aK]
  rw[aK] at X;clear aK;go_enter func19,ntmps19;go_wp2_with fail;refine X.o.mono ?_;rintro e i ⟨rfl,H⟩;have P:=HH H;clear H X aR;go_wp2_with fail;go_ret;rw[HE.o];have a:Bl w (i.alloc (T #[.string ⟨#[]⟩,I U 0,.bool false,I J 0,I J 0,I J 0] 62)):=P.o.alloc P.o.size _;exact⟨rfl,HX.o.Iw a,Fr.below a⟩
 |some p=>
  obtain⟨k,hk,rfl,rfl,cO⟩:=Lj aK;rw[aK] at X;have aZ:=HH aK;clear aK cO;have c9:=cE.o _ (dV hk);by_cases j:now<s.clock
  ·have HE:Hq (Dc d now k data s=(s,2)):=by
    show _=_;unfold Dc;rw[aZ.o];simp only[];rw[if_pos (.inl j)]
   go_enter func19,ntmps19;go_wp2_with fail;refine X.o.mono ?_;rintro e i ⟨⟨nm,rfl⟩,H⟩;obtain⟨P,M⟩:=H2 H (HP.o.below H);have a8:∀ C,(i.alloc C).cell? ⟨g,18,O⟩=Z (I J s.clock):=fun C=>by
    rw[bQ _ _ _ (eb M.o.lt)];exact M.o.cell 18
   have ba:∀ C,(i.alloc C).frozen? ⟨g,18,O⟩=false:=fun C=>(M.o.below ((bc _ i).alloc (a2 _) C)).frozen 18;clear H X aR;go_wp2_with fail;go_ret;rw[HE.o];have a:Bl w (i.alloc (T #[.string nm,I U d.Ab[k].kind,.bool d.Ab[k].o,I J d.Ab[k].size,I J d.Ab[k].depth,I J d.Ab[k].At] 62)):=P.o.alloc P.o.size _;exact⟨rfl,HX.o.Iw a,Fr.below a⟩
  by_cases h2:1073741824<now
  ·have HE:Hq (Dc d now k data s=(s,2)):=by
    show _=_;unfold Dc;rw[aZ.o];simp only[];rw[if_pos (.inr (.inl h2))]
   go_enter func19,ntmps19;go_wp2_with fail;refine X.o.mono ?_;rintro e i ⟨⟨nm,rfl⟩,H⟩;obtain⟨P,M⟩:=H2 H (HP.o.below H);have a8:∀ C,(i.alloc C).cell? ⟨g,18,O⟩=Z (I J s.clock):=fun C=>by
    rw[bQ _ _ _ (eb M.o.lt)];exact M.o.cell 18
   have ba:∀ C,(i.alloc C).frozen? ⟨g,18,O⟩=false:=fun C=>(M.o.below ((bc _ i).alloc (a2 _) C)).frozen 18;clear H X aR;go_wp2_with fail;go_ret;rw[HE.o];have a:Bl w (i.alloc (T #[.string nm,I U d.Ab[k].kind,.bool d.Ab[k].o,I J d.Ab[k].size,I J d.Ab[k].depth,I J d.Ab[k].At] 62)):=P.o.alloc P.o.size _;exact⟨rfl,HX.o.Iw a,Fr.below a⟩
  by_cases h3:data.length=0
  ·have hz:((data.length:Int)==0)=true:=by simp[h3]
   have cg:data=[]:=dd h3;have HN:=HH cg;have HE:Hq (Dc d now k data s=(s,2)):=by
    show _=_;unfold Dc;rw[aZ.o];simp only[];rw[if_pos (.inr (.inr cg))]
   go_enter func19,ntmps19;go_wp2_with fail;refine X.o.mono ?_;rintro e i ⟨⟨nm,rfl⟩,H⟩;obtain⟨P,M⟩:=H2 H (HP.o.below H);have a8:∀ C,(i.alloc C).cell? ⟨g,18,O⟩=Z (I J s.clock):=fun C=>by
    rw[bQ _ _ _ (eb M.o.lt)];exact M.o.cell 18
   have ba:∀ C,(i.alloc C).frozen? ⟨g,18,O⟩=false:=fun C=>(M.o.below ((bc _ i).alloc (a2 _) C)).frozen 18;clear H X aR;go_wp2_with fail;go_ret;rw[HE.o];have a:Bl w (i.alloc (T #[.string nm,I U d.Ab[k].kind,.bool d.Ab[k].o,I J d.Ab[k].size,I J d.Ab[k].depth,I J d.Ab[k].At] 62)):=P.o.alloc P.o.size _;exact⟨rfl,HX.o.Iw a,Fr.below a⟩
  have hz:((data.length:Int)==0)=false:=by
   exact beq_false_of_ne (show(data.length:Int)≠0 by omega)
  have ch:data≠ []:=fun e=>h3 (by rw[e];rfl);have bw:=HH ch;clear h3 ch;by_cases h4:d.Ab[k].size<(data.length:Int)
  ·have HE:Hq (Dc d now k data s=(s,3)):=by
    show _=_;unfold Dc;rw[aZ.o];simp only[];rw[if_neg (by simp only[not_or];exact⟨j,h2,bw.o⟩),if_pos h4]
   go_enter func19,ntmps19;go_wp2_with fail;refine X.o.mono ?_;rintro e i ⟨⟨nm,rfl⟩,H⟩;obtain⟨P,M⟩:=H2 H (HP.o.below H);have a8:∀ C,(i.alloc C).cell? ⟨g,18,O⟩=Z (I J s.clock):=fun C=>by
    rw[bQ _ _ _ (eb M.o.lt)];exact M.o.cell 18
   have ba:∀ C,(i.alloc C).frozen? ⟨g,18,O⟩=false:=fun C=>(M.o.below ((bc _ i).alloc (a2 _) C)).frozen 18;clear H X aR;go_wp2_with fail;go_ret;rw[HE.o];have a:Bl w (i.alloc (T #[.string nm,I U d.Ab[k].kind,.bool d.Ab[k].o,I J d.Ab[k].size,I J d.Ab[k].depth,I J d.Ab[k].At] 62)):=P.o.alloc P.o.size _;exact⟨rfl,HX.o.Iw a,Fr.below a⟩
  have b7:Hq (Dc d now k data s=if d.Ab[k].kind=1 then({s with clock:=now,samples:=s.samples.set k (writeSa d.Ab[k] (s.samples.getD k default) now data).1},(writeSa d.Ab[k] (s.samples.getD k default) now data).2) else(wakeP d now data [(sendQ d.Ab[k].kind d.Ab[k].size d.Ab[k].depth d.Ab[k].At (s.queues.getD k default).q (s.queues.getD k default).wait (s.queues.getD k default).lost data).2.2.2.1] {s with clock:=now,queues:=s.queues.set k ⟨(sendQ d.Ab[k].kind d.Ab[k].size d.Ab[k].depth d.Ab[k].At (s.queues.getD k default).q (s.queues.getD k default).wait (s.queues.getD k default).lost data).1,(sendQ d.Ab[k].kind d.Ab[k].size d.Ab[k].depth d.Ab[k].At (s.queues.getD k default).q (s.queues.getD k default).wait (s.queues.getD k default).lost data).2.1,(sendQ d.Ab[k].kind d.Ab[k].size d.Ab[k].depth d.Ab[k].At (s.queues.getD k default).q (s.queues.getD k default).wait (s.queues.getD k default).lost data).2.2.1⟩},(sendQ d.Ab[k].kind d.Ab[k].size d.Ab[k].depth d.Ab[k].At (s.queues.getD k default).q (s.queues.getD k default).wait (s.queues.getD k default).lost data).2.2.2.2)):=by
   show _=_;unfold Dc;rw[aZ.o];simp only[];rw[if_neg (by simp only[not_or];exact⟨j,h2,bw.o⟩),if_neg h4,eq]
  have cf:0≤now:=by omega
  have c6:now≤1073741824:=by omega
  have cL:data.length≤64:=by omega
  go_enter func19,ntmps19;go_wp2_with fail;refine X.o.mono ?_;rintro e i ⟨⟨nm,rfl⟩,H⟩;obtain⟨P,M⟩:=H2 H (HP.o.below H);have a8:∀ C,(i.alloc C).cell? ⟨g,18,O⟩=Z (I J s.clock):=fun C=>by
   rw[bQ _ _ _ (eb M.o.lt)];exact M.o.cell 18
  have ba:∀ C,(i.alloc C).frozen? ⟨g,18,O⟩=false:=fun C=>(M.o.below ((bc _ i).alloc (a2 _) C)).frozen 18;clear H X aR;go_upto_region 9 with (fail);obtain⟨W0,bl⟩:=ex (i.alloc (T #[.string nm,I U d.Ab[k].kind,.bool d.Ab[k].o,I J d.Ab[k].size,I J d.Ab[k].depth,I J d.Ab[k].At] 62));rw[←bl];have b2:Hq (Bl w W0):=by rw[bl];exact P.o.alloc P.o.size _
  have cn:W0.heap[i.heap.size]? =Z (T #[.string nm,I U d.Ab[k].kind,.bool d.Ab[k].o,I J d.Ab[k].size,I J d.Ab[k].depth,I J d.Ab[k].At] 62 (0,0)):=by rw[bl];exact df i _
  have c8:w.heap.size≤i.heap.size:=P.o.size;have c1:=HP.o.lt;have bx:Hq (PA W0 (Mo w D) g d t s):=HP.o.mo.below b2.o;clear bl a8 ba;obtain⟨A,aU⟩:=ex (W0.setCell ⟨g,18,O⟩ (I J now));rw[←aU];have bk:Hq (PA A (Mo w D) g d t {s with clock:=now}):=by rw[aU];exact(bx.o.Kn _).1
  have a0:Hq (Upd (Mut g t) w A):=by rw[aU];exact(Upd.below b2.o).trans (bx.o.Kn _).2
  have QB:Hq (A.heap[i.heap.size]? =Z (T #[.string nm,I U d.Ab[k].kind,.bool d.Ab[k].o,I J d.Ab[k].size,I J d.Ab[k].depth,I J d.Ab[k].At] 62 (0,0))):=by
   rw[aU];exact(cK _ _ _ _ (by show i.heap.size≠g;omega)).trans cn
  have bs:Hq (A4 A (NM g t) (Y ad data.length cd) data):=A4.Ag (ct.o.mono fun b a hm=>a (aQ.o b (GQ b hm))) (KeepD.nm a0.o);have cA:Hq (Ah d {s with clock:=now}):=OK.o.clk cf (by omega);have cT:W0.heap.size=A.heap.size:=by rw[aU];simp[ec]
  have da:w.heap.size≤A.heap.size:=a0.o.size;clear aU cn bx cT;have bN:=OK.o.samples;have c7:=OK.o.queues;have kx:A.cell? ⟨i.heap.size,1,O⟩=Z (I U d.Ab[k].kind):=Cr QB.o;have aj:i.heap.size<A.heap.size:=Aa QB.o;by_cases aW:d.Ab[k].kind=1
  ·have H:(d.Ab[k].kind==1)=true:=by simp[aW]
   have ai:k<s.samples.length:=by omega
   have cN:(k:Int)<(s.samples.length:Int):=by omega
   have j:=bk.o;have am:=j.lt;have af:=j.sa.lt;have cap:s.samples.length≤t.sa.c:=j.sa.cap;have sl:A.cell? ⟨g,11,O⟩=Z (Y (Z ⟨t.sa.b,0,O⟩) s.samples.length t.sa.c):=j.Ic (by show 0<s.samples.length;omega);have aM:=qC sl am;obtain⟨v,hc,hr⟩:=j.sa.el k ai;obtain⟨av,cv,rfl,_,_,_⟩:=hr.1.open_;obtain⟨y0,y1,y2⟩:=EO hc;have bX:=qC y0 af;have bY:=qC y1 af;have bZ:=qC y2 af;have aN:=qC (show A.cell? ⟨i.heap.size,0,O⟩=_ from Cr QB.o) aj;have aO:=qC (show A.cell? ⟨i.heap.size,1,O⟩=_ from Cr QB.o) aj;have aP:=qC (show A.cell? ⟨i.heap.size,2,O⟩=_ from Cr QB.o) aj;have bU:=qC (show A.cell? ⟨i.heap.size,3,O⟩=_ from Cr QB.o) aj;have bV:=qC (show A.cell? ⟨i.heap.size,4,O⟩=_ from Cr QB.o) aj;have bW:=qC (show A.cell? ⟨i.heap.size,5,O⟩=_ from Cr QB.o) aj;obtain⟨y,er,hw⟩:∃ y er,writeSa d.Ab[k] s.samples[k] now data=(y,er):=⟨_,_,rfl⟩;have HC:Hq (∀ W,Bl A W→ea prog 48 #[.agg #[.string nm,I U d.Ab[k].kind,.bool d.Ab[k].o,I J d.Ab[k].size,I J d.Ab[k].depth,I J d.Ab[k].At],.agg #[.slice av s.samples[k].data.length cv,I J s.samples[k].at_,.bool s.samples[k].has],I J now,Y ad data.length cd] W fun e w'=>∃ v,e=.returned (.tuple #[.agg #[v,I J y.at_,.bool y.has],I J er])∧AA w' W.heap.size v y.data∧Bl W w'):=fun W a=>by
    have:=QR nm d.Ab[k].kind d.Ab[k].o d.Ab[k].size d.Ab[k].depth d.Ab[k].At s.samples[k].at_ s.samples[k].has (.slice av s.samples[k].data.length cv) s.samples[k].data W (hr.1.below a) (by have:=(OK.o.sa _ (dV ai)).len;omega) now (Y ad data.length cd) data (bs.o.1.below a) (by omega);have e:writeSa (⟨d.Ab[k].kind,d.Ab[k].o,d.Ab[k].size,d.Ab[k].depth,d.Ab[k].At⟩:CV) (⟨s.samples[k].data,s.samples[k].at_,s.samples[k].has⟩:Ee) now data=(y,er):=hw;rw[e] at this;exact this
   have HE:Hq (Dc d now k data s=({s with clock:=now,samples:=s.samples.set k y},er)):=by
    show _=_;rw[b7.o,if_pos aW,getD_at _ _ ai,hw]
   clear hw hr aW;clear j hc sl y0 y1 y2;go_upto_region 10 with (fail);clear kx H;refine AS 18 [16] [14,17] [(11,(fun v w'=>∃ E c2,v=.tuple #[.agg #[Y E y.data.length c2,I J y.at_,.bool y.has],I J er]∧AA w' A.heap.size (Y E y.data.length c2) y.data)),(15,Bh A.heap.size #[Y O 0 0,I J 0,.bool false] 114)] ⟨(fun v i w2 ⟨E,c2,e,h⟩ a=>⟨E,c2,e,Ty.below h a⟩),Bh.AX,trivial⟩ ?_
   iterate 11 (refine An rfl rfl rfl ?_;intro K hK;go_big_quiet_op;go_big_quiet_on)
   refine A9 rfl rfl (fun w' a hA=>?_) ?_
   ·refine AD (f:=48) (al:=[.agg #[.string nm,I U d.Ab[k].kind,.bool d.Ab[k].o,I J d.Ab[k].size,I J d.Ab[k].depth,I J d.Ab[k].At],.agg #[.slice av s.samples[k].data.length cv,I J s.samples[k].at_,.bool s.samples[k].has],I J now,Y ad data.length cd]) rfl rfl rfl O1 ?_;exact(HC.o w' a).mono fun e w2 h=>by
     obtain⟨u,he,hf,bG⟩:=h;obtain⟨E,c2,hu⟩:=Ty.shape hf;subst hu;exact⟨_,he,bG,_,_,rfl,Ty.mono hf a.size⟩
   intro v w' a hv;obtain⟨E,c2,rfl,bK⟩:=hv;clear a bK w';simp only[Au,bd,db,cY]
   iterate 2 (refine An rfl rfl rfl ?_;intro K hK;go_big_quiet_op;go_big_quiet_on)
   iterate 1 (refine Bi rfl rfl rfl ?_;intro K hK;go_big_quiet_op;go_big_quiet_on)
   refine A9 rfl rfl (fun w' a hA=>?_) ?_
   ·exact EY (T #[Y O 0 0,I J 0,.bool false] 114) (by simp[eA,go_sem]) ⟨w'.heap.size,a.size,rfl,df _ _⟩
   intro v w' a hv;obtain⟨q,hq,rfl,V⟩:=hv;clear a hq V w';simp only[Au,bd,db,cY];refine AH rfl ?_
   iterate 1 (refine Bi rfl rfl rfl ?_;intro K hK;go_big_quiet_op;go_big_quiet_on)
   refine AR ?_;intro R S an;have bT:=an 11 _ (by decide) rfl;obtain⟨bP,V⟩:=Bh.at_ (an 15 _ (by decide) rfl);obtain⟨a3,c3,e3,aV⟩:=bT;simp only[eL,eQ,eO,eN,di,true_and,and_true] at e3;obtain⟨rfl,rfl⟩:=e3;obtain⟨z0,z1,z2⟩:=r3 V;obtain⟨f0,f1,f2⟩:=f3 V;obtain⟨L,aI⟩:=ex (((R.setCell ⟨q,0,O⟩ (Y E y.data.length c2)).setCell ⟨q,1,O⟩ (I J y.at_)).setCell ⟨q,2,O⟩ (.bool y.has));refine AI (w':=L) (by rw[aI];simp[eA,go_sem,z0,f0,z1,f1,z2,f2]) ?_;unfold A7;have ay:L=setsAt R q 0 [(0,Y E y.data.length c2),(1,I J y.at_),(2,.bool y.has)]:=aI;have aY:Hq (Bl A L):=by rw[ay];exact DH bP S _
   have ao:L.heap[q]? =Z (T #[Y E y.data.length c2,I J y.at_,.bool y.has] 114 (0,0)):=by
    rw[ay];have hh:=Di [(0,Y E y.data.length c2),(1,I J y.at_),(2,.bool y.has)] V;simp only[Er,bd,db,cY] at hh;exact hh
   have bt:Hq (A4 L (Mo w D) (Y E y.data.length c2) y.data):=by
    have h3:AA L A.heap.size (Y E y.data.length c2) y.data:=Ty.Ag aV fun b cs a=>by
     rw[ay,AU (DT a V (by decide))];exact a
    exact Af.CZ (Ty.sl h3) fun b a _=>.inr (by omega)
   clear aV;clear aI ay S an V z0 f0 z1 f1 z2 f2 aM am af bX bY bZ aN aO aP bU bV bW;have aC:q<L.heap.size:=Aa ao;have j:=bk.o.below aY.o;have am:=j.lt;have af:=j.sa.lt;have cI:s.samples.length≤t.sa.c:=j.sa.cap;have sl:L.cell? ⟨g,11,O⟩=Z (Y (Z ⟨t.sa.b,0,O⟩) s.samples.length t.sa.c):=j.Ic (by show 0<s.samples.length;omega);have aM:=qC sl am;have aN:=qC (show L.cell? ⟨q,0,O⟩=_ from Cr ao) aC;have aO:=qC (show L.cell? ⟨q,1,O⟩=_ from Cr ao) aC;have aP:=qC (show L.cell? ⟨q,2,O⟩=_ from Cr ao) aC;have H1:=HH j;clear j sl ao;go_upto_region 11 with (fail);refine AS 9 [8] [] [] trivial ?_
   iterate 8 (refine An rfl rfl rfl ?_;intro K hK;go_big_quiet_op;go_big_quiet_on)
   refine AH rfl ?_;refine AR ?_;intro R S an;clear an;have h9:=H1.o.below S;have F9:∀ o,R.frozen? ⟨t.sa.b,o,O⟩=false:=h9.sa.frozen (by show 0<s.samples.length;omega);obtain⟨v,ak,_⟩:=h9.sa.el k ai;have z0:R.cell? ⟨t.sa.b,k*3,O⟩=Z _:=ak 0 _ rfl;have f0:=F9 (k*3);have z1:R.cell? ⟨t.sa.b,k*3+1,O⟩=Z _:=ak 1 _ rfl;have f1:=F9 (k*3+1);have z2:R.cell? ⟨t.sa.b,k*3+2,O⟩=Z _:=ak 2 _ rfl;have f2:=F9 (k*3+2);have aJ:=h9.Lt ai [(0,Y E y.data.length c2),(1,I J y.at_),(2,.bool y.has)] rfl ak (x:=y) fun w' bH bm=>⟨_,bH,(bt.o.Ag (.C9 S)).Ag bm⟩;obtain⟨W3,aB⟩:=ex (((R.setCell ⟨t.sa.b,k*3,O⟩ (Y E y.data.length c2)).setCell ⟨t.sa.b,k*3+1,O⟩ (I J y.at_)).setCell ⟨t.sa.b,k*3+2,O⟩ (.bool y.has));refine AI (w':=W3) (by rw[aB];simp[eA,go_sem,z0,f0,z1,f1,z2,f2]) ?_;unfold A7;have bj:Hq (PA W3 (Mo w D) g d t {s with clock:=now,samples:=s.samples.set k y}):=by rw[aB];exact aJ.1
   have a1:Hq (Upd (Mut g t) A W3):=by rw[aB];exact((Upd.below aY.o).trans (Upd.below S)).trans aJ.2
   clear aB aJ ak F9 h9 S z0 f0 z1 f1 z2 f2 aM am af aN aO aP aC;go_wp2_with fail;go_ret;rw[HE.o];exact⟨rfl,PX.F6 HL.o b5.o aQ.o bj.o (a0.o.trans a1.o)⟩
  ·have H:(d.Ab[k].kind==1)=false:=by simp[aW]
   have ai:k<s.queues.length:=by omega
   have cN:(k:Int)<(s.queues.length:Int):=by omega
   have j:=bk.o;have am:=j.lt;have af:=j.qu.lt;have cap:s.queues.length≤t.qu.c:=j.qu.cap;have sl:A.cell? ⟨g,12,O⟩=Z (Y (Z ⟨t.qu.b,0,O⟩) s.queues.length t.qu.c):=j.Ib (by show 0<s.queues.length;omega);have aM:=qC sl am;obtain⟨v,u,hc,bR,bS⟩:=j.qu.el k ai;obtain⟨aq,cq,rfl⟩:=bR.rd.C2;obtain⟨aw,cw,rfl,_,_,_⟩:=bS.1.open_;obtain⟨y0,y1,y2⟩:=EO hc;have bX:=qC y0 af;have bY:=qC y1 af;have bZ:=qC y2 af;have aN:=qC (show A.cell? ⟨i.heap.size,0,O⟩=_ from Cr QB.o) aj;have aO:=qC (show A.cell? ⟨i.heap.size,1,O⟩=_ from Cr QB.o) aj;have aP:=qC (show A.cell? ⟨i.heap.size,2,O⟩=_ from Cr QB.o) aj;have bU:=qC (show A.cell? ⟨i.heap.size,3,O⟩=_ from Cr QB.o) aj;have bV:=qC (show A.cell? ⟨i.heap.size,4,O⟩=_ from Cr QB.o) aj;have bW:=qC (show A.cell? ⟨i.heap.size,5,O⟩=_ from Cr QB.o) aj;have aX:=OK.o.qu _ (dV ai);have h6:=OK.o.ok.procs;obtain⟨N,Q,n1,wk,er,hw⟩:∃ N Q n1 wk er,sendQ d.Ab[k].kind d.Ab[k].size d.Ab[k].depth d.Ab[k].At s.queues[k].q s.queues[k].wait s.queues[k].lost data=(N,Q,n1,wk,er):=⟨_,_,_,_,_,rfl⟩;have HC:Hq (∀ W,Bl A W→ea prog 49 #[.agg #[.string nm,I U d.Ab[k].kind,.bool d.Ab[k].o,I J d.Ab[k].size,I J d.Ab[k].depth,I J d.Ab[k].At],.agg #[.slice aq s.queues[k].q.length cq,.slice aw s.queues[k].wait.length cw,I J s.queues[k].lost],Y ad data.length cd] W (LJ W N Q n1 (I J wk) (I J er))):=fun W a=>by
    have:=Qq nm d.Ab[k].kind d.Ab[k].o d.Ab[k].size d.Ab[k].depth d.Ab[k].At s.queues[k].lost (Y ad data.length cd) data (.slice aq s.queues[k].q.length cq) (.slice aw s.queues[k].wait.length cw) s.queues[k].q s.queues[k].wait W (bR.rd.below a) (bS.1.below a) (aX.wait.wf h6) (by have:=aX.wait.len;omega) (by have:=aX.len;omega) (fun x hx=>by have:=(aX.msg x hx).1;omega) (bs.o.1.below a) (by omega);rw[hw] at this;exact this
   have HE:Hq (Dc d now k data s=(wakeP d now data [wk] {s with clock:=now,queues:=s.queues.set k ⟨N,Q,n1⟩},er)):=by
    show _=_;rw[b7.o,if_neg aW,getD_at _ _ ai,hw]
   have bo:=aX.Ng (k:=d.Ab[k].kind) (s:=d.Ab[k].size) (d:=d.Ab[k].depth) (r:=d.Ab[k].At) (m:=data) ⟨cL,b4.o⟩;rw[hw] at bo;have cB:Hq (Ah d {s with clock:=now,queues:=s.queues.set k ⟨N,Q,n1⟩}):=cA.o.Ko k bo.1;have cH:Hq (wk<(s.procs.length:Int)):=by rw[show (s.procs.length:Int)=d.procs.length by rw[OK.o.procs]];exact bo.2
   have cz:Hq (∀ m∈N,m≠ []):=fun m hm=>by
    have j:=Nh (k:=d.Ab[k].kind) (z:=d.Ab[k].size) (d:=d.Ab[k].depth) (r:=d.Ab[k].At) (q:=s.queues[k].q) (l:=s.queues[k].wait) (n:=s.queues[k].lost) (m:=data) (x:=m) (by rw[hw];exact hm);rcases j with j|j
    ·exact cF.o _ (dV ai) m j
    ·rw[j];exact bw.o
   clear hw bR bS aX aW bo;clear j hc sl y0 y1 y2;go_upto_region 13 with (fail);clear kx H;refine AS 19 [16] [13,14,17,18] [(10,(fun v w'=>∃ E c2 a3 c3,v=.tuple #[.agg #[Y E N.length c2,Y a3 Q.length c3,I J n1],I J wk,I J er]∧A6 w' A.heap.size (Y E N.length c2) N∧Aq w' A.heap.size (Y a3 Q.length c3) Q)),(15,Bh A.heap.size #[Y O 0 0,Y O 0 0,I J 0] 107)] ⟨(fun v i w2 ⟨E,c2,a3,c3,e,h,h'⟩ a=>⟨E,c2,a3,c3,e,h.below a,h'.below a⟩),Bh.AX,trivial⟩ ?_
   iterate 10 (refine An rfl rfl rfl ?_;intro K hK;go_big_quiet_op;go_big_quiet_on)
   refine A9 rfl rfl (fun w' a hA=>?_) ?_
   ·refine AD (f:=49) (al:=[.agg #[.string nm,I U d.Ab[k].kind,.bool d.Ab[k].o,I J d.Ab[k].size,I J d.Ab[k].depth,I J d.Ab[k].At],.agg #[.slice aq s.queues[k].q.length cq,.slice aw s.queues[k].wait.length cw,I J s.queues[k].lost],Y ad data.length cd]) rfl rfl rfl O0 ?_;exact(HC.o w' a).mono fun e w2 h=>by
     obtain⟨u1,u2,he,ci,hf,bG⟩:=h;obtain⟨E,c2,cR⟩:=ci.C2;obtain⟨a3,c3,cS⟩:=Bc hf;subst cR cS;exact⟨_,he,bG,_,_,_,_,rfl,ci.mono a.size,hf.mono a.size⟩
   intro v w' a hv;obtain⟨E,c2,a3,c3,rfl,cP,bK⟩:=hv;clear a cP bK w';simp only[Au,bd,db,cY]
   iterate 2 (refine An rfl rfl rfl ?_;intro K hK;go_big_quiet_op;go_big_quiet_on)
   iterate 2 (refine Bi rfl rfl rfl ?_;intro K hK;go_big_quiet_op;go_big_quiet_on)
   refine A9 rfl rfl (fun w' a hA=>?_) ?_
   ·exact EY (T #[Y O 0 0,Y O 0 0,I J 0] 107) (by simp[eA,go_sem]) ⟨w'.heap.size,a.size,rfl,df _ _⟩
   intro v w' a hv;obtain⟨q,hq,rfl,V⟩:=hv;clear a hq V w';simp only[Au,bd,db,cY];refine AH rfl ?_
   iterate 2 (refine Bi rfl rfl rfl ?_;intro K hK;go_big_quiet_op;go_big_quiet_on)
   refine AR ?_;intro R S an;have bT:=an 10 _ (by decide) rfl;obtain⟨bP,V⟩:=Bh.at_ (an 15 _ (by decide) rfl);obtain⟨a4,c4,a5,c5,e3,cj,aV⟩:=bT;simp only[eL,eQ,eO,eN,di,true_and,and_true] at e3;obtain⟨⟨rfl,rfl⟩,rfl,rfl⟩:=e3;obtain⟨z0,z1,z2⟩:=r3 V;obtain⟨f0,f1,f2⟩:=f3 V;obtain⟨L,aI⟩:=ex (((R.setCell ⟨q,0,O⟩ (Y E N.length c2)).setCell ⟨q,1,O⟩ (Y a3 Q.length c3)).setCell ⟨q,2,O⟩ (I J n1));refine AI (w':=L) (by rw[aI];simp[eA,go_sem,z0,f0,z1,f1,z2,f2]) ?_;unfold A7;have ay:L=setsAt R q 0 [(0,Y E N.length c2),(1,Y a3 Q.length c3),(2,I J n1)]:=aI;have aY:Hq (Bl A L):=by rw[ay];exact DH bP S _
   have ao:L.heap[q]? =Z (T #[Y E N.length c2,Y a3 Q.length c3,I J n1] 107 (0,0)):=by
    rw[ay];have hh:=Di [(0,Y E N.length c2),(1,Y a3 Q.length c3),(2,I J n1)] V;simp only[Er,bd,db,cY] at hh;exact hh
   have bL:KeepD (fun b=>A.heap.size≤b∧b≠q) R L:=⟨by rw[ay,BO];exact a2 _,fun b a _=>by rw[ay];exact AU a.2 _ _⟩;have bt:Hq (BS L (Mo w D) (Y E N.length c2) N):=((UR cj cz.o V).Ag bL).mono fun b a=>.inr (by omega);have cu:Hq (Bm L (Mo w D) (Y a3 Q.length c3) Q):=(Bm.Ag ⟨aV.1.mono (dc _),US aV.1 V⟩ bL).mono fun b a=>.inr (by omega);clear aV cj bL;clear aI ay S an V z0 f0 z1 f1 z2 f2 aM am af bX bY bZ aN aO aP bU bV bW;have aC:q<L.heap.size:=Aa ao;have j:=bk.o.below aY.o;have am:=j.lt;have af:=j.qu.lt;have cI:s.queues.length≤t.qu.c:=j.qu.cap;have sl:L.cell? ⟨g,12,O⟩=Z (Y (Z ⟨t.qu.b,0,O⟩) s.queues.length t.qu.c):=j.Ib (by show 0<s.queues.length;omega);have aM:=qC sl am;have aN:=qC (show L.cell? ⟨q,0,O⟩=_ from Cr ao) aC;have aO:=qC (show L.cell? ⟨q,1,O⟩=_ from Cr ao) aC;have aP:=qC (show L.cell? ⟨q,2,O⟩=_ from Cr ao) aC;have H1:=HH j;clear j sl ao;go_upto_region 14 with (fail);refine AS 9 [8] [] [] trivial ?_
   iterate 8 (refine An rfl rfl rfl ?_;intro K hK;go_big_quiet_op;go_big_quiet_on)
   refine AH rfl ?_;refine AR ?_;intro R S an;clear an;have h9:=H1.o.below S;have F9:∀ o,R.frozen? ⟨t.qu.b,o,O⟩=false:=h9.qu.frozen (by show 0<s.queues.length;omega);obtain⟨v,u,ak,_,_⟩:=h9.qu.el k ai;have z0:R.cell? ⟨t.qu.b,k*3,O⟩=Z _:=ak 0 _ rfl;have f0:=F9 (k*3);have z1:R.cell? ⟨t.qu.b,k*3+1,O⟩=Z _:=ak 1 _ rfl;have f1:=F9 (k*3+1);have z2:R.cell? ⟨t.qu.b,k*3+2,O⟩=Z _:=ak 2 _ rfl;have f2:=F9 (k*3+2);have aJ:=h9.Jv ai [(0,Y E N.length c2),(1,Y a3 Q.length c3),(2,I J n1)] rfl ak (x:=⟨N,Q,n1⟩) fun w' bH bm=>⟨_,_,bH,(bt.o.Ag (.C9 S)).Ag bm,(cu.o.Ag (.C9 S)).Ag bm⟩;obtain⟨W3,aB⟩:=ex (((R.setCell ⟨t.qu.b,k*3,O⟩ (Y E N.length c2)).setCell ⟨t.qu.b,k*3+1,O⟩ (Y a3 Q.length c3)).setCell ⟨t.qu.b,k*3+2,O⟩ (I J n1));refine AI (w':=W3) (by rw[aB];simp[eA,go_sem,z0,f0,z1,f1,z2,f2]) ?_;unfold A7;have bj:Hq (PA W3 (Mo w D) g d t {s with clock:=now,queues:=s.queues.set k ⟨N,Q,n1⟩}):=by rw[aB];exact aJ.1
   have a1:Hq (Upd (Mut g t) A W3):=by rw[aB];exact((Upd.below aY.o).trans (Upd.below S)).trans aJ.2
   clear aB aJ ak F9 h9 S z0 f0 z1 f1 z2 f2 aM am af aN aO aP aC;have cy:=HH ((HG.o.BG a0.o fun b a=>bu.o b (aQ.o b (GQ b a))).BG a1.o fun b a=>bu.o b (aQ.o b (GQ b a)));have cC:Hq (Fj (W3.alloc (T #[I J wk] 3)) (NM g t) (Y (Z ⟨W3.heap.size,0,O⟩) 1 1) [wk]):=by
    have j:One W3.heap.size (I J wk) 3 (Y (Z ⟨W3.heap.size,0,O⟩) 1 1) (W3.alloc (T #[I J wk] 3)):=⟨W3.heap.size,a2 _,rfl,df W3 _⟩;have h2:=j.sl (D:=NM g t) (fun b a=>EF bj.o a);exact⟨h2.1,h2.2⟩
   have bb:Bl W3 (W3.alloc (T #[I J wk] 3)):=(bc _ W3).alloc (a2 _) _;obtain⟨b3,cr⟩:=H2 (IG B (W3.alloc (T #[I J wk] 3)) (Mo w D) g d t _ now (Y ad data.length cd) (Y (Z ⟨W3.heap.size,0,O⟩) 1 1) data [wk] (cy.o.below bb) (fun b a=>bu.o b (aQ.o b (GQ b a))) (bj.o.below bb) cB.o ((bs.o.Ag (KeepD.nm a1.o)).Ag (KeepD.C9 bb)) cC.o (by omega) b4.o (by simp) (fun z hz=>by simp only[be] at hz;subst hz;exact cH.o) cf (by omega)) bb;clear bb;go_wp2_with fail;refine b3.o.mono ?_;rintro e w5 ⟨rfl,p5,u5⟩;obtain⟨cD,cG⟩:=H2 p5 u5;clear p5 u5 b3;go_wp2_with fail;go_ret;rw[HE.o];exact⟨rfl,PX.F6 HL.o b5.o aQ.o cD.o ((a0.o.trans a1.o).trans ((Upd.below cr.o).trans cG.o))⟩
def QV(w:dU)(F:Nat→Prop)(g:Nat)(d:Ad)(r:Ae×List (List Int)×Int)(e:Ending)(w':dU):Prop:=
 ∃ v,e=.returned (.tuple #[v,I J r.2.2])∧BS w' (Gr w w' F) v r.2.1∧PX w' (Gr w w' F) g d r.1∧Fr F w w'
def Sp(B:Nat)(w:dU)(F:Nat→Prop)(g:Nat)(d:Ad)(s:Ae)(az:Int)(aY:Gl B w)(a8:∀ b,F b→B≤b)(h:PX w F g d s)(ok:Ah d s):
  ea prog 21 #[G (Z ⟨g,0,O⟩),I J az] w (QV w F g d (ET d az s)):=by
 have HX:=HH h;obtain⟨hl,f,D,hp,a7,a6⟩:=h;have a5:w.cell? ⟨g,20,O⟩=Z (.bool true):=hp.cell 20;obtain⟨HL,HP,aE,aZ,HG,bw,OK,ai⟩:=H8 hl hp a7 a6 aY a8 ok (PR w D g d f s az true hp);clear hl hp a7 a6 aY a8 ok;cases ag:Ek d az true with
 |none=>
  have HE:Hq (ET d az s=(s,[],2)):=by
   show _=_;unfold ET;rw[ag]
  rw[ag] at ai;clear ag;go_enter func21,ntmps21;go_wp2_with fail;refine ai.o.mono ?_;rintro e w1 ⟨rfl,ap⟩;have an:=HH ap;clear ap ai a5;go_wp2_with fail;refine eI (v:=.tuple #[Y O 0 0,I J 2]) (by simp[eS,results21,go_sem]) rfl ?_;rw[HE.o];have r:Bl w (w1.alloc (T #[.string ⟨#[]⟩,I U 0,.bool false,I J 0,I J 0,I J 0] 62)):=an.o.alloc an.o.size _;exact⟨_,rfl,BS.nil,HX.o.Iw r,Fr.below r⟩
 |some p=>
  obtain⟨k,hk,rfl,rfl,bo⟩:=Lj ag;rw[ag] at ai;have bh:=HH ag;clear ag bo;have ak:k<s.samples.length:=by have:=OK.o.samples;omega
  have aj:k<s.queues.length:=by have:=OK.o.queues;omega
  have bC:(k:Int)<(s.samples.length:Int):=by omega
  have bD:(k:Int)<(s.queues.length:Int):=by omega
  have HE:Hq (ET d k s=({s with queues:=s.queues.set k {s.queues[k] with q:=[]},samples:=s.samples.set k ⟨[],0,false⟩},if s.samples[k].has then [s.samples[k].data] else s.queues[k].q,0)):=by
   show _=_;unfold ET;rw[bh.o];simp only[eq,getD_at _ _ ak,getD_at _ _ aj]
  go_enter func21,ntmps21;go_wp2_with fail;refine ai.o.mono ?_;rintro e w1 ⟨⟨nm,rfl⟩,ap⟩;have an:=HH ap;clear ap ai a5;go_upto_region 6 with (fail);obtain⟨y,aP⟩:=ex (w1.alloc (T #[.string nm,I U d.Ab[k].kind,.bool d.Ab[k].o,I J d.Ab[k].size,I J d.Ab[k].depth,I J d.Ab[k].At] 62));rw[←aP];have am:Hq (Bl w y):=by rw[aP];exact an.o.alloc an.o.size _
  clear aP;have S:=HP.o.mo.below am.o;have a3:=S.Ic (by omega);have a4:=S.Ib (by omega);have bz:=S.sa.cap;have bA:=S.qu.cap;obtain⟨v,hc,hr⟩:=S.sa.el k ak;obtain⟨W,X,rfl,_,_,_⟩:=hr.1.open_;obtain⟨vq,u,ba,aT,br⟩:=S.qu.el k aj;obtain⟨aq,cq,rfl⟩:=aT.rd.C2;have yq:y.cell? ⟨f.qu.b,k*3,O⟩=Z (.slice aq s.queues[k].q.length cq):=ba 0 _ rfl;obtain⟨y0,y1,y2⟩:=EO hc;obtain⟨ao,HR,bj⟩:=H3 S hr aT;clear S hc hr ba aT br;cases C:s.samples[k].has with
  |true=>
   rw[C] at y2;have aJ:=HH C;clear C;go_upto_region 10 with (fail);clear a3 a4 yq y0 y1 y2;obtain⟨Q,R⟩:=ex ((y.alloc (T #[.slice W s.samples[k].data.length X,I J s.samples[k].at_,.bool true] 114)).alloc (T #[.slice W s.samples[k].data.length X] 34));rw[←R];have H:Hq (Bl y Q):=by
    rw[R];exact DX y _ _
   have a1:Hq (Q.heap[y.heap.size+1]? =Z (T #[.slice W s.samples[k].data.length X] 34 (0,0))):=by
    rw[R];exact(Da y _ _).2
   clear R;have l:=ao.o.below H.o;have ar:=l.lt;have aA:=l.Ic (by omega);have aB:=l.Ib (by omega);have bu:=l.sa.lt;have bq:=l.qu.lt;have bm:f.sa.b≠g:=by
    obtain⟨cs,ad,_⟩:=l.sa.blk (by omega);exact DT ad l.blk (by decide)
   have bn:f.qu.b≠g:=by
    obtain⟨cs,ad,_⟩:=l.qu.blk (by omega);exact DT ad l.blk (by decide)
   have q12:=qC aB ar;have q11:=qC aA ar;have H2:=HH l;clear l aA aB;refine AS 18 [15,17] [11,12,16] [] trivial ?_
   iterate 11 (refine An rfl rfl rfl ?_;intro K hK;go_big_quiet_op;go_big_quiet_on)
   iterate 2 (refine Bi rfl rfl rfl ?_;intro K hK;go_big_quiet_op;go_big_quiet_on)
   iterate 2 (refine An rfl rfl rfl ?_;intro K hK;go_big_quiet_op;go_big_quiet_on)
   refine AH rfl ?_
   iterate 1 (refine Bi rfl rfl rfl ?_;intro K hK;go_big_quiet_op;go_big_quiet_on)
   refine AH rfl ?_;refine AR ?_;intro w9 aa aV;clear aV q11 q12;have L:=H2.o.below aa;have F9:∀ o,w9.frozen? ⟨f.qu.b,o,O⟩=false:=L.qu.frozen (by omega);obtain⟨v9,u9,m,aS,ay⟩:=L.qu.el k aj;have A:w9.cell? ⟨f.qu.b,k*3,O⟩=Z _:=m 0 _ rfl;have f0:=F9 (k*3);have ae:=L.Jv aj [(0,Y O 0 0)] rfl m (x:={s.queues[k] with q:=[]}) fun w' ac au=>⟨_,_,ac,BS.nil,ay.Ag au⟩;obtain⟨W3,M⟩:=ex (w9.setCell ⟨f.qu.b,k*3,O⟩ (Y O 0 0));refine AI (w':=W3) (by rw[M];simp[eA,go_sem,A,f0]) ?_;have V:Hq (PA W3 (Mo w D) g d f {s with queues:=s.queues.set k {s.queues[k] with q:=[]}}):=by rw[M];exact ae.1
   have aL:Hq (Upd (Mut g f) Q W3):=by rw[M];exact(Upd.below aa).trans ae.2
   clear ae m aS ay F9 L A f0 M aa;have E:∀ o,W3.frozen? ⟨f.sa.b,o,O⟩=false:=V.o.sa.frozen (by show 0<s.samples.length;omega);obtain⟨v9,m,_⟩:=V.o.sa.el k ak;have A:W3.cell? ⟨f.sa.b,k*3,O⟩=Z _:=m 0 _ rfl;have f0:=E (k*3);have z1:W3.cell? ⟨f.sa.b,k*3+1,O⟩=Z _:=m 1 _ rfl;have f1:=E (k*3+1);have z2:W3.cell? ⟨f.sa.b,k*3+2,O⟩=Z _:=m 2 _ rfl;have f2:=E (k*3+2);have af:=V.o.Lt ak [(0,Y O 0 0),(1,I J 0),(2,.bool false)] rfl m (x:=⟨[],0,false⟩) fun w' ac au=>⟨_,ac,A4.nil⟩;obtain⟨t,N⟩:=ex (((W3.setCell ⟨f.sa.b,k*3,O⟩ (Y O 0 0)).setCell ⟨f.sa.b,k*3+1,O⟩ (I J 0)).setCell ⟨f.sa.b,k*3+2,O⟩ (.bool false));refine AI (w':=t) (by rw[N];simp[eA,go_sem,A,f0,z1,f1,z2,f2]) ?_;unfold A7;have aK:Hq (PA t (Mo w D) g d f {s with queues:=s.queues.set k {s.queues[k] with q:=[]},samples:=s.samples.set k ⟨[],0,false⟩}):=by rw[N];exact af.1
   have P:Hq (Upd (Mut g f) Q t):=by rw[N];exact aL.o.trans af.2
   clear af m E N A f0 z1 f1 z2 f2;go_wp2_with fail;refine eI (v:=.tuple #[Y (Z ⟨y.heap.size+1,0,O⟩) 1 1,I J 0]) (by simp[eS,results21,go_sem]) rfl ?_;rw[HE.o];have z:Upd (Mut g f) w t:=((Upd.below am.o).trans (Upd.below H.o)).trans P.o;have ax:=PX.F6 HL.o aE.o aZ.o aK.o z;have bs:=am.o.size;have bt:=H.o.size;have aU:=P.o.size;have C:(if s.samples[k].has=true then [s.samples[k].data] else s.queues[k].q)=[s.samples[k].data]:=if_pos aJ.o;refine⟨_,rfl,?_,ax.1,ax.2⟩;show BS t (Gr w t F) _ (if s.samples[k].has=true then [s.samples[k].data] else s.queues[k].q);rw[C];have bl:=Aa a1.o;have bp:t.heap[y.heap.size+1]? =Z (T #[.slice W s.samples[k].data.length X] 34 (0,0)):=(P.o.block _ bl (fun hm=>by have:=ao.o.Ke _ hm;omega)).trans a1.o;have aQ:A4 t (Mo w D) (.slice W s.samples[k].data.length X) s.samples[k].data:=(HR.o.Ag (KeepD.C9 H.o)).Ag ⟨aU,fun b r ab=>P.o.block b ab fun hm=>ao.o.P2 b r hm⟩;refine⟨[.slice W s.samples[k].data.length X],?_,?_,?_⟩
   ·exact⟨_,1,rfl,a2 _,by simp,by simp,fun _=>⟨y.heap.size+1,0,rfl,dc _,by omega,fun j u z=>by
     rw[Cr bp]
     match j,z with
     |0,z=>simpa using z⟩⟩
   ·intro a n c hv _;simp only[di] at hv;obtain⟨rfl,_,_⟩:=hv.1;exact .inr ⟨by show w.heap.size≤y.heap.size+1;omega,by show y.heap.size+1<_;omega⟩
   ·intro i u x z hx
    match i,z,hx with
    |0,z,hx=>
     simp only[List.getElem?_cons_zero,eB] at z hx;subst z hx;refine aQ.swap fun b ab r=>?_
     rcases r with r|r
     ·exact .inl (aE.o b r)
     ·exact .inr ⟨r,ab⟩
  |false=>
   rw[C] at y2;have aJ:=HH C;clear C;go_upto_region 10 with (fail);clear a3 a4 yq y0 y1 y2;obtain⟨Q,R⟩:=ex (y.alloc (T #[.slice W s.samples[k].data.length X,I J s.samples[k].at_,.bool false] 114));rw[←R];have H:Hq (Bl y Q):=by
    rw[R];exact(bc _ y).alloc (a2 _) _
   clear R;have l:=ao.o.below H.o;have ar:=l.lt;have aA:=l.Ic (by omega);have aB:=l.Ib (by omega);have bu:=l.sa.lt;have bq:=l.qu.lt;have bm:f.sa.b≠g:=by
    obtain⟨cs,ad,_⟩:=l.sa.blk (by omega);exact DT ad l.blk (by decide)
   have bn:f.qu.b≠g:=by
    obtain⟨cs,ad,_⟩:=l.qu.blk (by omega);exact DT ad l.blk (by decide)
   have q12:=qC aB ar;have q11:=qC aA ar;have H2:=HH l;clear l aA aB;refine AS 18 [15,17] [11,12,16] [] trivial ?_
   iterate 11 (refine An rfl rfl rfl ?_;intro K hK;go_big_quiet_op;go_big_quiet_on)
   iterate 2 (refine Bi rfl rfl rfl ?_;intro K hK;go_big_quiet_op;go_big_quiet_on)
   iterate 2 (refine An rfl rfl rfl ?_;intro K hK;go_big_quiet_op;go_big_quiet_on)
   refine AH rfl ?_
   iterate 1 (refine Bi rfl rfl rfl ?_;intro K hK;go_big_quiet_op;go_big_quiet_on)
   refine AH rfl ?_;refine AR ?_;intro w9 aa aV;clear aV q11 q12;have L:=H2.o.below aa;have F9:∀ o,w9.frozen? ⟨f.qu.b,o,O⟩=false:=L.qu.frozen (by omega);obtain⟨v9,u9,m,aS,ay⟩:=L.qu.el k aj;have A:w9.cell? ⟨f.qu.b,k*3,O⟩=Z _:=m 0 _ rfl;have f0:=F9 (k*3);have ae:=L.Jv aj [(0,Y O 0 0)] rfl m (x:={s.queues[k] with q:=[]}) fun w' ac au=>⟨_,_,ac,BS.nil,ay.Ag au⟩;obtain⟨W3,M⟩:=ex (w9.setCell ⟨f.qu.b,k*3,O⟩ (Y O 0 0));refine AI (w':=W3) (by rw[M];simp[eA,go_sem,A,f0]) ?_;have V:Hq (PA W3 (Mo w D) g d f {s with queues:=s.queues.set k {s.queues[k] with q:=[]}}):=by rw[M];exact ae.1
   have aL:Hq (Upd (Mut g f) Q W3):=by rw[M];exact(Upd.below aa).trans ae.2
   clear ae m aS ay F9 L A f0 M aa;have E:∀ o,W3.frozen? ⟨f.sa.b,o,O⟩=false:=V.o.sa.frozen (by show 0<s.samples.length;omega);obtain⟨v9,m,_⟩:=V.o.sa.el k ak;have A:W3.cell? ⟨f.sa.b,k*3,O⟩=Z _:=m 0 _ rfl;have f0:=E (k*3);have z1:W3.cell? ⟨f.sa.b,k*3+1,O⟩=Z _:=m 1 _ rfl;have f1:=E (k*3+1);have z2:W3.cell? ⟨f.sa.b,k*3+2,O⟩=Z _:=m 2 _ rfl;have f2:=E (k*3+2);have af:=V.o.Lt ak [(0,Y O 0 0),(1,I J 0),(2,.bool false)] rfl m (x:=⟨[],0,false⟩) fun w' ac au=>⟨_,ac,A4.nil⟩;obtain⟨t,N⟩:=ex (((W3.setCell ⟨f.sa.b,k*3,O⟩ (Y O 0 0)).setCell ⟨f.sa.b,k*3+1,O⟩ (I J 0)).setCell ⟨f.sa.b,k*3+2,O⟩ (.bool false));refine AI (w':=t) (by rw[N];simp[eA,go_sem,A,f0,z1,f1,z2,f2]) ?_;unfold A7;have aK:Hq (PA t (Mo w D) g d f {s with queues:=s.queues.set k {s.queues[k] with q:=[]},samples:=s.samples.set k ⟨[],0,false⟩}):=by rw[N];exact af.1
   have P:Hq (Upd (Mut g f) Q t):=by rw[N];exact aL.o.trans af.2
   clear af m E N A f0 z1 f1 z2 f2;go_wp2_with fail;refine eI (v:=.tuple #[.slice aq s.queues[k].q.length cq,I J 0]) (by simp[eS,results21,go_sem]) rfl ?_;rw[HE.o];have z:Upd (Mut g f) w t:=((Upd.below am.o).trans (Upd.below H.o)).trans P.o;have ax:=PX.F6 HL.o aE.o aZ.o aK.o z;have bs:=am.o.size;have bt:=H.o.size;have aU:=P.o.size;have C:(if s.samples[k].has=true then [s.samples[k].data] else s.queues[k].q)=s.queues[k].q:=if_neg (by rw[aJ.o];simp);refine⟨_,rfl,?_,ax.1,ax.2⟩;show BS t (Gr w t F) _ (if s.samples[k].has=true then [s.samples[k].data] else s.queues[k].q);rw[C];have aQ:BS t (Mo w D) (.slice aq s.queues[k].q.length cq) s.queues[k].q:=(bj.o.Ag (KeepD.C9 H.o)).Ag ⟨aU,fun b r ab=>P.o.block b ab fun hm=>ao.o.P2 b r hm⟩;refine aQ.swap fun b ab r=>?_
   rcases r with r|r
   ·exact .inl (aE.o b r)
   ·exact .inr ⟨r,ab⟩
def Hs:(prog.info? 3).map (fun i=>(i.zero,i.size,i.bytes))=Z (Z (I J 0),1,8):=by kernel_rfl
def Sg(v:ef)(n:Nat)(f:List ef)(w:dU)(h:Sl w 0 12 v n f)(S:n≤1000000)(t:∀ u∈f,u.oneCell'=true):
  ea prog 26 #[v] w fun e w'=>∃ g,e=.returned g∧w'.ownsRow w.heap.size 51 12 g n f∧Bl w w':=by
 obtain⟨C,cap,rfl,W,l,z,m⟩:=h;obtain⟨R,H,N,P,Q⟩:=eE OW;have q:∀ (w:dU) (a:Option eF) (n c r i:Nat),(binOp .eql 33 (Y a n c) (Y O r i)).run prog w=.ok (.bool a.isNone) w:=fun w a n c r i=>eg w _ _ a n c r i underlying33
 obtain⟨p,B⟩:=H2 z t;clear z t;cases C with
 |none=>
  have d:n=0:=by have:=l rfl;omega
  subst d;have M:f=[]:=dd (by have:=p.o;omega);clear m l;go_enter func26,ntmps26;go_wp2;go_ret;subst M;exact⟨_,rfl,eo _ _ _ _,bc _ _⟩
 |some s=>
  have A:Hq (∀ j u,f[j]? =Z u→w.cell? (s.add j)=Z u):=by
   intro j u y;have V:=(bJ.1 y).1;have d:0<n:=by
    rcases en n with d|d
    ·have:=p.o;rw[d] at this;omega
    ·exact d
   obtain⟨b,aa,D,_,_,E⟩:=m d;cases D;rw[Cu];exact E j u y
  clear m l;go_enter func26,ntmps26;go_wp2_with (at_builtin;refine et _ rfl _ _ 33 rfl w.heap.size 51 R (.agg #[I U 0,I J 0,I J 0,I U 0,I U 0,I U 0,I U 0,I J 0,I J 0,I J 0,I U 0,I J 0]) 12 72 underlying33 H N P Q rfl (by decide) _ _ _ rfl (em w #[] 0 (a2 _) (dc _) (by simp)) s n cap f rfl ?qc1 ?qc2 ?qc3 ?qc4 ?qc5 ?qc6 ?_)
  case qc1=>exact p.o
  case qc2=>
   intro j u x;exact(eh _ _ _ (dZ _ _ (A.o j u x))).trans (A.o j u x)
  case qc3=>exact B.o
  case qc4=>unfold eR;omega
  case qc5=>omega
  case qc6=>simp
  intro g w1 L F X;go_wp2;go_ret;exact⟨g,rfl,by simpa using L,((bc _ w).alloc (a2 _) _).grown F (by simp) (by intro k K;simp[eu] at K;omega)⟩
def Z1(x:BU)(a b:Option eF)(n c d c2:Nat)(w:dU):ea prog 29 #[.agg #[I J x.count,Y a n c]] w fun e w'=>e=.returned (I J x.count)∧Bl w w':=by
 go_enter func29,ntmps29;go_wp2;go_ret;exact⟨rfl,(bc _ w).alloc (a2 _) _⟩
def DJ(x:BU):Int:=x.count
def SZ(w:dU)(D:Nat→Prop)(b:Nat)(a:Option eF)(c:Nat)(l:List BU)(h:Am w D b 95 2 a c ElSe l)(N:l.length≤1000):
  ea prog 28 #[Y a l.length c,.func (.func 29) #[] #[]] w fun e w'=>∃ v,e=.returned v∧w'.ownsRow w.heap.size 3 1 v l.length ((l.map DJ).map (aG J))∧Bl w w':=by
 have H:=HH h;clear h;go_enter func28,ntmps28;go_wp2_with fail
 go_loopw [5,7,10] (fun s5 _ am wr=>∃ k:Nat,k≤l.length∧am=I J k∧∃ p r,s5=Y p k r∧Hq (Bl w wr∧wr.ownsRow w.heap.size 3 1 (Y p k r) k (((l.take k).map DJ).map (aG J)))) (fun _ _ v _=>l.length-(eD v).toNat)
 case atStart=>exact⟨0,dc _,rfl,O,0,rfl,bc _ w,by simp,.inl ⟨rfl,rfl⟩⟩
 case round=>
  obtain⟨k,ao,rfl,p,r,rfl,A⟩:=hrel;by_cases M:k<l.length
  ·have ap:(k:Int)<(l.length:Int):=by omega
   obtain⟨d,n⟩:=A.o;have s:=H.o.below F4 d;have ak:=s.ptr (by omega);have cap:=s.cap;obtain⟨v,L,S⟩:=s.el k M;obtain⟨g,i,rfl,_,_,_⟩:=S.1.open_;obtain⟨y0,y1⟩:=cc2 L;rw[ak];obtain⟨z,B⟩:=ex (DJ l[k]);have HC:Hq (ea prog 29 #[.agg #[I J l[k].count,.slice g l[k].wait.length i]] (wr.alloc (T #[I J l[k].count,.slice g l[k].wait.length i] 95)) fun e w'=>e=.returned (I J z)∧Below (wr.alloc (T #[I J l[k].count,.slice g l[k].wait.length i] 95)).heap.size (wr.alloc (T #[I J l[k].count,.slice g l[k].wait.length i] 95)) w'):=by
    show ea _ _ _ _ _;rw[B];exact Z1 l[k] g O l[k].wait.length i 0 0 (wr.alloc (T #[I J l[k].count,.slice g l[k].wait.length i] 95))
   have K:Bl w (wr.alloc (T #[I J l[k].count,.slice g l[k].wait.length i] 95)):=d.alloc d.size _;have R:(wr.alloc (T #[I J l[k].count,.slice g l[k].wait.length i] 95)).ownsRow w.heap.size 3 1 (Y p k r) k (((l.take k).map DJ).map (aG J)):=Bp n fun b _ d=>aH _ _ _ d
   obtain⟨E,ag⟩:=H2 K R;have aq:w.heap.size≤wr.heap.size:=d.size;have HZ:=HH B;clear A d n s L S K R B;go_wp2_with fail;refine HC.o.mono ?_;rintro e t ⟨rfl,x⟩;have f:=E.o.trans (x.mono E.o.size);have y:=Bp ag.o (w':=t) fun b _ N=>x.block b N
   obtain⟨F,c3,C,V,Q,m⟩:=Gv (W:=t.alloc (T #[I J z] 3)) (q:=t.heap.size) (new:=[I J z]) (Bp y fun b _ d=>aH _ _ _ d) underlying22 Hs rfl (by decide) (by have:=f.size;simp;omega) (by omega) (by decide) (df _ _) rfl (by intro u hu;simp only[be] at hu;subst hu;rfl) 22;have P:=fun b=>F8 (b:=b) y;have X:=m.size;have al:t.heap.size+1≤C.heap.size:=by simpa using X
   have ac:Hq (Bl w C):=⟨m.os.trans f.os,m.tape.trans f.tape,m.output.trans f.output,by have:=f.size;omega,fun j hj=>(m.block j (by have:=f.size;simp;omega) (fun e=>by have:=(P j e.symm).1;omega)).trans ((aH _ _ _ (by have:=f.size;omega)).trans (f.block j hj))⟩;have af:Hq (C.ownsRow w.heap.size 3 1 (Y F (k+1) c3) (k+1) (((l.take (k+1)).map DJ).map (aG J))):=by
    have e:((l.take (k+1)).map DJ).map (aG J)=((l.take k).map DJ).map (aG J)++ [I J z]:=by
     rw[HZ.o];simp only[de M,ed,ee,ep]
    show eC _ _ _ _ _ _ _;rw[e];exact Q
   have ah:=HH V;clear f y x V Q m P X al;go_wp2_with (at_builtin;refine dh _ rfl _ _ _ _ rfl _ _ rfl rfl _ _ ah.o ?_)
   go_roundw
   case rel=>exact⟨k+1,by omega,by go_num,F,c3,rfl,ac.o,af.o⟩
   case measure=>simp[eD];omega
  ·obtain rfl:k=l.length:=by omega
   obtain⟨d,n⟩:=A.o;rw[es] at n;obtain⟨HB,HO⟩:=H2 d n;clear A d n;go_wp2_with fail;go_ret;exact⟨_,rfl,HO.o,HB.o⟩
def Zz(x:C3)(a b:Option eF)(n c f c2:Nat)(w:dU):ea prog 31 #[.agg #[.bool x.up,Y a n c]] w fun e w'=>e=.returned (I J (if x.up then(1:Int) else 0))∧Bl w w':=by
 cases d:x.up with
 |true=>
  go_enter func31,ntmps31;go_wp2;go_ret;exact⟨by simp,(bc _ w).alloc (a2 _) _⟩
 |false=>
  go_enter func31,ntmps31;go_wp2;go_ret;exact⟨by simp,(bc _ w).alloc (a2 _) _⟩
def Fp(x:C3):Int:=(if x.up then(1:Int) else 0)
def SX(w:dU)(D:Nat→Prop)(b:Nat)(a:Option eF)(c:Nat)(l:List C3)(h:Am w D b 99 2 a c ElEv l)(N:l.length≤1000):
  ea prog 30 #[Y a l.length c,.func (.func 31) #[] #[]] w fun e w'=>∃ v,e=.returned v∧w'.ownsRow w.heap.size 3 1 v l.length ((l.map Fp).map (aG J))∧Bl w w':=by
 have H:=HH h;clear h;go_enter func30,ntmps30;go_wp2_with fail
 go_loopw [5,7,10] (fun s5 _ am wr=>∃ k:Nat,k≤l.length∧am=I J k∧∃ p r,s5=Y p k r∧Hq (Bl w wr∧wr.ownsRow w.heap.size 3 1 (Y p k r) k (((l.take k).map Fp).map (aG J)))) (fun _ _ v _=>l.length-(eD v).toNat)
 case atStart=>exact⟨0,dc _,rfl,O,0,rfl,bc _ w,by simp,.inl ⟨rfl,rfl⟩⟩
 case round=>
  obtain⟨k,ao,rfl,p,r,rfl,A⟩:=hrel;by_cases M:k<l.length
  ·have ap:(k:Int)<(l.length:Int):=by omega
   obtain⟨d,n⟩:=A.o;have s:=H.o.below Fv d;have ak:=s.ptr (by omega);have cap:=s.cap;obtain⟨v,L,S⟩:=s.el k M;obtain⟨g,i,rfl,_,_,_⟩:=S.1.open_;obtain⟨y0,y1⟩:=cc2 L;rw[ak];obtain⟨z,B⟩:=ex (Fp l[k]);have HC:Hq (ea prog 31 #[.agg #[.bool l[k].up,.slice g l[k].wait.length i]] (wr.alloc (T #[.bool l[k].up,.slice g l[k].wait.length i] 99)) fun e w'=>e=.returned (I J z)∧Below (wr.alloc (T #[.bool l[k].up,.slice g l[k].wait.length i] 99)).heap.size (wr.alloc (T #[.bool l[k].up,.slice g l[k].wait.length i] 99)) w'):=by
    show ea _ _ _ _ _;rw[B];exact Zz l[k] g O l[k].wait.length i 0 0 (wr.alloc (T #[.bool l[k].up,.slice g l[k].wait.length i] 99))
   have K:Bl w (wr.alloc (T #[.bool l[k].up,.slice g l[k].wait.length i] 99)):=d.alloc d.size _;have R:(wr.alloc (T #[.bool l[k].up,.slice g l[k].wait.length i] 99)).ownsRow w.heap.size 3 1 (Y p k r) k (((l.take k).map Fp).map (aG J)):=Bp n fun b _ d=>aH _ _ _ d
   obtain⟨E,ag⟩:=H2 K R;have aq:w.heap.size≤wr.heap.size:=d.size;have HZ:=HH B;clear A d n s L S K R B;go_wp2_with fail;refine HC.o.mono ?_;rintro e t ⟨rfl,x⟩;have f:=E.o.trans (x.mono E.o.size);have y:=Bp ag.o (w':=t) fun b _ N=>x.block b N
   obtain⟨F,c3,C,V,Q,m⟩:=Gv (W:=t.alloc (T #[I J z] 3)) (q:=t.heap.size) (new:=[I J z]) (Bp y fun b _ d=>aH _ _ _ d) underlying22 Hs rfl (by decide) (by have:=f.size;simp;omega) (by omega) (by decide) (df _ _) rfl (by intro u hu;simp only[be] at hu;subst hu;rfl) 22;have P:=fun b=>F8 (b:=b) y;have X:=m.size;have al:t.heap.size+1≤C.heap.size:=by simpa using X
   have ac:Hq (Bl w C):=⟨m.os.trans f.os,m.tape.trans f.tape,m.output.trans f.output,by have:=f.size;omega,fun j hj=>(m.block j (by have:=f.size;simp;omega) (fun e=>by have:=(P j e.symm).1;omega)).trans ((aH _ _ _ (by have:=f.size;omega)).trans (f.block j hj))⟩;have af:Hq (C.ownsRow w.heap.size 3 1 (Y F (k+1) c3) (k+1) (((l.take (k+1)).map Fp).map (aG J))):=by
    have e:((l.take (k+1)).map Fp).map (aG J)=((l.take k).map Fp).map (aG J)++ [I J z]:=by
     rw[HZ.o];simp only[de M,ed,ee,ep]
    show eC _ _ _ _ _ _ _;rw[e];exact Q
   have ah:=HH V;clear f y x V Q m P X al;go_wp2_with (at_builtin;refine dh _ rfl _ _ _ _ rfl _ _ rfl rfl _ _ ah.o ?_)
   go_roundw
   case rel=>exact⟨k+1,by omega,by go_num,F,c3,rfl,ac.o,af.o⟩
   case measure=>simp[eD];omega
  ·obtain rfl:k=l.length:=by omega
   obtain⟨d,n⟩:=A.o;rw[es] at n;obtain⟨HB,HO⟩:=H2 d n;clear A d n;go_wp2_with fail;go_ret;exact⟨_,rfl,HO.o,HB.o⟩
def Zx(x:BE)(a b:Option eF)(n c h c2:Nat)(w:dU)(d:0≤x.val∧x.val≤255):ea prog 33 #[.agg #[.bool x.has,I U x.val,Y a n c]] w fun e w'=>e=.returned (I J (if x.has then x.val else-1))∧Bl w w':=by
 have f:IntKind.i64.wrap x.val=x.val:=by rw[IntKind.wrap_i64];omega
 cases g:x.has with
 |true=>
  go_enter func33,ntmps33;go_wp2;go_ret;exact⟨by simp,(bc _ w).alloc (a2 _) _⟩
 |false=>
  go_enter func33,ntmps33;go_wp2;go_ret;exact⟨by simp,(bc _ w).alloc (a2 _) _⟩
def FO(x:BE):Int:=(if x.has then x.val else-1)
def SU(w:dU)(D:Nat→Prop)(b:Nat)(a:Option eF)(c:Nat)(l:List BE)(h:Am w D b 103 3 a c ElBo l)(P:l.length≤1000)(hv:∀ x∈l,0≤x.val∧x.val≤255):
  ea prog 32 #[Y a l.length c,.func (.func 33) #[] #[]] w fun e w'=>∃ v,e=.returned v∧w'.ownsRow w.heap.size 3 1 v l.length ((l.map FO).map (aG J))∧Bl w w':=by
 obtain⟨H,HV⟩:=H2 h hv;clear h hv;go_enter func32,ntmps32;go_wp2_with fail
 go_loopw [5,7,10] (fun s5 _ ap wr=>∃ k:Nat,k≤l.length∧ap=I J k∧∃ p r,s5=Y p k r∧Hq (Bl w wr∧wr.ownsRow w.heap.size 3 1 (Y p k r) k (((l.take k).map FO).map (aG J)))) (fun _ _ v _=>l.length-(eD v).toNat)
 case atStart=>exact⟨0,dc _,rfl,O,0,rfl,bc _ w,by simp,.inl ⟨rfl,rfl⟩⟩
 case round=>
  obtain⟨k,au,rfl,p,r,rfl,A⟩:=hrel;by_cases B:k<l.length
  ·have aw:(k:Int)<(l.length:Int):=by omega
   obtain⟨d,n⟩:=A.o;have s:=H.o.below Ft d;have an:=s.ptr (by omega);have cap:=s.cap;obtain⟨v,N,V⟩:=s.el k B;obtain⟨g,i,rfl,_,_,_⟩:=V.1.open_;obtain⟨y0,y1,y2⟩:=EO N;rw[an];obtain⟨z,E⟩:=ex (FO l[k]);have HC:Hq (ea prog 33 #[.agg #[.bool l[k].has,I U l[k].val,.slice g l[k].wait.length i]] (wr.alloc (T #[.bool l[k].has,I U l[k].val,.slice g l[k].wait.length i] 103)) fun e w'=>e=.returned (I J z)∧Below (wr.alloc (T #[.bool l[k].has,I U l[k].val,.slice g l[k].wait.length i] 103)).heap.size (wr.alloc (T #[.bool l[k].has,I U l[k].val,.slice g l[k].wait.length i] 103)) w'):=by
    show ea _ _ _ _ _;rw[E];exact Zx l[k] g O l[k].wait.length i 0 0 (wr.alloc (T #[.bool l[k].has,I U l[k].val,.slice g l[k].wait.length i] 103)) (HV.o _ (dV B))
   have M:Bl w (wr.alloc (T #[.bool l[k].has,I U l[k].val,.slice g l[k].wait.length i] 103)):=d.alloc d.size _;have S:(wr.alloc (T #[.bool l[k].has,I U l[k].val,.slice g l[k].wait.length i] 103)).ownsRow w.heap.size 3 1 (Y p k r) k (((l.take k).map FO).map (aG J)):=Bp n fun b _ d=>aH _ _ _ d
   obtain⟨K,ai⟩:=H2 M S;have ax:w.heap.size≤wr.heap.size:=d.size;have HZ:=HH E;clear A d n s N V M S E;go_wp2_with fail;refine HC.o.mono ?_;rintro e t ⟨rfl,y⟩;have f:=K.o.trans (y.mono K.o.size);have C:=Bp ai.o (w':=t) fun b _ P=>y.block b P
   obtain⟨L,c3,F,X,R,m⟩:=Gv (W:=t.alloc (T #[I J z] 3)) (q:=t.heap.size) (new:=[I J z]) (Bp C fun b _ d=>aH _ _ _ d) underlying22 Hs rfl (by decide) (by have:=f.size;simp;omega) (by omega) (by decide) (df _ _) rfl (by intro u hu;simp only[be] at hu;subst hu;rfl) 22;have Q:=fun b=>F8 (b:=b) C;have aa:=m.size;have ao:t.heap.size+1≤F.heap.size:=by simpa using aa
   have ae:Hq (Bl w F):=⟨m.os.trans f.os,m.tape.trans f.tape,m.output.trans f.output,by have:=f.size;omega,fun j hj=>(m.block j (by have:=f.size;simp;omega) (fun e=>by have:=(Q j e.symm).1;omega)).trans ((aH _ _ _ (by have:=f.size;omega)).trans (f.block j hj))⟩;have ah:Hq (F.ownsRow w.heap.size 3 1 (Y L (k+1) c3) (k+1) (((l.take (k+1)).map FO).map (aG J))):=by
    have e:((l.take (k+1)).map FO).map (aG J)=((l.take k).map FO).map (aG J)++ [I J z]:=by
     rw[HZ.o];simp only[de B,ed,ee,ep]
    show eC _ _ _ _ _ _ _;rw[e];exact R
   have aj:=HH X;clear f C y X R m Q aa ao;go_wp2_with (at_builtin;refine dh _ rfl _ _ _ _ rfl _ _ rfl rfl _ _ aj.o ?_)
   go_roundw
   case rel=>exact⟨k+1,by omega,by go_num,L,c3,rfl,ae.o,ah.o⟩
   case measure=>simp[eD];omega
  ·obtain rfl:k=l.length:=by omega
   obtain⟨d,n⟩:=A.o;rw[es] at n;obtain⟨HB,HO⟩:=H2 d n;clear A d n;go_wp2_with fail;go_ret;exact⟨_,rfl,HO.o,HB.o⟩
def Z0(x:AO)(a b:Option eF)(n c d c2:Nat)(w:dU):ea prog 35 #[.agg #[Y a n c,Y b d c2,I J x.lost]] w fun e w'=>e=.returned (I J x.lost)∧Bl w w':=by
 go_enter func35,ntmps35;go_wp2;go_ret;exact⟨rfl,(bc _ w).alloc (a2 _) _⟩
def Gp(x:AO):Int:=x.lost
def SY(w:dU)(D:Nat→Prop)(b:Nat)(a:Option eF)(c:Nat)(l:List AO)(h:Am w D b 107 3 a c ElQu l)(Q:l.length≤1000):
  ea prog 34 #[Y a l.length c,.func (.func 35) #[] #[]] w fun e w'=>∃ v,e=.returned v∧w'.ownsRow w.heap.size 3 1 v l.length ((l.map Gp).map (aG J))∧Bl w w':=by
 have H:=HH h;clear h;go_enter func34,ntmps34;go_wp2_with fail
 go_loopw [5,7,10] (fun s5 _ ap wr=>∃ k:Nat,k≤l.length∧ap=I J k∧∃ s t,s5=Y s k t∧Hq (Bl w wr∧wr.ownsRow w.heap.size 3 1 (Y s k t) k (((l.take k).map Gp).map (aG J)))) (fun _ _ v _=>l.length-(eD v).toNat)
 case atStart=>exact⟨0,dc _,rfl,O,0,rfl,bc _ w,by simp,.inl ⟨rfl,rfl⟩⟩
 case round=>
  obtain⟨k,au,rfl,s,t,rfl,A⟩:=hrel;by_cases P:k<l.length
  ·have ax:(k:Int)<(l.length:Int):=by omega
   obtain⟨d,r⟩:=A.o;have x:=H.o.below F0 d;have an:=x.ptr (by omega);have cap:=x.cap;obtain⟨v,u,N,X,aa⟩:=x.el k P;obtain⟨g,m,rfl⟩:=X.rd.C2;obtain⟨i,n,rfl,_,_,_⟩:=aa.1.open_;obtain⟨y0,y1,y2⟩:=EO N;rw[an];obtain⟨z,E⟩:=ex (Gp l[k]);have HC:Hq (ea prog 35 #[.agg #[.slice g l[k].q.length m,.slice i l[k].wait.length n,I J l[k].lost]] (wr.alloc (T #[.slice g l[k].q.length m,.slice i l[k].wait.length n,I J l[k].lost] 107)) fun e w'=>e=.returned (I J z)∧Below (wr.alloc (T #[.slice g l[k].q.length m,.slice i l[k].wait.length n,I J l[k].lost] 107)).heap.size (wr.alloc (T #[.slice g l[k].q.length m,.slice i l[k].wait.length n,I J l[k].lost] 107)) w'):=by
    show ea _ _ _ _ _;rw[E];exact Z0 l[k] g i l[k].q.length m l[k].wait.length n (wr.alloc (T #[.slice g l[k].q.length m,.slice i l[k].wait.length n,I J l[k].lost] 107))
   have M:Bl w (wr.alloc (T #[.slice g l[k].q.length m,.slice i l[k].wait.length n,I J l[k].lost] 107)):=d.alloc d.size _;have V:(wr.alloc (T #[.slice g l[k].q.length m,.slice i l[k].wait.length n,I J l[k].lost] 107)).ownsRow w.heap.size 3 1 (Y s k t) k (((l.take k).map Gp).map (aG J)):=Bp r fun b _ d=>aH _ _ _ d
   obtain⟨K,aj⟩:=H2 M V;have ay:w.heap.size≤wr.heap.size:=d.size;have HZ:=HH E;clear A d r x N X aa M V E;go_wp2_with fail;refine HC.o.mono ?_;rintro e y ⟨rfl,B⟩;have f:=K.o.trans (B.mono K.o.size);have C:=Bp aj.o (w':=y) fun b _ Q=>B.block b Q
   obtain⟨L,c3,F,ab,S,p⟩:=Gv (W:=y.alloc (T #[I J z] 3)) (q:=y.heap.size) (new:=[I J z]) (Bp C fun b _ d=>aH _ _ _ d) underlying22 Hs rfl (by decide) (by have:=f.size;simp;omega) (by omega) (by decide) (df _ _) rfl (by intro u hu;simp only[be] at hu;subst hu;rfl) 22;have R:=fun b=>F8 (b:=b) C;have ac:=p.size;have ao:y.heap.size+1≤F.heap.size:=by simpa using ac
   have af:Hq (Bl w F):=⟨p.os.trans f.os,p.tape.trans f.tape,p.output.trans f.output,by have:=f.size;omega,fun j hj=>(p.block j (by have:=f.size;simp;omega) (fun e=>by have:=(R j e.symm).1;omega)).trans ((aH _ _ _ (by have:=f.size;omega)).trans (f.block j hj))⟩;have ai:Hq (F.ownsRow w.heap.size 3 1 (Y L (k+1) c3) (k+1) (((l.take (k+1)).map Gp).map (aG J))):=by
    have e:((l.take (k+1)).map Gp).map (aG J)=((l.take k).map Gp).map (aG J)++ [I J z]:=by
     rw[HZ.o];simp only[de P,ed,ee,ep]
    show eC _ _ _ _ _ _ _;rw[e];exact S
   have ak:=HH ab;clear f C B ab S p R ac ao;go_wp2_with (at_builtin;refine dh _ rfl _ _ _ _ rfl _ _ rfl rfl _ _ ak.o ?_)
   go_roundw
   case rel=>exact⟨k+1,by omega,by go_num,L,c3,rfl,af.o,ai.o⟩
   case measure=>simp[eD];omega
  ·obtain rfl:k=l.length:=by omega
   obtain⟨d,r⟩:=A.o;rw[es] at r;obtain⟨HB,HO⟩:=H2 d r;clear A d r;go_wp2_with fail;go_ret;exact⟨_,rfl,HO.o,HB.o⟩
def Zy(n:Int)(b k j:Option eF)(c r m q l:Nat)(data:List Int)(w:dU)(h:Af U w 0 (Y b data.length c) data)(v:data.length≤1000):
  ea prog 37 #[.agg #[I J n,Y b data.length c,Y k r m,Y j q l]] w fun e w'=>∃ a c2,e=.returned (Y a data.length c2)∧C5 w' w.heap.size (Y a data.length c2) data∧Bl w w':=by
 have f:Bl w (w.alloc (T #[I J n,Y b data.length c,Y k r m,Y j q l] 111)):=(bc _ w).alloc (a2 _) _;obtain⟨i,d⟩:=H2 (Gj (Y b data.length c) data _ (h.below f) (by omega)) f;clear h f;go_enter func37,ntmps37;go_wp2_with fail;refine i.o.mono ?_;rintro e y ⟨x,rfl,g,p⟩;obtain⟨a,c2,rfl⟩:=Bq g;obtain⟨t,s⟩:=H2 g (d.o.trans (p.mono d.o.size));have u:=d.o.size;clear g p i;go_wp2_with fail;go_ret;exact⟨a,c2,rfl,t.o.mono u,s.o⟩
def SV(w:dU)(D:Nat→Prop)(b:Nat)(a:Option eF)(c:Nat)(l:List AT)(h:Am w D b 111 4 a c ElBu l)(hl:l.length≤1000)(hm:∀ x∈l,x.data.length≤1000):
  ea prog 36 #[Y a l.length c,.func (.func 37) #[] #[]] w fun e w'=>∃ v,e=.returned v∧Bk w' w.heap.size v (l.map (·.data))∧Bl w w':=by
 obtain⟨H,HM⟩:=H2 h hm;clear h hm;go_enter func36,ntmps36;go_wp2_with fail
 go_loopw [5,7,10] (fun s5 _ aF wr=>∃ k:Nat,k≤l.length∧aF=I J k∧∃ z F,s5=Y z k F∧Hq (Bl w wr∧Bk wr w.heap.size (Y z k F) ((l.take k).map (·.data)))) (fun _ _ v _=>l.length-(eD v).toNat)
 case atStart=>exact⟨0,dc _,rfl,O,0,rfl,bc _ w,Bk.nil _ _⟩
 case round=>
  obtain⟨k,aI,rfl,z,F,rfl,A⟩:=hrel;by_cases V:k<l.length
  ·have aJ:(k:Int)<(l.length:Int):=by omega
   obtain⟨d,f⟩:=A.o;have L:=H.o.below Fu d;have aC:=L.ptr (by omega);have cap:=L.cap;obtain⟨v,p,g,hc,X,ak,al⟩:=L.el k V;obtain⟨B,K,rfl,_,_,_⟩:=X.1.open_;obtain⟨y,E,rfl,_,_,_⟩:=ak.1.open_;obtain⟨t,C,rfl,_,_,_⟩:=al.1.open_;obtain⟨y0,y1,y2,y3⟩:=LZ hc;rw[aC];have R:Bl wr (wr.alloc (T #[I J l[k].depth,.slice B l[k].data.length K,.slice y l[k].put.length E,.slice t l[k].get.length C] 111)):=(bc _ wr).alloc (a2 _) _;have ac:Bl w (wr.alloc (T #[I J l[k].depth,.slice B l[k].data.length K,.slice y l[k].put.length E,.slice t l[k].get.length C] 111)):=d.alloc d.size _;obtain⟨HC,az,P⟩:=H3 (Zy l[k].depth B y t K l[k].put.length E l[k].get.length C l[k].data (wr.alloc (T #[I J l[k].depth,.slice B l[k].data.length K,.slice y l[k].put.length E,.slice t l[k].get.length C] 111)) (X.1.below R) (HM.o _ (dV V))) (f.below R) ac;have aL:w.heap.size≤wr.heap.size:=d.size;clear A d f L hc X ak al R ac;go_wp2_with fail;refine HC.o.mono ?_;rintro e n ⟨s,c2,rfl,ai,Q⟩;have r:=P.o.trans (Q.mono P.o.size);have aj:=ai.mono P.o.size;obtain⟨ws,f,an⟩:=az.o.below Q;have M:((l.take k).map (·.data)).length=k:=by simp;omega
   rw[M] at f;have aM:=r.size;have S:Bl n (n.alloc (T #[.slice s l[k].data.length c2] 34)):=(bc _ n).alloc (a2 _) _;obtain⟨a3,c3,w3,am,ah,m⟩:=Gv (W:=n.alloc (T #[.slice s l[k].data.length c2] 34)) (q:=n.heap.size) (new:=[.slice s l[k].data.length c2]) (Bp f fun b _ d=>aH _ _ _ d) underlying35 Mz rfl (by decide) (by simp;omega) (by omega) (by decide) (df _ _) rfl (by intro u N;simp only[be] at N;subst N;rfl) 35;have ae:=fun b=>F8 (b:=b) f;have aD:n.heap.size+1≤w3.heap.size:=by simpa using m.size
   have aq:Hq (Bl w w3):=⟨m.os.trans r.os,m.tape.trans r.tape,m.output.trans r.output,by omega,fun j hj=>(m.block j (by simp;omega) (fun e=>by have:=(ae j e.symm).1;omega)).trans ((aH _ _ _ (by omega)).trans (r.block j hj))⟩;have ay:Hq (Bk w3 w.heap.size (Y a3 (k+1) c3) ((l.take (k+1)).map (·.data))):=by
    have e:(l.take (k+1)).map (·.data)=(l.take k).map (·.data)++ [l[k].data]:=by
     simp only[de V,ed,ee,ep]
    show Bk _ _ _ _;rw[e];refine Bk.snoc (q:=(l.take k).map (·.data)) (vs:=ws) (u:=.slice s l[k].data.length c2) (w:=n.alloc (T #[.slice s l[k].data.length c2] 34)) (v:=Y z k F) ?_ (fun i u x N hx=>(an i u x N hx).below S) (aj.below S) m ?_
    ·rw[M];exact Bp f fun b _ d=>aH _ _ _ d
    ·rw[M];exact ah
   have aA:=HH am;clear r f Q am ah m ae aD ai aj an M S;go_wp2_with (at_builtin;refine dh _ rfl _ _ _ _ rfl _ _ rfl rfl _ _ aA.o ?_)
   go_roundw
   case rel=>exact⟨k+1,by omega,by go_num,a3,c3,rfl,aq.o,ay.o⟩
   case measure=>simp[eD];omega
  ·obtain rfl:k=l.length:=by omega
   obtain⟨d,f⟩:=A.o;rw[es] at f;obtain⟨HB,HO⟩:=H2 d f;clear A d f;go_wp2_with fail;go_ret;exact⟨_,rfl,HO.o,HB.o⟩
def Em(x:BA):List ef:=[I U x.status,I J x.s.pc,I J x.s.left,I U (x.s.AG.getD 0 0),I U (x.s.AG.getD 1 0),I U (x.s.AG.getD 2 0),I U (x.s.AG.getD 3 0),I J x.since,I J x.release,I J x.deadline,I U x.why,I J x.on]
def Rl(w:dU)(B:Nat)(v:ef)(l:List BA):Prop:=Sl w B 12 v l.length (l.flatMap Em)
def portN(s:Ae)(k:Nat):Int:=if(s.samples.getD k default).has then 1 else((s.queues.getD k default).q.length:Int)
structure JJ(w:dU)(B:Nat)(s:Ae)(vp vm vs ve vb vo vl vu:ef):Prop where
 pr:Rl w B vp s.procs
 me:Af U w B vm s.mem
 se:Af J w B vs (s.semas.map DJ)
 ev:Af J w B ve (s.events.map Fp)
 bo:Af J w B vb (s.boards.map FO)
 po:Af J w B vo ((dW s.queues.length).map (portN s))
 lo:Af J w B vl (s.queues.map Gp)
 bu:A6 w B vu (s.bufs.map (·.data))
def NQ(w:dU)(s:Ae)(e:Ending)(w':dU):Prop:=
 ∃ g d vs b a f c h,e=.returned (.agg #[I U s.mode,I J s.clock,g,d,vs,b,a,f,c,h])∧JJ w' w.heap.size s g d vs b a f c h∧Bl w w'
def Am.Ye{w:dU}{D:Nat→Prop}{b c:Nat}{t:eK}{a:Option eF}{l:List BA}(h:Am w D b t 12 a c (fun w _ b o x=>ElPr w b o x) l):Sl w 0 12 (Y a l.length c) l.length (l.flatMap Em):=by
 have f:∀ x,(Em x).length=12:=fun _=>rfl
 have k:∀ l:List BA,(l.flatMap Em).length=l.length*12:=fun l=>by
  induction l with
  |nil=>rfl
  |cons x l s=>rw[List.flatMap_cons,List.length_append,s,f,List.length_cons];omega
 refine⟨a,c,rfl,h.cap,h.nil,k l,fun m=>⟨b,0,h.ptr m,dc _,h.lt,fun j u d=>?_⟩⟩;have p:=(bJ.1 d).1;rw[k] at p;have i:j/12<l.length:=by omega
 have q:j%12<12:=Nat.mod_lt _ (by decide);have e:j=j/12*12+j%12:=by omega
 have g:=It f l (j/12) (j%12) i q;rw[←e] at g;rw[g] at d;obtain⟨v,y,r2,r3,r,n⟩:=h.el (j/12) i;have:=n (j%12) u (by
  rw[←d];simp only[Em,r];rfl)
 rw[Nat.zero_add,e];exact this
def Am.RD{w:dU}{D:Nat→Prop}{b c:Nat}{t:eK}{a:Option eF}{l:List Int}(h:Am w D b t 1 a c (fun w _ b o x=>ElB w b o x) l):Af U w 0 (Y a l.length c) l:=by
 refine⟨a,c,rfl,h.cap,h.nil,by simp,fun f=>⟨b,0,h.ptr f,dc _,h.lt,fun j u d=>?_⟩⟩;have e:=(bJ.1 d).1;rw[eH] at e;rw[List.getElem?_map,ek e] at d;simp only[Option.map_some,eB] at d;subst d;have:=h.el j e 0 _ rfl;simpa using this
def Cg{w w':dU}{B d n q:Nat}{e c:eK}{i:Nat×Nat}{g:Array ef}{v:ef}{f:List ef}(h:w.ownsRow B e d v n f)(o:w.heap[q]? =Z (T g c i))(m:e≠c)(l:∀ b,b≠q→b<w.heap.size→w'.heap[b]? =w.heap[b]?):w'.ownsRow B e d v n f:=by
 refine⟨h.1,?_⟩;rcases h.2 with j|⟨b,cap,cur,r,k,a,p⟩
 ·exact .inl j
 ·exact .inr ⟨b,cap,cur,r,k,(l b (DT a o m) (Aa a)).trans a,p⟩
def XV{w w':dU}{B q:Nat}{a:eK}{f:Nat×Nat}{e:Array ef}{v:ef}{l:List (List Int)}(h:Bk w B v l)(d:w.heap[q]? =Z (T e a f))(g:34≠a)(j:5≠a)(c:∀ b,b≠q→b<w.heap.size→w'.heap[b]? =w.heap[b]?):Bk w' B v l:=by
 obtain⟨vs,n,o⟩:=h;exact⟨vs,Cg n d g c,fun i u x k m=>Cg (o i u x k m) d j c⟩
def XW{w:dU}{B a:Nat}{v:ef}{l:List (List Int)}(h:Bk w B v l)(b:a≤B):Bk w a v l:=by
 obtain⟨vs,e,f⟩:=h;exact⟨vs,Cx e b,fun i u x c d=>(f i u x c d).mono b⟩
def Kh{w:dU}{B n:Nat}{v:ef}{l:List Int}(h:w.ownsRow B 3 1 v n (l.map (aG J)))(a:n=l.length):Af J w B v l:=by
 subst a;exact Sl.Bw h
def To:EG 26:=fun _ _=>by kernel_rfl
def Tj:EG 27:=fun _ _=>by kernel_rfl
def Zp(w:dU)(D:Nat→Prop)(g:Nat)(d:Ad)(B:Hd)(s:Ae)(h:PA w D g d B s)(ok:Ah d s)(cp:∀ x∈s.boards,0≤x.val∧x.val≤255):
  ea prog 10 #[G (Z ⟨g,0,O⟩)] w (NQ w s):=by
 obtain⟨H,OK,cJ⟩:=H3 h ok cp;have dH:=h.lt;have cU:∀ ob,(w.alloc ob).cell? ⟨g,20,O⟩=Z (.bool true):=fun ob=>by
  rw[bQ _ _ _ (eb h.lt)];exact h.cell 20
 have dN:s.procs.length≤6:=by have:=ok.procs;have:=ok.ok.procs;omega
 have dL:s.mem.length≤4096:=by have:=ok.mem;have:=ok.ok.mem;omega
 have dO:s.queues.length≤8:=by have:=ok.queues;have:=ok.ok.Ab;omega
 have dR:s.samples.length=s.queues.length:=by have:=ok.queues;have:=ok.samples;omega
 have dQ:s.semas.length≤8:=by have:=ok.semas;have:=ok.ok.semas;omega
 have dF:s.bufs.length≤8:=by have:=ok.bufs;have:=ok.ok.bufs;omega
 have dM:s.boards.length≤8:=by have:=ok.boards;have:=ok.ok.boards;omega
 have dG:s.events.length≤8:=by have:=ok.events;have:=ok.ok.events;omega
 clear h ok cp;go_enter func10,ntmps10;go_upto_region 3 with (fail);clear cU;obtain⟨t,bf⟩:=ex (w.alloc (T #[I U 0,I J 0,Y O 0 0,Y O 0 0,Y O 0 0,Y O 0 0,Y O 0 0,Y O 0 0,Y O 0 0,Y O 0 0] 37));rw[←bf];have a4:Hq (Bl w t):=by rw[bf];exact(bc _ w).alloc (a2 _) _
 have Q0:Hq (t.heap[w.heap.size]? =Z (T #[I U 0,I J 0,Y O 0 0,Y O 0 0,Y O 0 0,Y O 0 0,Y O 0 0,Y O 0 0,Y O 0 0,Y O 0 0] 37 (0,0))):=by rw[bf];exact df w _
 clear bf;have h0:=H.o.below a4.o;have aV:=h0.lt;have cX:=h0.cell 10;have cW:=h0.cell 19;have bV:Hq (∀ W,Bl t W→ea prog 26 #[Y B.pr.a s.procs.length B.pr.c] W fun e w'=>∃ v',e=.returned v'∧w'.ownsRow W.heap.size 51 12 v' s.procs.length (s.procs.flatMap Em)∧Bl W w'):=fun W r=>Sg _ _ _ W ((h0.pr.below Fw r).Ye) (by omega) (by
  intro u C;simp only[List.mem_flatMap,Em,List.mem_cons,List.not_mem_nil,or_false] at C;obtain⟨x,_,C⟩:=C;rcases C with rfl|rfl|rfl|rfl|rfl|rfl|rfl|rfl|rfl|rfl|rfl|rfl<;>rfl)
 have bW:Hq (∀ W,Bl t W→ea prog 27 #[Y B.me.a s.mem.length B.me.c] W (LB W s.mem)):=fun W r=>Gj _ _ W ((h0.me.below ED r).RD) (by omega);have c8:∀ p:Ak t,p.W.cell? ⟨g,17,O⟩=Z (I U s.mode):=fun p=>(p.h.cell (p:=⟨g,17,O⟩) aV).trans (h0.cell 17);have c9:∀ p:Ak t,p.W.cell? ⟨g,18,O⟩=Z (I J s.clock):=fun p=>(p.h.cell (p:=⟨g,18,O⟩) aV).trans (h0.cell 18);have q10:∀ p:Ak t,p.W.cell? ⟨g,10,O⟩=Z (Y B.pr.a s.procs.length B.pr.c):=fun p=>(p.h.cell (p:=⟨g,10,O⟩) aV).trans (h0.cell 10);have da:∀ p:Ak t,p.W.cell? ⟨g,19,O⟩=Z (Y B.me.a s.mem.length B.me.c):=fun p=>(p.h.cell (p:=⟨g,19,O⟩) aV).trans (h0.cell 19);have H0:=HH h0;clear h0 cX cW;refine AS 22 [21] [] [(13,(fun v w'=>∃ M N,v=Y M s.procs.length N∧w'.ownsRow t.heap.size 51 12 (Y M s.procs.length N) s.procs.length (s.procs.flatMap Em))),(18,(fun v w'=>∃ F L,v=Y F s.mem.length L∧C5 w' t.heap.size (Y F s.mem.length L) s.mem)),(20,Bh t.heap.size #[I U 0,I J 0,Y O 0 0,Y O 0 0,Y O 0 0,Y O 0 0,Y O 0 0,Y O 0 0,Y O 0 0,Y O 0 0] 37)] ⟨(fun v w1 y ⟨R,c2,e,h⟩ r=>⟨R,c2,e,CA h r⟩),(fun v w1 y ⟨R,c2,e,h⟩ r=>⟨R,c2,e,h.below r⟩),Bh.AX,trivial⟩ ?_
 iterate 13 (refine An rfl rfl rfl ?_;intro K hK;go_big_quiet_op;go_big_quiet_on)
 refine A9 rfl rfl (fun w' r hA=>?_) ?_
 ·refine AD (f:=26) (al:=[Y B.pr.a s.procs.length B.pr.c]) rfl rfl rfl To ?_;exact(bV.o w' r).mono fun e y h=>by
   obtain⟨u,he,hf,bM⟩:=h;obtain⟨R,c2,C⟩:=Bq hf;subst C;exact⟨_,he,bM,_,_,rfl,Cx hf r.size⟩
 intro v w' r hv;obtain⟨M,N,rfl,bO⟩:=hv;clear r bO w';simp only[Au,bd,db,cY]
 iterate 4 (refine An rfl rfl rfl ?_;intro K hK;go_big_quiet_op;go_big_quiet_on)
 refine A9 rfl rfl (fun w' r hA=>?_) ?_
 ·refine AD (f:=27) (al:=[Y B.me.a s.mem.length B.me.c]) rfl rfl rfl Tj ?_;exact(bW.o w' r).mono fun e y h=>by
   obtain⟨u,he,hf,bM⟩:=h;obtain⟨R,c2,C⟩:=Bq hf;subst C;exact⟨_,he,bM,_,_,rfl,hf.mono r.size⟩
 intro v w' r hv;obtain⟨F,L,rfl,bO⟩:=hv;clear r bO w';simp only[Au,bd,db,cY]
 iterate 1 (refine An rfl rfl rfl ?_;intro K hK;go_big_quiet_op;go_big_quiet_on)
 refine A9 rfl rfl (fun w' r hA=>?_) ?_
 ·exact EY (T #[I U 0,I J 0,Y O 0 0,Y O 0 0,Y O 0 0,Y O 0 0,Y O 0 0,Y O 0 0,Y O 0 0,Y O 0 0] 37) (by simp[eA,go_sem]) ⟨w'.heap.size,r.size,rfl,df _ _⟩
 intro v w' r hv;obtain⟨q,hq,rfl,ad⟩:=hv;clear r hq ad w';simp only[Au,bd,db,cY];refine AH rfl ?_;refine AR ?_;intro w9 bg bj;obtain⟨dn,du,e,cv⟩:∃ R c2,(Y M s.procs.length N:ef)=Y R s.procs.length c2∧w9.ownsRow t.heap.size 51 12 (Y R s.procs.length c2) s.procs.length (s.procs.flatMap Em):=bj 13 _ (by decide) rfl;simp only[di,true_and] at e;obtain⟨rfl,rfl⟩:=e;obtain⟨dm,dt,e,cu⟩:∃ R c2,(Y F s.mem.length L:ef)=Y R s.mem.length c2∧C5 w9 t.heap.size (Y R s.mem.length c2) s.mem:=bj 18 _ (by decide) rfl;simp only[di,true_and] at e;obtain⟨rfl,rfl⟩:=e;obtain⟨bS,ad⟩:=Bh.at_ (bj 20 _ (by decide) rfl);obtain⟨z0,z1,z2,z3,z4,z5,z6,z7,z8,z9⟩:=DV ad;obtain⟨f0,f1,f2,f3,f4,f5,f6,f7,f8,f9⟩:=f10 ad;obtain⟨W1,bK⟩:=ex ((((((((((w9.setCell ⟨q,0,O⟩ (I U s.mode)).setCell ⟨q,1,O⟩ (I J s.clock)).setCell ⟨q,2,O⟩ (Y M s.procs.length N)).setCell ⟨q,3,O⟩ (Y F s.mem.length L)).setCell ⟨q,4,O⟩ (Y O 0 0)).setCell ⟨q,5,O⟩ (Y O 0 0)).setCell ⟨q,6,O⟩ (Y O 0 0)).setCell ⟨q,7,O⟩ (Y O 0 0)).setCell ⟨q,8,O⟩ (Y O 0 0)).setCell ⟨q,9,O⟩ (Y O 0 0));refine AI (w':=W1) (by rw[bK];simp[eA,go_sem,z0,f0,z1,f1,z2,f2,z3,f3,z4,f4,z5,f5,z6,f6,z7,f7,z8,f8,z9,f9]) ?_;unfold A7;have aS:W1=setsAt w9 q 0 [(0,I U s.mode),(1,I J s.clock),(2,Y M s.procs.length N),(3,Y F s.mem.length L),(4,Y O 0 0),(5,Y O 0 0),(6,Y O 0 0),(7,Y O 0 0),(8,Y O 0 0),(9,Y O 0 0)]:=bK;have bx:Hq (Bl w W1):=by rw[aS];exact DH (Nat.le_trans a4.o.size bS) (a4.o.trans (bg.mono a4.o.size)) _
 have a6:Hq (W1.heap[q]? =Z (T #[I U s.mode,I J s.clock,Y M s.procs.length N,Y F s.mem.length L,Y O 0 0,Y O 0 0,Y O 0 0,Y O 0 0,Y O 0 0,Y O 0 0] 37 (0,0))):=by
  rw[aS];have hh:=Di [(0,I U s.mode),(1,I J s.clock),(2,Y M s.procs.length N),(3,Y F s.mem.length L),(4,Y O 0 0),(5,Y O 0 0),(6,Y O 0 0),(7,Y O 0 0),(8,Y O 0 0),(9,Y O 0 0)] ad;simp only[Er,bd,db,cY] at hh;exact hh
 have z:∀ b,b≠q→b<w9.heap.size→W1.heap[b]? =w9.heap[b]?:=fun b r _=>by rw[aS,AU r]
 have ag:w9.heap.size≤W1.heap.size:=by rw[aS,BO];exact a2 _
 have b8:=HH (Cg cv ad (by decide) z);have b3:Hq (W1.ownsRow t.heap.size 5 1 (Y F s.mem.length L) s.mem.length (s.mem.map (aG U))):=Cg cu ad (by decide) z;have bE:Hq (W1.heap[w.heap.size]? =Z (T #[I U 0,I J 0,Y O 0 0,Y O 0 0,Y O 0 0,Y O 0 0,Y O 0 0,Y O 0 0,Y O 0 0,Y O 0 0] 37 (0,0))∧w.heap.size<t.heap.size∧t.heap.size≤q):=⟨(z _ (by have:=Aa Q0.o;omega) (Nat.lt_of_lt_of_le (Aa Q0.o) bg.size)).trans ((bg.block _ (Aa Q0.o)).trans Q0.o),Aa Q0.o,bS⟩;clear bK aS bg bj ad cv cu z ag z0 f0 z1 f1 z2 f2 z3 f3 z4 f4 z5 f5 z6 f6 z7 f7 z8 f8 z9 f9 c8 c9 q10 da bV bW aV H0 Q0;have dP:t.heap.size≤q:=bS;have dS:w.heap.size<t.heap.size:=bE.o.2.1;have hi:=H.o.below bx.o;have cg:W1.cell? ⟨g,15,O⟩=Z (Y B.se.a s.semas.length B.se.c):=hi.cell 15;have HC:=HH (SZ W1 D B.se.b B.se.a B.se.c s.semas hi.se (by omega));clear hi;go_wp2_with fail;refine HC.o.mono ?_;rintro e y ⟨v,rfl,P,l⟩;obtain⟨V,X,rfl⟩:=Bq P;clear cg HC;have m:y.heap[q]? =Z (T #[I U s.mode,I J s.clock,Y M s.procs.length N,Y F s.mem.length L,Y O 0 0,Y O 0 0,Y O 0 0,Y O 0 0,Y O 0 0,Y O 0 0] 37 (0,0)):=(l.block _ (Aa a6.o)).trans a6.o;have zz:y.cell? ⟨q,4,O⟩=Z (Y O 0 0):=Cr m;have ff:y.frozen? ⟨q,4,O⟩=false:=by simp[ej,m]
 obtain⟨ah,aj,ak⟩:=H3 l P m;clear l P m;go_upto_region 5 with (fail);clear zz ff;have l:=ah.o;have m:=ak.o;obtain⟨W2,E⟩:=ex (y.setCell ⟨q,4,O⟩ (Y V s.semas.length X));rw[←E];have z:∀ b,b≠q→b<y.heap.size→W2.heap[b]? =y.heap[b]?:=fun b r _=>by rw[E];exact cK _ _ _ _ r
 have ag:y.heap.size=W2.heap.size:=by rw[E];simp[ec]
 have ao:=bx.o.size;have aJ:=l.size;have an:t.heap.size≤W1.heap.size:=by have:=Aa a6.o;omega
 have a7:Hq (W2.heap[q]? =Z (T #[I U s.mode,I J s.clock,Y M s.procs.length N,Y F s.mem.length L,Y V s.semas.length X,Y O 0 0,Y O 0 0,Y O 0 0,Y O 0 0,Y O 0 0] 37 (0,0))):=by
  rw[E];show _=_;rw[dY y q 4 _ _ _ m];rfl
 have bz:Hq (Bl w W2):=by
  rw[E];exact ey (bx.o.trans (l.mono ao)) (by show w.heap.size≤q;omega) _
 have ci:Hq (W2.heap[w.heap.size]? =Z (T #[I U 0,I J 0,Y O 0 0,Y O 0 0,Y O 0 0,Y O 0 0,Y O 0 0,Y O 0 0,Y O 0 0,Y O 0 0] 37 (0,0))):=(z _ (by omega) (by omega)).trans ((l.block _ (by omega)).trans bE.o.1);have b9:Hq (W2.ownsRow t.heap.size 51 12 (Y M s.procs.length N) s.procs.length (s.procs.flatMap Em)):=Cg (CA b8.o l) m (by decide) z;have b4:Hq (W2.ownsRow t.heap.size 5 1 (Y F s.mem.length L) s.mem.length (s.mem.map (aG U))):=Cg (CA b3.o l) m (by decide) z;have cd:Hq (W2.ownsRow t.heap.size 3 1 (Y V s.semas.length X) s.semas.length ((s.semas.map DJ).map (aG J))):=Cx (Cg aj.o m (by decide) z) an;clear E z ag l m ao aJ an ah aj ak a6 b8 b3 bE;have hi:=H.o.below bz.o;have cg:W2.cell? ⟨g,16,O⟩=Z (Y B.ev.a s.events.length B.ev.c):=hi.cell 16;have HC:=HH (SX W2 D B.ev.b B.ev.a B.ev.c s.events hi.ev (by omega));clear hi;go_wp2_with fail;refine HC.o.mono ?_;rintro e y ⟨v,rfl,P,l⟩;obtain⟨aa,ab,rfl⟩:=Bq P;clear cg HC;have m:y.heap[q]? =Z (T #[I U s.mode,I J s.clock,Y M s.procs.length N,Y F s.mem.length L,Y V s.semas.length X,Y O 0 0,Y O 0 0,Y O 0 0,Y O 0 0,Y O 0 0] 37 (0,0)):=(l.block _ (Aa a7.o)).trans a7.o;have zz:y.cell? ⟨q,5,O⟩=Z (Y O 0 0):=Cr m;have ff:y.frozen? ⟨q,5,O⟩=false:=by simp[ej,m]
 obtain⟨ah,aj,ak⟩:=H3 l P m;clear l P m;go_upto_region 6 with (fail);clear zz ff;have l:=ah.o;have m:=ak.o;obtain⟨W3,E⟩:=ex (y.setCell ⟨q,5,O⟩ (Y aa s.events.length ab));rw[←E];have z:∀ b,b≠q→b<y.heap.size→W3.heap[b]? =y.heap[b]?:=fun b r _=>by rw[E];exact cK _ _ _ _ r
 have ag:y.heap.size=W3.heap.size:=by rw[E];simp[ec]
 have ao:=bz.o.size;have aJ:=l.size;have an:t.heap.size≤W2.heap.size:=by have:=Aa a7.o;omega
 have a8:Hq (W3.heap[q]? =Z (T #[I U s.mode,I J s.clock,Y M s.procs.length N,Y F s.mem.length L,Y V s.semas.length X,Y aa s.events.length ab,Y O 0 0,Y O 0 0,Y O 0 0,Y O 0 0] 37 (0,0))):=by
  rw[E];show _=_;rw[dY y q 5 _ _ _ m];rfl
 have bA:Hq (Bl w W3):=by
  rw[E];exact ey (bz.o.trans (l.mono ao)) (by show w.heap.size≤q;omega) _
 have cj:Hq (W3.heap[w.heap.size]? =Z (T #[I U 0,I J 0,Y O 0 0,Y O 0 0,Y O 0 0,Y O 0 0,Y O 0 0,Y O 0 0,Y O 0 0,Y O 0 0] 37 (0,0))):=(z _ (by omega) (by omega)).trans ((l.block _ (by omega)).trans ci.o);have ca:Hq (W3.ownsRow t.heap.size 51 12 (Y M s.procs.length N) s.procs.length (s.procs.flatMap Em)):=Cg (CA b9.o l) m (by decide) z;have b5:Hq (W3.ownsRow t.heap.size 5 1 (Y F s.mem.length L) s.mem.length (s.mem.map (aG U))):=Cg (CA b4.o l) m (by decide) z;have ce:Hq (W3.ownsRow t.heap.size 3 1 (Y V s.semas.length X) s.semas.length ((s.semas.map DJ).map (aG J))):=Cg (CA cd.o l) m (by decide) z;have bZ:Hq (W3.ownsRow t.heap.size 3 1 (Y aa s.events.length ab) s.events.length ((s.events.map Fp).map (aG J))):=Cx (Cg aj.o m (by decide) z) an;clear E z ag l m ao aJ an ah aj ak a7 b9 b4 cd ci;have hi:=H.o.below bA.o;have cg:W3.cell? ⟨g,14,O⟩=Z (Y B.bo.a s.boards.length B.bo.c):=hi.cell 14;have HC:=HH (SU W3 D B.bo.b B.bo.a B.bo.c s.boards hi.bo (by omega) cJ.o);clear hi;go_wp2_with fail;refine HC.o.mono ?_;rintro e y ⟨v,rfl,P,l⟩;obtain⟨ae,af,rfl⟩:=Bq P;clear cg HC;have m:y.heap[q]? =Z (T #[I U s.mode,I J s.clock,Y M s.procs.length N,Y F s.mem.length L,Y V s.semas.length X,Y aa s.events.length ab,Y O 0 0,Y O 0 0,Y O 0 0,Y O 0 0] 37 (0,0)):=(l.block _ (Aa a8.o)).trans a8.o;have zz:y.cell? ⟨q,6,O⟩=Z (Y O 0 0):=Cr m;have ff:y.frozen? ⟨q,6,O⟩=false:=by simp[ej,m]
 obtain⟨ah,aj,ak⟩:=H3 l P m;clear l P m;go_upto_region 7 with (fail);clear zz ff;have l:=ah.o;have m:=ak.o;obtain⟨W4,E⟩:=ex (y.setCell ⟨q,6,O⟩ (Y ae s.boards.length af));rw[←E];have z:∀ b,b≠q→b<y.heap.size→W4.heap[b]? =y.heap[b]?:=fun b r _=>by rw[E];exact cK _ _ _ _ r
 have ag:y.heap.size=W4.heap.size:=by rw[E];simp[ec]
 have ao:=bA.o.size;have aJ:=l.size;have an:t.heap.size≤W3.heap.size:=by have:=Aa a8.o;omega
 have a9:Hq (W4.heap[q]? =Z (T #[I U s.mode,I J s.clock,Y M s.procs.length N,Y F s.mem.length L,Y V s.semas.length X,Y aa s.events.length ab,Y ae s.boards.length af,Y O 0 0,Y O 0 0,Y O 0 0] 37 (0,0))):=by
  rw[E];show _=_;rw[dY y q 6 _ _ _ m];rfl
 have bB:Hq (Bl w W4):=by
  rw[E];exact ey (bA.o.trans (l.mono ao)) (by show w.heap.size≤q;omega) _
 have ck:Hq (W4.heap[w.heap.size]? =Z (T #[I U 0,I J 0,Y O 0 0,Y O 0 0,Y O 0 0,Y O 0 0,Y O 0 0,Y O 0 0,Y O 0 0,Y O 0 0] 37 (0,0))):=(z _ (by omega) (by omega)).trans ((l.block _ (by omega)).trans cj.o);have cb:Hq (W4.ownsRow t.heap.size 51 12 (Y M s.procs.length N) s.procs.length (s.procs.flatMap Em)):=Cg (CA ca.o l) m (by decide) z;have b6:Hq (W4.ownsRow t.heap.size 5 1 (Y F s.mem.length L) s.mem.length (s.mem.map (aG U))):=Cg (CA b5.o l) m (by decide) z;have cf:Hq (W4.ownsRow t.heap.size 3 1 (Y V s.semas.length X) s.semas.length ((s.semas.map DJ).map (aG J))):=Cg (CA ce.o l) m (by decide) z;have b0:Hq (W4.ownsRow t.heap.size 3 1 (Y aa s.events.length ab) s.events.length ((s.events.map Fp).map (aG J))):=Cg (CA bZ.o l) m (by decide) z;have bX:Hq (W4.ownsRow t.heap.size 3 1 (Y ae s.boards.length af) s.boards.length ((s.boards.map FO).map (aG J))):=Cx (Cg aj.o m (by decide) z) an;clear E z ag l m ao aJ an ah aj ak a8 ca b5 ce bZ cj;have hi:=H.o.below bB.o;have cg:W4.cell? ⟨g,12,O⟩=Z (Y B.qu.a s.queues.length B.qu.c):=hi.cell 12;have HC:=HH (SY W4 D B.qu.b B.qu.a B.qu.c s.queues hi.qu (by omega));clear hi;go_wp2_with fail;refine HC.o.mono ?_;rintro e y ⟨v,rfl,P,l⟩;obtain⟨ap,ar,rfl⟩:=Bq P;clear cg HC;have m:y.heap[q]? =Z (T #[I U s.mode,I J s.clock,Y M s.procs.length N,Y F s.mem.length L,Y V s.semas.length X,Y aa s.events.length ab,Y ae s.boards.length af,Y O 0 0,Y O 0 0,Y O 0 0] 37 (0,0)):=(l.block _ (Aa a9.o)).trans a9.o;have zz:y.cell? ⟨q,8,O⟩=Z (Y O 0 0):=Cr m;have ff:y.frozen? ⟨q,8,O⟩=false:=by simp[ej,m]
 obtain⟨ah,aj,ak⟩:=H3 l P m;clear l P m;go_upto_region 8 with (fail);clear zz ff;have l:=ah.o;have m:=ak.o;obtain⟨W5,E⟩:=ex (y.setCell ⟨q,8,O⟩ (Y ap s.queues.length ar));rw[←E];have z:∀ b,b≠q→b<y.heap.size→W5.heap[b]? =y.heap[b]?:=fun b r _=>by rw[E];exact cK _ _ _ _ r
 have ag:y.heap.size=W5.heap.size:=by rw[E];simp[ec]
 have ao:=bB.o.size;have aJ:=l.size;have an:t.heap.size≤W4.heap.size:=by have:=Aa a9.o;omega
 have ba:Hq (W5.heap[q]? =Z (T #[I U s.mode,I J s.clock,Y M s.procs.length N,Y F s.mem.length L,Y V s.semas.length X,Y aa s.events.length ab,Y ae s.boards.length af,Y O 0 0,Y ap s.queues.length ar,Y O 0 0] 37 (0,0))):=by
  rw[E];show _=_;rw[dY y q 8 _ _ _ m];rfl
 have bC:Hq (Bl w W5):=by
  rw[E];exact ey (bB.o.trans (l.mono ao)) (by show w.heap.size≤q;omega) _
 have cl:Hq (W5.heap[w.heap.size]? =Z (T #[I U 0,I J 0,Y O 0 0,Y O 0 0,Y O 0 0,Y O 0 0,Y O 0 0,Y O 0 0,Y O 0 0,Y O 0 0] 37 (0,0))):=(z _ (by omega) (by omega)).trans ((l.block _ (by omega)).trans ck.o);have cc:Hq (W5.ownsRow t.heap.size 51 12 (Y M s.procs.length N) s.procs.length (s.procs.flatMap Em)):=Cg (CA cb.o l) m (by decide) z;have b7:Hq (W5.ownsRow t.heap.size 5 1 (Y F s.mem.length L) s.mem.length (s.mem.map (aG U))):=Cg (CA b6.o l) m (by decide) z;have ch:Hq (W5.ownsRow t.heap.size 3 1 (Y V s.semas.length X) s.semas.length ((s.semas.map DJ).map (aG J))):=Cg (CA cf.o l) m (by decide) z;have b1:Hq (W5.ownsRow t.heap.size 3 1 (Y aa s.events.length ab) s.events.length ((s.events.map Fp).map (aG J))):=Cg (CA b0.o l) m (by decide) z;have bY:Hq (W5.ownsRow t.heap.size 3 1 (Y ae s.boards.length af) s.boards.length ((s.boards.map FO).map (aG J))):=Cg (CA bX.o l) m (by decide) z;have b2:Hq (W5.ownsRow t.heap.size 3 1 (Y ap s.queues.length ar) s.queues.length ((s.queues.map Gp).map (aG J))):=Cx (Cg aj.o m (by decide) z) an;clear E z ag l m ao aJ an ah aj ak a9 cb b6 cf b0 bX ck;have hi:=H.o.below bC.o;have cg:W5.cell? ⟨g,13,O⟩=Z (Y B.bu.a s.bufs.length B.bu.c):=hi.cell 13;have HC:=HH (SV W5 D B.bu.b B.bu.a B.bu.c s.bufs hi.bu (by omega) (fun x hx=>by have:=(OK.o.bu x hx).len;omega));clear hi;go_wp2_with fail;refine HC.o.mono ?_;rintro e y ⟨v,rfl,P,l⟩;obtain⟨aC,aD,rfl⟩:∃ a c,v=Y a s.bufs.length c:=by
  obtain⟨vs,h1,_⟩:=P;obtain⟨a,c,h⟩:=Bq h1;exact⟨a,c,by simpa using h⟩
 clear cg HC;have m:y.heap[q]? =Z (T #[I U s.mode,I J s.clock,Y M s.procs.length N,Y F s.mem.length L,Y V s.semas.length X,Y aa s.events.length ab,Y ae s.boards.length af,Y O 0 0,Y ap s.queues.length ar,Y O 0 0] 37 (0,0)):=(l.block _ (Aa ba.o)).trans ba.o;have zz:y.cell? ⟨q,9,O⟩=Z (Y O 0 0):=Cr m;have ff:y.frozen? ⟨q,9,O⟩=false:=by simp[ej,m]
 obtain⟨ah,aj,ak⟩:=H3 l P m;clear l P m;go_upto_region 9 with (fail);clear zz ff;have l:=ah.o;have m:=ak.o;obtain⟨Q,E⟩:=ex (y.setCell ⟨q,9,O⟩ (Y aC s.bufs.length aD));rw[←E];have z:∀ b,b≠q→b<y.heap.size→Q.heap[b]? =y.heap[b]?:=fun b r _=>by rw[E];exact cK _ _ _ _ r
 have ag:y.heap.size=Q.heap.size:=by rw[E];simp[ec]
 have ao:=bC.o.size;have aJ:=l.size;have an:t.heap.size≤W5.heap.size:=by have:=Aa ba.o;omega
 have bH:Hq (Q.heap[q]? =Z (T #[I U s.mode,I J s.clock,Y M s.procs.length N,Y F s.mem.length L,Y V s.semas.length X,Y aa s.events.length ab,Y ae s.boards.length af,Y O 0 0,Y ap s.queues.length ar,Y aC s.bufs.length aD] 37 (0,0))):=by
  rw[E];show _=_;rw[dY y q 9 _ _ _ m];rfl
 have aE:Hq (Bl w Q):=by
  rw[E];exact ey (bC.o.trans (l.mono ao)) (by show w.heap.size≤q;omega) _
 have cS:Hq (Q.heap[w.heap.size]? =Z (T #[I U 0,I J 0,Y O 0 0,Y O 0 0,Y O 0 0,Y O 0 0,Y O 0 0,Y O 0 0,Y O 0 0,Y O 0 0] 37 (0,0))):=(z _ (by omega) (by omega)).trans ((l.block _ (by omega)).trans cl.o);have cP:Hq (Q.ownsRow t.heap.size 51 12 (Y M s.procs.length N) s.procs.length (s.procs.flatMap Em)):=Cg (CA cc.o l) m (by decide) z;have cO:Hq (Q.ownsRow t.heap.size 5 1 (Y F s.mem.length L) s.mem.length (s.mem.map (aG U))):=Cg (CA b7.o l) m (by decide) z;have cQ:Hq (Q.ownsRow t.heap.size 3 1 (Y V s.semas.length X) s.semas.length ((s.semas.map DJ).map (aG J))):=Cg (CA ch.o l) m (by decide) z;have cM:Hq (Q.ownsRow t.heap.size 3 1 (Y aa s.events.length ab) s.events.length ((s.events.map Fp).map (aG J))):=Cg (CA b1.o l) m (by decide) z;have cL:Hq (Q.ownsRow t.heap.size 3 1 (Y ae s.boards.length af) s.boards.length ((s.boards.map FO).map (aG J))):=Cg (CA bY.o l) m (by decide) z;have cN:Hq (Q.ownsRow t.heap.size 3 1 (Y ap s.queues.length ar) s.queues.length ((s.queues.map Gp).map (aG J))):=Cg (CA b2.o l) m (by decide) z;have cR:Hq (Bk Q t.heap.size (Y aC s.bufs.length aD) (s.bufs.map (·.data))):=XW (XV aj.o m (by decide) (by decide) z) an;clear E z ag l m ao aJ an ah aj ak ba cc b7 ch b1 bY b2 cl;have cy:q<Q.heap.size:=Aa bH.o;have dT:=aE.o.size;have cg:Q.cell? ⟨g,12,O⟩=Z (Y B.qu.a s.queues.length B.qu.c):=(H.o.below aE.o).cell 12;go_upto_region 10 with (fail);clear cg
 go_loopw [4,5,6,78] (fun _ _ _ v wr=>∃ k:Nat,k≤s.queues.length∧v=I J k∧(∃ a c,Hq (wr.heap[q]? =Z (T #[I U s.mode,I J s.clock,Y M s.procs.length N,Y F s.mem.length L,Y V s.semas.length X,Y aa s.events.length ab,Y ae s.boards.length af,Y a k c,Y ap s.queues.length ar,Y aC s.bufs.length aD] 37 (0,0))∧wr.ownsRow Q.heap.size 3 1 (Y a k c) k (((dW k).map (portN s)).map (aG J))∧Upd [q] Q wr))) (fun _ _ _ v _=>s.queues.length-(eD v).toNat)
 case atStart=>exact⟨0,dc _,rfl,O,0,bH.o,⟨by simp,.inl ⟨rfl,rfl⟩⟩,Upd.refl _ _⟩
 case round=>
  obtain⟨k,dI,rfl,a,c,A⟩:=hrel;by_cases hk:k<s.queues.length
  ·have dK:(k:Int)<(s.queues.length:Int):=by omega
   have ag:k<s.samples.length:=by omega
   have dJ:(k:Int)<(s.samples.length:Int):=by omega
   obtain⟨ad,P,C⟩:=A.o;have c5:=C.size;have cr:Bl w wr:=⟨C.os.trans aE.o.os,C.tape.trans aE.o.tape,C.output.trans aE.o.output,by omega,fun j hj=>(C.block j (by omega) (by simp only[be];omega)).trans (aE.o.block j hj)⟩;have hp:=H.o.below cr;have cx:=hp.qu.ptr (by omega);have dq:=hp.qu.cap;have dr:=hp.sa.cap;obtain⟨v1,u1,hc,hr,cz⟩:=hp.qu.el k hk;obtain⟨aq,cq,rfl⟩:=hr.rd.C2;obtain⟨aw,cw,rfl,_,_,_⟩:=cz.1.open_;obtain⟨v2,ct,_⟩:=hp.sa.el k ag;have cC:=hp.Ic (by omega);obtain⟨y0,y1,y2⟩:=EO hc;have dp:∀ ob,(wr.alloc ob).cell? ⟨g,11,O⟩=Z (Y (Z ⟨B.sa.b,0,O⟩) s.samples.length B.sa.c):=fun ob=>by
    rw[bQ _ _ _ (eb hp.lt)];exact cC
   have cm:∀ ob,(wr.alloc ob).cell? ⟨B.sa.b,k*3+2,O⟩=Z (.bool s.samples[k].has):=fun ob=>by
    rw[bQ _ _ _ (eb hp.sa.lt)];exact ct 2 _ rfl
   have ds:∀ ob,(wr.alloc ob).cell? ⟨q,7,O⟩=Z (Y a k c):=fun ob=>by
    rw[bQ _ _ _ (eb (Aa ad))];exact Cr ad
   rw[cx];clear A hp cr hc hr cz ct cC cx;cases hh:s.samples[k].has with
   |true=>
    have hz:portN s k=(1:Int):=by
     simp only[portN,getD_eq ag,getD_eq hk,hh];simp
    have HZ:=HH hz;rw[hh] at cm;have aW:=fun b=>F8 (b:=b) P;have aZ:((wr.alloc (T #[.slice aq s.queues[k].q.length cq,.slice aw s.queues[k].wait.length cw,I J s.queues[k].lost] 107)).alloc (T #[I J (1:Int)] 3)).ownsRow Q.heap.size 3 1 (Y a k c) k (((dW k).map (portN s)).map (aG J)):=Bp P fun b _ r=>(aH _ _ _ (by simp;omega)).trans (aH _ _ _ r);obtain⟨R,c2,S,a0,aY,av⟩:=Gv (W:=(wr.alloc (T #[.slice aq s.queues[k].q.length cq,.slice aw s.queues[k].wait.length cw,I J s.queues[k].lost] 107)).alloc (T #[I J (1:Int)] 3)) (q:=wr.heap.size+1) (new:=[I J (1:Int)]) aZ underlying22 Hs rfl (by decide) (by simp;omega) (by omega) (by decide) (Da wr _ _).2 rfl (by intro u C;simp only[be] at C;subst C;rfl) 22;have bT:wr.heap.size+1+1≤S.heap.size:=by simpa using av.size
    have aN:∀ b,b<Q.heap.size→S.heap[b]? =wr.heap[b]?:=fun b r=>(av.block b (by simp;omega) (fun e=>by have:=(aW b e.symm).1;omega)).trans ((aH _ _ _ (by simp;omega)).trans (aH _ _ _ (by omega)));have aI:S.heap[q]? =Z (T #[I U s.mode,I J s.clock,Y M s.procs.length N,Y F s.mem.length L,Y V s.semas.length X,Y aa s.events.length ab,Y ae s.boards.length af,Y a k c,Y ap s.queues.length ar,Y aC s.bufs.length aD] 37 (0,0)):=(aN q cy).trans ad;have cV:S.cell? ⟨q,7,O⟩=Z (Y a k c):=Cr aI;have cZ:S.frozen? ⟨q,7,O⟩=false:=by simp[ej,aI]
    have a1:(S.setCell ⟨q,7,O⟩ (Y R (k+1) c2)).heap.size=S.heap.size:=by simp[ec]
    have HN:Hq ((S.setCell ⟨q,7,O⟩ (Y R (k+1) c2)).heap[q]? =Z (T #[I U s.mode,I J s.clock,Y M s.procs.length N,Y F s.mem.length L,Y V s.semas.length X,Y aa s.events.length ab,Y ae s.boards.length af,Y R (k+1) c2,Y ap s.queues.length ar,Y aC s.bufs.length aD] 37 (0,0))∧(S.setCell ⟨q,7,O⟩ (Y R (k+1) c2)).ownsRow Q.heap.size 3 1 (Y R (k+1) c2) (k+1) (((dW (k+1)).map (portN s)).map (aG J))∧Upd [q] Q (S.setCell ⟨q,7,O⟩ (Y R (k+1) c2))):=by
     refine⟨by rw[dY S q 7 _ _ _ aI];rfl,?_,?_⟩
     ·have e:((dW (k+1)).map (portN s)).map (aG J)=((dW k).map (portN s)).map (aG J)++ [I J (1:Int)]:=by
       rw[←HZ.o];simp only[eG,ed,ee,ep]
      rw[e];exact Bp aY fun b r _=>cK _ _ _ _ (fun e=>by have e2:b=q:=e;omega)
     ·exact⟨av.os.trans C.os,av.tape.trans C.tape,av.output.trans C.output,by rw[a1];omega,fun b r hn=>(cK _ _ _ _ (by simpa using hn)).trans ((aN b r).trans (C.block b r hn))⟩
    have bF:=HH a0;clear ad P C aW aZ a0 aY av aN aI hz a1 hh bT;go_wp2_with (at_builtin;refine dh _ rfl _ _ _ _ rfl _ _ rfl rfl _ _ bF.o ?_)
    go_roundw
    case rel=>exact⟨k+1,by omega,by go_num,R,c2,HN.o⟩
    case measure=>simp[eD];omega
   |false=>
    have hz:portN s k=(s.queues[k].q.length:Int):=by
     simp only[portN,getD_eq ag,getD_eq hk,hh];simp
    have HZ:=HH hz;rw[hh] at cm;have aW:=fun b=>F8 (b:=b) P;have aZ:((wr.alloc (T #[.slice aq s.queues[k].q.length cq,.slice aw s.queues[k].wait.length cw,I J s.queues[k].lost] 107)).alloc (T #[I J (s.queues[k].q.length:Int)] 3)).ownsRow Q.heap.size 3 1 (Y a k c) k (((dW k).map (portN s)).map (aG J)):=Bp P fun b _ r=>(aH _ _ _ (by simp;omega)).trans (aH _ _ _ r);obtain⟨R,c2,S,a0,aY,av⟩:=Gv (W:=(wr.alloc (T #[.slice aq s.queues[k].q.length cq,.slice aw s.queues[k].wait.length cw,I J s.queues[k].lost] 107)).alloc (T #[I J (s.queues[k].q.length:Int)] 3)) (q:=wr.heap.size+1) (new:=[I J (s.queues[k].q.length:Int)]) aZ underlying22 Hs rfl (by decide) (by simp;omega) (by omega) (by decide) (Da wr _ _).2 rfl (by intro u C;simp only[be] at C;subst C;rfl) 22;have bT:wr.heap.size+1+1≤S.heap.size:=by simpa using av.size
    have aN:∀ b,b<Q.heap.size→S.heap[b]? =wr.heap[b]?:=fun b r=>(av.block b (by simp;omega) (fun e=>by have:=(aW b e.symm).1;omega)).trans ((aH _ _ _ (by simp;omega)).trans (aH _ _ _ (by omega)));have aI:S.heap[q]? =Z (T #[I U s.mode,I J s.clock,Y M s.procs.length N,Y F s.mem.length L,Y V s.semas.length X,Y aa s.events.length ab,Y ae s.boards.length af,Y a k c,Y ap s.queues.length ar,Y aC s.bufs.length aD] 37 (0,0)):=(aN q cy).trans ad;have cV:S.cell? ⟨q,7,O⟩=Z (Y a k c):=Cr aI;have cZ:S.frozen? ⟨q,7,O⟩=false:=by simp[ej,aI]
    have a1:(S.setCell ⟨q,7,O⟩ (Y R (k+1) c2)).heap.size=S.heap.size:=by simp[ec]
    have HN:Hq ((S.setCell ⟨q,7,O⟩ (Y R (k+1) c2)).heap[q]? =Z (T #[I U s.mode,I J s.clock,Y M s.procs.length N,Y F s.mem.length L,Y V s.semas.length X,Y aa s.events.length ab,Y ae s.boards.length af,Y R (k+1) c2,Y ap s.queues.length ar,Y aC s.bufs.length aD] 37 (0,0))∧(S.setCell ⟨q,7,O⟩ (Y R (k+1) c2)).ownsRow Q.heap.size 3 1 (Y R (k+1) c2) (k+1) (((dW (k+1)).map (portN s)).map (aG J))∧Upd [q] Q (S.setCell ⟨q,7,O⟩ (Y R (k+1) c2))):=by
     refine⟨by rw[dY S q 7 _ _ _ aI];rfl,?_,?_⟩
     ·have e:((dW (k+1)).map (portN s)).map (aG J)=((dW k).map (portN s)).map (aG J)++ [I J (s.queues[k].q.length:Int)]:=by
       rw[←HZ.o];simp only[eG,ed,ee,ep]
      rw[e];exact Bp aY fun b r _=>cK _ _ _ _ (fun e=>by have e2:b=q:=e;omega)
     ·exact⟨av.os.trans C.os,av.tape.trans C.tape,av.output.trans C.output,by rw[a1];omega,fun b r hn=>(cK _ _ _ _ (by simpa using hn)).trans ((aN b r).trans (C.block b r hn))⟩
    have bF:=HH a0;clear ad P C aW aZ a0 aY av aN aI hz a1 hh bT;go_wp2_with (at_builtin;refine dh _ rfl _ _ _ _ rfl _ _ rfl rfl _ _ bF.o ?_)
    go_roundw
    case rel=>exact⟨k+1,by omega,by go_num,R,c2,HN.o⟩
    case measure=>simp[eD];omega
  ·obtain rfl:k=s.queues.length:=by omega
   obtain⟨ad,P,C⟩:=A.o;obtain⟨HU,HO,dk⟩:=H3 C P ad;have c5:=C.size;have bi:wr.heap[w.heap.size]? =Z (T #[I U 0,I J 0,Y O 0 0,Y O 0 0,Y O 0 0,Y O 0 0,Y O 0 0,Y O 0 0,Y O 0 0,Y O 0 0] 37 (0,0)):=(C.block _ (by omega) (by simp only[be];omega)).trans cS.o;have dl:=HH bi;obtain⟨z0,z1,z2,z3,z4,z5,z6,z7,z8,z9⟩:=DV ad;obtain⟨y0,y1,y2,y3,y4,y5,y6,y7,y8,y9⟩:=DV bi;obtain⟨dv,dw,dx,dy,dz,dA,dB,dC,dD,dE⟩:=f10 bi;clear A ad P C bi;go_wp2_with fail;refine eI (v:=.agg #[I U s.mode,I J s.clock,Y M s.procs.length N,Y F s.mem.length L,Y V s.semas.length X,Y aa s.events.length ab,Y ae s.boards.length af,Y a s.queues.length c,Y ap s.queues.length ar,Y aC s.bufs.length aD]) (by simp[eS,results10,go_sem,z0,y0,z1,y1,z2,y2,z3,y3,z4,y4,z5,y5,z6,y6,z7,y7,z8,y8,z9,y9]) rfl ?_;obtain⟨W9,bL⟩:=ex ((((((((((wr.setCell ⟨w.heap.size,0,O⟩ (I U s.mode)).setCell ⟨w.heap.size,1,O⟩ (I J s.clock)).setCell ⟨w.heap.size,2,O⟩ (Y M s.procs.length N)).setCell ⟨w.heap.size,3,O⟩ (Y F s.mem.length L)).setCell ⟨w.heap.size,4,O⟩ (Y V s.semas.length X)).setCell ⟨w.heap.size,5,O⟩ (Y aa s.events.length ab)).setCell ⟨w.heap.size,6,O⟩ (Y ae s.boards.length af)).setCell ⟨w.heap.size,7,O⟩ (Y a s.queues.length c)).setCell ⟨w.heap.size,8,O⟩ (Y ap s.queues.length ar)).setCell ⟨w.heap.size,9,O⟩ (Y aC s.bufs.length aD));rw[←bL];have bI:W9=setsAt wr w.heap.size 0 [(0,I U s.mode),(1,I J s.clock),(2,Y M s.procs.length N),(3,Y F s.mem.length L),(4,Y V s.semas.length X),(5,Y aa s.events.length ab),(6,Y ae s.boards.length af),(7,Y a s.queues.length c),(8,Y ap s.queues.length ar),(9,Y aC s.bufs.length aD)]:=bL;have c4:W9.heap.size=wr.heap.size:=by rw[bI,BO]
   have hoth:∀ j,j≠w.heap.size→W9.heap[j]? =wr.heap[j]?:=fun j h1=>by rw[bI,AU h1]
   have bR:W9.os=wr.os∧W9.tape=wr.tape∧W9.output=wr.output:=by rw[bI];exact Be _ _
   clear bL;have cA:∀ b,b<Q.heap.size→b≠q→b≠w.heap.size→W9.heap[b]? =Q.heap[b]?:=fun b r h1 h2=>(hoth b h2).trans (HU.o.block b r (by simpa using h1));have aM:∀ {e:eK} {cB n:Nat} {v:ef} {xs:List ef},Q.ownsRow t.heap.size e cB v n xs→e≠37→W9.ownsRow t.heap.size e cB v n xs:=fun h c1=>by
    refine⟨h.1,?_⟩;rcases h.2 with h2|⟨b,cap,cur,hv,hB,r,hr⟩
    ·exact .inl h2
    ·exact .inr ⟨b,cap,cur,hv,hB,(cA b (Aa r) (DT r bH.o c1) (by omega)).trans r,hr⟩
   have aO:w.heap.size≤t.heap.size:=by omega
   refine⟨_,_,_,_,_,_,_,_,rfl,⟨?_,?_,?_,?_,?_,?_,?_,?_⟩,?_⟩
   ·exact(Sl.Bw (aM cP.o (by decide))).mono aO
   ·exact(Sl.Bw (aM cO.o (by decide))).mono aO
   ·exact(Kh (aM cQ.o (by decide)) (by simp)).mono aO
   ·exact(Kh (aM cM.o (by decide)) (by simp)).mono aO
   ·exact(Kh (aM cL.o (by decide)) (by simp)).mono aO
   ·exact(Kh (Bp HO.o fun b r _=>hoth b (by omega)) (by simp)).mono (by omega)
   ·exact(Kh (aM cN.o (by decide)) (by simp)).mono aO
   ·obtain⟨vs,k1,k2⟩:=cR.o;exact(Bk.rd ⟨vs,aM k1 (by decide),fun i u x C hx=>aM (k2 i u x C hx) (by decide)⟩).mono aO
   ·exact⟨bR.1.trans (HU.o.os.trans aE.o.os),bR.2.1.trans (HU.o.tape.trans aE.o.tape),bR.2.2.trans (HU.o.output.trans aE.o.output),by rw[c4];omega,fun j hj=>(cA j (by omega) (by omega) (by omega)).trans (aE.o.block j hj)⟩
def Oi(v:ef)(n:Nat)(f:List ef)(w:dU)(h:Sl w 0 1 v n f)(S:n≤1000000)(t:∀ u∈f,u.oneCell'=true):
  ea prog 63 #[v] w fun e w'=>∃ g,e=.returned g∧w'.ownsRow w.heap.size 3 1 g n f∧Bl w w':=by
 obtain⟨C,cap,rfl,W,l,z,m⟩:=h;obtain⟨R,H,N,P,Q⟩:=eE Hs;have q:∀ (w:dU) (a:Option eF) (n c r i:Nat),(binOp .eql 22 (Y a n c) (Y O r i)).run prog w=.ok (.bool a.isNone) w:=fun w a n c r i=>eg w _ _ a n c r i underlying22
 obtain⟨p,B⟩:=H2 z t;clear z t;cases C with
 |none=>
  have d:n=0:=by have:=l rfl;omega
  subst d;have M:f=[]:=dd (by have:=p.o;omega);clear m l;go_enter func63,ntmps63;go_wp2;go_ret;subst M;exact⟨_,rfl,eo _ _ _ _,bc _ _⟩
 |some s=>
  have A:Hq (∀ j u,f[j]? =Z u→w.cell? (s.add j)=Z u):=by
   intro j u y;have V:=(bJ.1 y).1;have d:0<n:=by
    rcases en n with d|d
    ·have:=p.o;rw[d] at this;omega
    ·exact d
   obtain⟨b,aa,D,_,_,E⟩:=m d;cases D;rw[Cu];exact E j u y
  clear m l;go_enter func63,ntmps63;go_wp2_with (at_builtin;refine et _ rfl _ _ 22 rfl w.heap.size 3 R (I J 0) 1 8 underlying22 H N P Q rfl (by decide) _ _ _ rfl (em w #[] 0 (a2 _) (dc _) (by simp)) s n cap f rfl ?qc1 ?qc2 ?qc3 ?qc4 ?qc5 ?qc6 ?_)
  case qc1=>exact p.o
  case qc2=>
   intro j u x;exact(eh _ _ _ (dZ _ _ (A.o j u x))).trans (A.o j u x)
  case qc3=>exact B.o
  case qc4=>unfold eR;omega
  case qc5=>omega
  case qc6=>simp
  intro g w1 L F X;go_wp2;go_ret;exact⟨g,rfl,by simpa using L,((bc _ w).alloc (a2 _) _).grown F (by simp) (by intro k K;simp[eu] at K;omega)⟩
def Vc:(prog.info? 62).map (fun i=>(i.zero,i.size,i.bytes))=Z (Z (.agg #[.string ⟨#[]⟩,I U 0,.bool false,I J 0,I J 0,I J 0]),6,48):=by kernel_rfl
def Sf(v:ef)(n:Nat)(f:List ef)(w:dU)(h:Sl w 0 6 v n f)(S:n≤1000000)(t:∀ u∈f,u.oneCell'=true):
  ea prog 64 #[v] w fun e w'=>∃ g,e=.returned g∧w'.ownsRow w.heap.size 62 6 g n f∧Bl w w':=by
 obtain⟨C,cap,rfl,W,l,z,m⟩:=h;obtain⟨R,H,N,P,Q⟩:=eE Vc;have q:∀ (w:dU) (a:Option eF) (n c r i:Nat),(binOp .eql 23 (Y a n c) (Y O r i)).run prog w=.ok (.bool a.isNone) w:=fun w a n c r i=>eg w _ _ a n c r i underlying23
 obtain⟨p,B⟩:=H2 z t;clear z t;cases C with
 |none=>
  have d:n=0:=by have:=l rfl;omega
  subst d;have M:f=[]:=dd (by have:=p.o;omega);clear m l;go_enter func64,ntmps64;go_wp2;go_ret;subst M;exact⟨_,rfl,eo _ _ _ _,bc _ _⟩
 |some s=>
  have A:Hq (∀ j u,f[j]? =Z u→w.cell? (s.add j)=Z u):=by
   intro j u y;have V:=(bJ.1 y).1;have d:0<n:=by
    rcases en n with d|d
    ·have:=p.o;rw[d] at this;omega
    ·exact d
   obtain⟨b,aa,D,_,_,E⟩:=m d;cases D;rw[Cu];exact E j u y
  clear m l;go_enter func64,ntmps64;go_wp2_with (at_builtin;refine et _ rfl _ _ 23 rfl w.heap.size 62 R (.agg #[.string ⟨#[]⟩,I U 0,.bool false,I J 0,I J 0,I J 0]) 6 48 underlying23 H N P Q rfl (by decide) _ _ _ rfl (em w #[] 0 (a2 _) (dc _) (by simp)) s n cap f rfl ?qc1 ?qc2 ?qc3 ?qc4 ?qc5 ?qc6 ?_)
  case qc1=>exact p.o
  case qc2=>
   intro j u x;exact(eh _ _ _ (dZ _ _ (A.o j u x))).trans (A.o j u x)
  case qc3=>exact B.o
  case qc4=>unfold eR;omega
  case qc5=>omega
  case qc6=>simp
  intro g w1 L F X;go_wp2;go_ret;exact⟨g,rfl,by simpa using L,((bc _ w).alloc (a2 _) _).grown F (by simp) (by intro k K;simp[eu] at K;omega)⟩
def Vb:(prog.info? 68).map (fun i=>(i.zero,i.size,i.bytes))=Z (Z (.agg #[.string ⟨#[]⟩,I J 0,I J 0,I J 0,Y O 0 0]),5,64):=by kernel_rfl
def Sd(v:ef)(n:Nat)(f:List ef)(w:dU)(h:Sl w 0 5 v n f)(S:n≤1000000)(t:∀ u∈f,u.oneCell'=true):
  ea prog 65 #[v] w fun e w'=>∃ g,e=.returned g∧w'.ownsRow w.heap.size 68 5 g n f∧Bl w w':=by
 obtain⟨C,cap,rfl,W,l,z,m⟩:=h;obtain⟨R,H,N,P,Q⟩:=eE Vb;have q:∀ (w:dU) (a:Option eF) (n c r i:Nat),(binOp .eql 24 (Y a n c) (Y O r i)).run prog w=.ok (.bool a.isNone) w:=fun w a n c r i=>eg w _ _ a n c r i underlying24
 obtain⟨p,B⟩:=H2 z t;clear z t;cases C with
 |none=>
  have d:n=0:=by have:=l rfl;omega
  subst d;have M:f=[]:=dd (by have:=p.o;omega);clear m l;go_enter func65,ntmps65;go_wp2;go_ret;subst M;exact⟨_,rfl,eo _ _ _ _,bc _ _⟩
 |some s=>
  have A:Hq (∀ j u,f[j]? =Z u→w.cell? (s.add j)=Z u):=by
   intro j u y;have V:=(bJ.1 y).1;have d:0<n:=by
    rcases en n with d|d
    ·have:=p.o;rw[d] at this;omega
    ·exact d
   obtain⟨b,aa,D,_,_,E⟩:=m d;cases D;rw[Cu];exact E j u y
  clear m l;go_enter func65,ntmps65;go_wp2_with (at_builtin;refine et _ rfl _ _ 24 rfl w.heap.size 68 R (.agg #[.string ⟨#[]⟩,I J 0,I J 0,I J 0,Y O 0 0]) 5 64 underlying24 H N P Q rfl (by decide) _ _ _ rfl (em w #[] 0 (a2 _) (dc _) (by simp)) s n cap f rfl ?qc1 ?qc2 ?qc3 ?qc4 ?qc5 ?qc6 ?_)
  case qc1=>exact p.o
  case qc2=>
   intro j u x;exact(eh _ _ _ (dZ _ _ (A.o j u x))).trans (A.o j u x)
  case qc3=>exact B.o
  case qc4=>unfold eR;omega
  case qc5=>omega
  case qc6=>simp
  intro g w1 L F X;go_wp2;go_ret;exact⟨g,rfl,by simpa using L,((bc _ w).alloc (a2 _) _).grown F (by simp) (by intro k K;simp[eu] at K;omega)⟩
def Va:(prog.info? 64).map (fun i=>(i.zero,i.size,i.bytes))=Z (Z (.agg #[I U 0,I J 0,I J 0,I J 0]),4,32):=by kernel_rfl
def Sc(v:ef)(n:Nat)(f:List ef)(w:dU)(h:Sl w 0 4 v n f)(S:n≤1000000)(t:∀ u∈f,u.oneCell'=true):
  ea prog 66 #[v] w fun e w'=>∃ g,e=.returned g∧w'.ownsRow w.heap.size 64 4 g n f∧Bl w w':=by
 obtain⟨C,cap,rfl,W,l,z,m⟩:=h;obtain⟨R,H,N,P,Q⟩:=eE Va;have q:∀ (w:dU) (a:Option eF) (n c r i:Nat),(binOp .eql 66 (Y a n c) (Y O r i)).run prog w=.ok (.bool a.isNone) w:=fun w a n c r i=>eg w _ _ a n c r i underlying66
 obtain⟨p,B⟩:=H2 z t;clear z t;cases C with
 |none=>
  have d:n=0:=by have:=l rfl;omega
  subst d;have M:f=[]:=dd (by have:=p.o;omega);clear m l;go_enter func66,ntmps66;go_wp2;go_ret;subst M;exact⟨_,rfl,eo _ _ _ _,bc _ _⟩
 |some s=>
  have A:Hq (∀ j u,f[j]? =Z u→w.cell? (s.add j)=Z u):=by
   intro j u y;have V:=(bJ.1 y).1;have d:0<n:=by
    rcases en n with d|d
    ·have:=p.o;rw[d] at this;omega
    ·exact d
   obtain⟨b,aa,D,_,_,E⟩:=m d;cases D;rw[Cu];exact E j u y
  clear m l;go_enter func66,ntmps66;go_wp2_with (at_builtin;refine et _ rfl _ _ 66 rfl w.heap.size 64 R (.agg #[I U 0,I J 0,I J 0,I J 0]) 4 32 underlying66 H N P Q rfl (by decide) _ _ _ rfl (em w #[] 0 (a2 _) (dc _) (by simp)) s n cap f rfl ?qc1 ?qc2 ?qc3 ?qc4 ?qc5 ?qc6 ?_)
  case qc1=>exact p.o
  case qc2=>
   intro j u x;exact(eh _ _ _ (dZ _ _ (A.o j u x))).trans (A.o j u x)
  case qc3=>exact B.o
  case qc4=>unfold eR;omega
  case qc5=>omega
  case qc6=>simp
  intro g w1 L F X;go_wp2;go_ret;exact⟨g,rfl,by simpa using L,((bc _ w).alloc (a2 _) _).grown F (by simp) (by intro k K;simp[eu] at K;omega)⟩
structure JF(d:Ad):Prop where
 co:K0 d
 ps:∀ p∈d.Ab,p.size≤64
structure Good(d:Ad)(s:Ae):Prop where
 ok:Ah d s
 FB:∀ i,i<s.procs.length→(s.procs.getD i default).s.pc≤((d.procs.getD i default).code.length:Int)
 bv:∀ x∈s.boards,0≤x.val∧x.val≤255
 qn:∀ x∈s.queues,∀ m∈x.q,m≠ []
 inv:Inv s
 md:s.mode=1∨s.mode=2∨s.mode=3∨s.mode=4
def Yw{k z d r:Int}{q:List (List Int)}{l:List Wt}{n p u:Int}{x:List Int}(h:x∈(recvQ k z d r q l n p u).1):x∈q:=by
 unfold recvQ at h;split at h
 ·exact h
 ·cases q with
  |nil=>simp at h
  |cons y t=>exact List.mem_cons_of_mem _ h
section
variable {d:Ad} {s:Ae} {i:Nat} {now t:Int} {a:Ac} {data l:List Int}
def Good.st(h:Good d s):∀ i,i<s.procs.length→Ed (d.procs.getD i default).code.length (s.procs.getD i default).s:=fun i b=>by
 have:=h.ok.at_ b;exact⟨this.AG,this.bytes,⟨this.pc.1,h.FB i b⟩,this.left⟩
def Rs(o:Cz d s.mem.length a)(b:∀ x∈s.queues,∀ m∈x.q,m≠ []):∀ x∈(actA d i now a s).1.queues,∀ m∈x.q,m≠ []:=by
 have j:∀ (k:Nat),∀ m∈(s.queues.getD k default).q,m≠ []:=fun k=>by
  by_cases g:k<s.queues.length
  ·exact b _ (getD_mem g)
  ·rw[eJ,eM (by omega)];intro m c;cases c
 have f:∀ (l:List Int) (data:List Int) (s0:Ae),s0.queues=s.queues→∀ x∈(wakeP d now data l s0).queues,∀ m∈x.q,m≠ []:=fun l data s0 e=>by
  obtain⟨P,n⟩:=Kx (d:=d) (t:=now) (data:=data) l s0;rw[n];show ∀ x∈s0.queues,_;rw[e];exact b
 unfold actA;split
 ·exact b
 ·rename_i g;show ∀ x∈(EJ d now a s).queues,_;unfold EJ;split
  ·exact b
  ·refine mem_set (P:=fun x:AO=>∀ m∈x.q,m≠ []) b _ ?_;intro m c;rcases Nh c with c|c
   ·exact j _ m c
   ·rw[c];intro e;have:=(o.send g).2.2;rw[e] at this;simp at this
 ·show ∀ x∈(Fg d i now a s).1.queues,_;unfold Fg;split
  ·have h:∀ x∈s.queues.set a.a.toNat ⟨(recvQ (portA d a).kind (portA d a).size (portA d a).depth (portA d a).At (quA a s).q (quA a s).wait (quA a s).lost i (prioA d i)).1,(recvQ (portA d a).kind (portA d a).size (portA d a).depth (portA d a).At (quA a s).q (quA a s).wait (quA a s).lost i (prioA d i)).2.1,(quA a s).lost⟩,∀ m∈x.q,m≠ []:=
    mem_set (P:=fun x:AO=>∀ m∈x.q,m≠ []) b _ (fun m c=>j _ m (Yw c))
   simp only[];split
   ·exact h
   ·exact h
  ·exact b
 ·exact b
 ·exact f _ _ _ rfl
 ·exact f _ _ _ rfl
 ·exact b
 ·exact b
 ·exact f _ _ _ rfl
 ·show ∀ x∈(Gt d i now a s).1.queues,_;unfold Gt;simp only[];split
  ·exact f _ _ _ rfl
  ·exact f _ _ _ rfl
 ·exact f _ _ _ rfl
 ·show ∀ x∈(Gu d i a s).1.queues,_;unfold Gu;simp only[];split
  ·exact b
  ·exact b
 ·exact b
 ·show ∀ x∈(nextA d i s).1.queues,_;unfold nextA;split
  ·exact b
  ·exact b
 ·exact b
 ·exact b
def Y8(d:Ad)(i:Nat)(now:Int)(s:Ae):∃ (b t:Ae) (go:Bool) (c:St) (a:Ac),FZ (d.procs.getD i default).code (s.procs.getD i default).s s.mem=(c,a)∧b={s with procs:=s.procs.set i {s.procs.getD i default with s:=c}}∧actA d i now a b=(t,go)∧EI d i now s=((if go then t else {t with procs:=t.procs.set i (waitR a (t.procs.getD i default))}),a):=
 ⟨{s with procs:=s.procs.set i {s.procs.getD i default with s:=(FZ (d.procs.getD i default).code (s.procs.getD i default).s s.mem).1}},_,_,(FZ (d.procs.getD i default).code (s.procs.getD i default).s s.mem).1,(FZ (d.procs.getD i default).code (s.procs.getD i default).s s.mem).2,rfl,rfl,rfl,rfl⟩
structure NP(d:Ad)(i:Nat)(s f:Ae)(a:Ac):Prop where
 good:Good d f
 oth:∀ k,k<s.procs.length→k≠i→∃ m,Wk (s.procs.getD k default) (f.procs.getD k default) m∧(m=true→(s.procs.getD k default).status=3)
 own:(f.procs.getD i default).deadline=(s.procs.getD i default).deadline∨(f.procs.getD i default).deadline=-1
 len:f.procs.length=s.procs.length
 mem:f.mem=s.mem∨(a.kind=1∧∃ j v,f.mem=s.mem.set j v)
 clk:f.clock=s.clock
 md:f.mode=s.mode
 act:Cz d s.mem.length a
def YH(hx:JF d)(h:Good d s)(q:i<s.procs.length)(H:(s.procs.getD i default).status=2)(h0:0≤now)(h1:now≤1073741824):NP d i s (EI d i now s).1 (EI d i now s).2:=by
 obtain⟨b,t,go,c,a,X,n,e3,e4⟩:=Y8 d i now s;rw[e4];have hid:i<d.procs.length:=by rw[←h.ok.procs];exact q
 have M:=getD_mem (l:=d.procs) (d:=default) hid;have B:=Q8 (hx.co _ M) (h.st i q) h.ok.I0;rw[X] at B;have p:Ed (d.procs.getD i default).code.length c:=B.1;have L:Cz d s.mem.length a:=B.2;have an:=h.ok.at_ q;have aw:=(h.ok.ok.pc _ M).len;have ap:D5 {s.procs.getD i default with s:=c}:={an with AG:=p.AG,bytes:=p.bytes,pc:=⟨p.pc.1,by have:=p.pc.2;show c.pc≤24;omega⟩,left:=p.left};have S:Ah d b:=by rw[n];exact h.ok.G4 i ap
 have v:b.procs.getD i default={s.procs.getD i default with s:=c}:=by rw[n];simp only[Cv,q,and_self,if_true]
 have gk:∀ k,k≠i→b.procs.getD k default=s.procs.getD k default:=fun k o=>by
  rw[n];show(s.procs.set i _).getD _ _=_;rw[Cv,if_neg (fun y=>o y.1.symm)]
 have C:b.procs.length=s.procs.length:=by rw[n];simp
 have R:b.mem=s.mem:=by rw[n]
 have aq:Inv b:=by rw[n];exact h.inv.own (by rw[H];decide) _
 have n3:(b.procs.getD i default).status≠3:=by
  rw[v];show(s.procs.getD i default).status≠3;rw[H];decide
 have D:∀ x∈b.boards,0≤x.val∧x.val≤255:=by rw[n];exact h.bv
 have k1:b.clock=s.clock:=by rw[n]
 have d1:b.mode=s.mode:=by rw[n]
 have w:Cz d b.mem.length a:=by rw[R];exact L
 have z:i<b.procs.length:=by rw[C];exact q
 have g:=Rr (now:=now) aq S n3 z w;have u:=S.act D z w h0 (show now≤4294967296 by omega);have W:=Rs (i:=i) (now:=now) (a:=a) (s:=b) w (by rw[n];exact h.qn);rw[e3] at g u W;have Q:i<t.procs.length:=by rw[g.len];exact z
 have P:=g.inv;obtain⟨f,j⟩:=ex (if go then t else {t with procs:=t.procs.set i (waitR a (t.procs.getD i default))});rw[←j] at P;rw[←j];show NP d i s f a;have fk:∀ k,k≠i→f.procs.getD k default=t.procs.getD k default:=fun k o=>by
  rw[j];split
  ·rfl
  ·show(t.procs.set i _).getD _ _=_;rw[Cv,if_neg (fun y=>o y.1.symm)]
 have F:f.procs.getD i default=t.procs.getD i default∨f.procs.getD i default=waitR a (t.procs.getD i default):=by
  rw[j];split
  ·exact .inl rfl
  ·refine .inr ?_;show(t.procs.set i _).getD _ _=_;simp only[Cv,Q,and_self,if_true]
 have ai:Ah d f:=by
  rw[j];split
  ·exact u
  ·have:=u.at_ Q;exact u.G4 i {this with}
 have fl:f.procs.length=s.procs.length:=by
  rw[←C,←g.len,j];split
  ·rfl
  ·simp
 have fm:f.mem=t.mem:=by rw[j];split<;>rfl
 have fc:f.clock=t.clock:=by rw[j];split<;>rfl
 have E:f.mode=t.mode:=by rw[j];split<;>rfl
 have fb:f.boards=t.boards:=by rw[j];split<;>rfl
 have fq:f.queues=t.queues:=by rw[j];split<;>rfl
 have V:∀ k,k<s.procs.length→k≠i→∃ m,Wk (s.procs.getD k default) (f.procs.getD k default) m∧(m=true→(s.procs.getD k default).status=3):=fun k o A=>by
  obtain⟨m,r,K⟩:=g.oth k (by rw[C];exact o) A;rw[gk k A] at r K;exact⟨m,by rw[fk k A];exact r,K⟩
 have am:c.pc≤((d.procs.getD i default).code.length:Int):=p.pc.2;have aj:(f.procs.getD i default).s.pc=(t.procs.getD i default).s.pc:=by rcases F with e|e<;>rw[e]<;>rfl
 have ae:(f.procs.getD i default).deadline=(t.procs.getD i default).deadline:=by rcases F with e|e<;>rw[e]<;>rfl
 refine⟨⟨ai,fun k o=>?_,by rw[fb];exact g.bv D,by rw[fq];exact W,P,?_⟩,V,?_,fl,?_,?_,?_,L⟩
 ·by_cases N:k=i
  ·subst N;rw[aj];rcases g.own with ⟨e,_⟩|e
   ·have e:(t.procs.getD k default).s.pc=(b.procs.getD k default).s.pc:=e;rw[e,v];exact am
   ·have e:t.procs.getD k default=EU:=e;rw[e];show(0:Int)≤_;omega
  ·obtain⟨m,r,_⟩:=V k (by omega) N;rw[r.pc];exact h.FB k (by omega)
 ·rw[E];have e:t.mode=b.mode:=g.md;rw[e,d1];exact h.md
 ·rw[ae];rcases g.own with ⟨_,e,_⟩|e
  ·rw[v] at e;exact e
  ·have e:t.procs.getD i default=EU:=e;rw[e];exact .inr rfl
 ·rw[fm];have:=g.mem;rw[R] at this;exact this
 ·rw[fc];exact(show t.clock=b.clock from g.clk).trans k1
 ·rw[E];exact(show t.mode=b.mode from g.md).trans d1
def PL(d:Ad)(s:Ae):∀ k:Nat,0≤(dW k).foldl (CL d s) (-1)→(s.procs.getD ((dW k).foldl (CL d s) (-1)).toNat default).status=2
 |0,h=>by
  have:(0:Int)≤ -1:=h;omega
 |k+1,h=>by
  have g:=PL d s k;rw[eG,List.foldl_append] at h ⊢;generalize (dW k).foldl (CL d s) (-1)=b at h g ⊢;have e:List.foldl (CL d s) b [k]=CL d s b k:=rfl;rw[e] at h ⊢;by_cases f:(s.procs.getD k default).status=2∧(b<0∨EL d s k b.toNat=true)
  ·have c:CL d s b k=(k:Int):=by unfold CL;rw[if_pos f]
   rw[c];exact f.1
  ·have c:CL d s b k=b:=by unfold CL;rw[if_neg f]
   rw[c] at h ⊢;exact g h
def Good.clk(h:Good d s){c:Int}(b:0≤c)(e:c≤1073741825):Good d {s with clock:=c}:=⟨h.ok.clk b e,h.FB,h.bv,h.qn,h.inv,h.md⟩
def Good.mode(h:Good d s){m:Int}(b:m=1∨m=2∨m=3∨m=4):Good d {s with mode:=m}:=⟨h.ok.mode m,h.FB,h.bv,h.qn,h.inv,b⟩
def Yx{k:Nat}{x:BA}(h:x.why≠14):Dg d now k x=x:=by
 unfold Dg;rw[if_neg (fun b=>h b.2.1)]
def Yy(k:Nat)(b:k<s.procs.length):(Dl d now s).procs.getD k default=Dg d now k (s.procs.getD k default):=by
 simp only[Dl,OH,b,dif_pos];rw[getD_eq b]
def WI(k:Nat)(b:k<s.procs.length):(CP now s).1.procs.getD k default=CK now (s.procs.getD k default):=by
 simp only[CP,getD_map',b,dif_pos];rw[getD_eq b]
def Qm:(Dl d now s).procs.length=s.procs.length:=by simp[Dl]
def WK:(CP now s).1.procs.length=s.procs.length:=by simp[CP]
def Good.release(h:Good d s)(f:0≤now)(g:now≤1073741824):Good d (Dl d now s):=by
 refine⟨h.ok.release f g,fun k j=>?_,h.bv,h.qn,fun kind k x c=>?_,h.md⟩
 ·rw[Qn];exact h.FB k (by rw[←Qm (d:=d) (now:=now)];exact j)
 ·have c:x∈AF s kind k:=c;have b:=h.inv kind k x c;have m:=h.inv.kinds c;have e:(Dl d now s).procs.getD x.proc.toNat default=s.procs.getD x.proc.toNat default:=by
   rw[Yy _ b.lt];refine Yx ?_;rw[b.2.2.1];omega
  unfold DP at b ⊢;rw[e];exact b
def MB(x:BA):(CK now x).status=x.status∧(CK now x).why=x.why∧(CK now x).on=x.on∧(CK now x).since=x.since∧(CK now x).s=x.s:=by
 unfold CK;split<;>exact⟨rfl,rfl,rfl,rfl,rfl⟩
def Good.late(h:Good d s):Good d (CP now s).1:=by
 refine⟨h.ok.late,fun k f=>?_,h.bv,h.qn,fun kind k x c=>?_,h.md⟩
 ·rw[Pf];exact h.FB k (by rw[←WK (now:=now)];exact f)
 ·have c:x∈AF s kind k:=c;have b:=h.inv kind k x c;have e:=WI (now:=now) _ b.lt;unfold DP at b ⊢;rw[e,(MB _).1,(MB _).2.1,(MB _).2.2.1];exact b
def Xf{p:Int}{kind:Int}{k:Nat}{x:Wt}(h:x∈AF (CX p s) kind k):x∈AF s kind k∧x.proc≠p:=by
 have b:∀ {α:Type} [Inhabited α] (f:α→α) (g:α→List Wt) (l:List α),(∀ y,g (f y)=leaveW (g y) p)→g default=[]→x∈g ((l.map f).getD k default)→x∈g (l.getD k default)∧x.proc≠p:=fun f g l u r c=>by
  rw[getD_map'] at c;split at c
  ·rename_i v;rw[u] at c;rw[getD_eq v];exact Xm.1 c
  ·rw[r] at c;cases c
 unfold AF at h ⊢;split at h
 ·rename_i e;rw[if_pos e];exact b (AO.leave p) (·.wait) s.queues (fun _=>rfl) rfl h
 ·rename_i m;rw[if_neg m];split at h
  ·rename_i e;rw[if_pos e];exact b (BU.leave p) (·.wait) s.semas (fun _=>rfl) rfl h
  ·rename_i n;rw[if_neg n];split at h
   ·rename_i e;rw[if_pos e];exact b (C3.leave p) (·.wait) s.events (fun _=>rfl) rfl h
   ·rename_i o;rw[if_neg o];split at h
    ·rename_i e;rw[if_pos e];exact b (AT.leave p) (·.put) s.bufs (fun _=>rfl) rfl h
    ·rename_i q;rw[if_neg q];split at h
     ·rename_i e;rw[if_pos e];exact b (AT.leave p) (·.get) s.bufs (fun _=>rfl) rfl h
     ·rename_i j;rw[if_neg j];split at h
      ·rename_i e;rw[if_pos e];exact b (BE.leave p) (·.wait) s.boards (fun _=>rfl) rfl h
      ·cases h
def Good.Ga(h:Good d s)(q:i<s.procs.length){y:BA}(n:D5 y)(g:y.s.pc=0):Good d {CX i s with procs:=(CX i s).procs.set i y}:=by
 refine⟨(h.ok.leave i).G4 i n,fun k m=>?_,fun x b=>?_,fun x b=>?_,fun kind k x b=>?_,h.md⟩
 ·show((s.procs.set i y).getD k default).s.pc≤_;rw[Cv];split
  ·rw[g];omega
  ·exact h.FB k (by simpa[CX] using m)
 ·have b:x∈s.boards.map (BE.leave i):=b;rw[ei] at b;obtain⟨z,f,rfl⟩:=b;exact h.bv z f
 ·have b:x∈s.queues.map (AO.leave i):=b;rw[ei] at b;obtain⟨z,f,rfl⟩:=b;exact h.qn z f
 ·obtain⟨j,o⟩:=Xf (s:=s) (p:=(i:Int)) (kind:=kind) (k:=k) (x:=x) b;have c:=h.inv kind k x j;have e:({CX i s with procs:=(CX i s).procs.set i y}:Ae).procs.getD x.proc.toNat default=s.procs.getD x.proc.toNat default:=by
   show(s.procs.set i y).getD _ _=_;rw[Cv,if_neg];rintro⟨e,_⟩;have:=c.1;omega
  unfold DP at c ⊢;rw[e];exact c
def Good.start(h:Good d s)(b:i<s.procs.length)(f:0≤t)(g:t≤1073741825):Good d (FD d i t s):=by
 have hid:i<d.procs.length:=by rw[←h.ok.procs];exact b
 have k:=h.ok.start hid f g;have j:i<(FD d i t s).procs.length:=by rw[Q5];exact b
 have c:=k.at_ j;have e:(FD d i t s).procs.getD i default=⟨2,⟨0,0,[0,0,0,0]⟩,t,afterI t (d.procs.getD i default).period,afterI t (d.procs.getD i default).Cf,0,0⟩:=by
  show((CX i s).procs.set i _).getD i default=_;rw[Cv,if_pos ⟨rfl,b⟩]
 rw[e] at c;exact h.Ga b c rfl
def Good.Jx(h:Good d s)(b:0≤t)(c:t≤1073741825):∀ k,k≤s.procs.length→Good d (FE d t k s)
 |0,_=>h
 |k+1,e=>(Good.Jx h b c k (by omega)).start (by rw[Lz];omega) b c
def Good.stop(h:Good d s)(b:i<s.procs.length):Good d (stopA i (CX i s)):=h.Ga b Ji rfl
def Good.Ob(h:Ik d){p q:Int}{v:List Int}(u:p=1∨p=2∨p=3∨p=4)(A:0≤q∧q≤1073741825)(r:(v.length:Int)=d.mem)(w:Bf v):Good d (Ez d p q v):=by
 have e:∀ {α:Type} {n:Nat} {x z:α},z∈dj n x→z=x:=fun f=>(eP.1 f).2;refine⟨⟨h,dX,dX,dX,eH _,?_,eH _,?_,r,w,fun x b=>?_,fun x b=>?_,fun x b=>?_,fun x b=>?_,fun x b=>?_,fun x b=>?_,fun x b=>?_,A⟩,fun k o=>?_,fun x b=>?_,fun x b=>?_,fun kind k x b=>?_,u⟩
 ·show((dj d.boards.toNat _).length:Int)=_;rw[dX];have:=h.boards;omega
 ·show((dj d.events.toNat _).length:Int)=_;rw[dX];have:=h.events;omega
 ·rw[e b];exact Ji
 ·rw[e b];exact⟨by simp,(fun z f=>by cases f),by decide⟩
 ·rw[e b];exact⟨by simp,(fun z f=>by cases f),.nil _⟩
 ·have b:x∈d.bufs.map fun n=>(⟨n,[],[],[]⟩:AT):=b;rw[ei] at b;obtain⟨z,_,rfl⟩:=b;exact⟨by simp,(fun z f=>by cases f),.nil _,.nil _,fun z f=>by cases f⟩
 ·rw[e b];exact .nil _
 ·have b:x∈d.semas.map fun n=>(⟨n,[]⟩:BU):=b;rw[ei] at b;obtain⟨z,_,rfl⟩:=b;exact .nil _
 ·rw[e b];exact .nil _
 ·have o:k<(dj d.procs.length EU).length:=o;show((dj d.procs.length EU).getD k default).s.pc≤_;rw[e (getD_mem o)];show(0:Int)≤_;omega
 ·rw[e b];exact(show(0:Int)≤0∧(0:Int)≤255 by decide)
 ·rw[e b];intro m u;cases u
 ·exfalso;have j:∀ {α:Type} [Inhabited α] (g:α→List Wt) (l:List α),(∀ y∈l,g y=[])→g default=[]→x∉g (l.getD k default):=fun g l r B b=>by
   by_cases o:k<l.length
   ·rw[r _ (getD_mem o)] at b;cases b
   ·rw[eJ,eM (by omega)] at b;have b:x∈g default:=b;rw[B] at b;cases b
  unfold AF at b;split at b
  ·exact j AO.wait (dj d.Ab.length ⟨[],[],0⟩) (fun y c=>by rw[e c]) rfl b
  split at b
  ·refine j (·.wait) (d.semas.map fun n=>(⟨n,[]⟩:BU)) (fun y c=>?_) rfl b;rw[ei] at c;obtain⟨z,_,rfl⟩:=c;rfl
  split at b
  ·exact j C3.wait (dj d.events.toNat ⟨false,[]⟩) (fun y c=>by rw[e c]) rfl b
  split at b
  ·refine j (·.put) (d.bufs.map fun n=>(⟨n,[],[],[]⟩:AT)) (fun y c=>?_) rfl b;rw[ei] at c;obtain⟨z,_,rfl⟩:=c;rfl
  split at b
  ·refine j (·.get) (d.bufs.map fun n=>(⟨n,[],[],[]⟩:AT)) (fun y c=>?_) rfl b;rw[ei] at c;obtain⟨z,_,rfl⟩:=c;rfl
  split at b
  ·exact j BE.wait (dj d.boards.toNat ⟨false,0,[]⟩) (fun y c=>by rw[e c]) rfl b
  ·cases b
def P7(n:Nat):Bf (dj n 0):=fun z b=>by
 rw[(eP.1 b).2];decide
def Good.LX(h:Good d s){m:Int}(b:m=1∨m=2∨m=3∨m=4):Good d (Hm d m s):=by
 rw[RF];exact Good.Ob h.ok.ok b h.ok.clock h.ok.mem h.ok.I0
def UK(h:Ik d):Good d (DB d):=by
 show Good d (Ez d 1 0 _);refine Good.Ob h (.inl rfl) (by decide) ?_ (P7 _);rw[dX];have:=h.mem;omega
def Jr(d:Ad)(now:Int)(s:Ae):Ae:=(CP now (Dl d now {s with clock:=now+1})).1
def Good.r3(h:Good d s)(b:0≤now)(c:now≤1073741824):Good d (Jr d now s):=((h.clk (by omega) (by omega)).release b c).late
def Good.tick(k:JF d)(h:Good d s):Good d (A3 d now s).1:=by
 unfold A3;split
 ·exact h
 ·rename_i p;have o:=h.ok.clock;have b:0≤now:=by omega
  have f:now≤1073741824:=by omega
  split
  ·exact h.clk (by omega) (by omega)
  ·split
   ·exact((h.clk (c:=now+1) (by omega) (by omega)).mode (m:=3) (by omega)).Jx b (by omega) _ (a2 _)
   ·have g:=h.r3 b f;simp only[];split
    ·exact g
    ·rename_i e;have n:=PK d (Jr d now s);have e:0≤Hw d (Jr d now s):=Int.not_lt.1 e;have j:=PL d (Jr d now s) (Jr d now s).procs.length e;exact(YH k g (i:=(Hw d (Jr d now s)).toNat) (by omega) j b f).good
def Good.queue(h:Good d s){k:Nat}(c:k<s.queues.length){x:AO}(g:FK d.procs.length x)(e:∀ m∈x.q,m≠ [])(f:∀ y∈x.wait,y∈(s.queues.getD k default).wait):Good d {s with queues:=s.queues.set k x}:=
 ⟨h.ok.Ko k g,h.FB,h.bv,mem_set (P:=fun x:AO=>∀ m∈x.q,m≠ []) h.qn _ e,fun kind j y n=>by
  rcases La c x kind j y n with ⟨_,b⟩|⟨rfl,rfl,b⟩
  ·exact h.inv kind j y b
  ·exact h.inv 3 j y (f y b),h.md⟩
def Good.S5(b:JF d)(h:Good d s){ag:Int}(K:Bf data):Good d (Dc d now ag data s).1:=by
 unfold Dc;split
 ·exact h
 ·rename_i p hp;obtain⟨k,B,rfl,rfl,ho⟩:=Lj hp;have al:=b.ps _ (dV B);split
  ·exact h
  ·rename_i o;split
   ·exact h
   ·rename_i hl;have hc:=h.ok.clock;have F:0≤now:=by omega
    have h1:now≤1073741824:=by omega
    have H:data.length≤64∧Bf data:=⟨by omega,K⟩;have W:data≠ []:=fun e=>o (.inr (.inr e));have f:=h.clk (c:=now) F (by omega);simp only[eq];split
    ·have S:k<s.samples.length:=by rw[h.ok.samples];exact B
     exact⟨f.ok.Nj k (okSa_write (h.ok.sa _ (getD_mem S)) H),f.FB,f.bv,f.qn,f.inv,f.md⟩
    ·have u:k<s.queues.length:=by rw[h.ok.queues];exact B
     have L:=h.ok.qu _ (getD_mem (d:=default) u);obtain⟨o1,o2⟩:=L.Ng (k:=d.Ab[k].kind) (s:=d.Ab[k].size) (d:=d.Ab[k].depth) (r:=d.Ab[k].At) H;have V:∀ x,x∈(s.queues.getD k default).wait→x∈AF s 3 k:=fun x b=>b
     obtain⟨s0,v⟩:=ex ({s with clock:=now,queues:=s.queues.set k ⟨(sendQ d.Ab[k].kind d.Ab[k].size d.Ab[k].depth d.Ab[k].At (s.queues.getD k default).q (s.queues.getD k default).wait (s.queues.getD k default).lost data).1,(sendQ d.Ab[k].kind d.Ab[k].size d.Ab[k].depth d.Ab[k].At (s.queues.getD k default).q (s.queues.getD k default).wait (s.queues.getD k default).lost data).2.1,(sendQ d.Ab[k].kind d.Ab[k].size d.Ab[k].depth d.Ab[k].At (s.queues.getD k default).q (s.queues.getD k default).wait (s.queues.getD k default).lost data).2.2.1⟩}:Ae);have g0:Good d s0:=by
      rw[v];exact Good.queue (s:={s with clock:=now}) f u o1 (fun m n=>by
       rcases Nh n with n|n
       ·exact h.qn _ (getD_mem u) m n
       ·rw[n];exact W) (fun y C=>Qr C)
     show Good d (wakeP d now data [(sendQ d.Ab[k].kind d.Ab[k].size d.Ab[k].depth d.Ab[k].At (s.queues.getD k default).q (s.queues.getD k default).wait (s.queues.getD k default).lost data).2.2.2.1] _);have ac:s0.procs=s.procs:=by rw[v]
     have e:∀ l,wakeP d now data l ({s with clock:=now,queues:=s.queues.set k ⟨(sendQ d.Ab[k].kind d.Ab[k].size d.Ab[k].depth d.Ab[k].At (s.queues.getD k default).q (s.queues.getD k default).wait (s.queues.getD k default).lost data).1,(sendQ d.Ab[k].kind d.Ab[k].size d.Ab[k].depth d.Ab[k].At (s.queues.getD k default).q (s.queues.getD k default).wait (s.queues.getD k default).lost data).2.1,(sendQ d.Ab[k].kind d.Ab[k].size d.Ab[k].depth d.Ab[k].At (s.queues.getD k default).q (s.queues.getD k default).wait (s.queues.getD k default).lost data).2.2.1⟩}:Ae)=wakeP d now data l s0:=fun l=>by rw[v]
     rw[e];have X:∀ kind j x,x∈AF s0 kind j→DP s0 x.proc kind j∧x.proc∉ [(sendQ d.Ab[k].kind d.Ab[k].size d.Ab[k].depth d.Ab[k].At (s.queues.getD k default).q (s.queues.getD k default).wait (s.queues.getD k default).lost data).2.2.2.1]:=fun kind j x b=>by
      refine⟨g0.inv kind j x b,?_⟩;simp only[be];intro e;have ad:=g0.inv kind j x b;obtain⟨y,t,D,Q,E⟩:=YK (by rw[←e];exact ad.1);have C:=h.inv 3 k y (V y (by rw[D];simp));rw[v] at b;rcases La (s:={s with clock:=now}) u _ kind j x b with ⟨R,g⟩|⟨rfl,rfl,g⟩
      ·have M:=h.inv kind j x g;rw[e,E] at M;have:=M.uniq C;exact R ⟨this.1,by omega⟩
      ·have g:x∈_:=g;simp only[Q] at g;have o:=L.wait.1;rw[D] at o;simp only[ee,List.nodup_cons,ei,not_exists,not_and] at o;exact o.1 x g (by rw[e,E])
     have aa:=J5 (now:=now) g0.ok (l:=[(sendQ d.Ab[k].kind d.Ab[k].size d.Ab[k].depth d.Ab[k].At (s.queues.getD k default).q (s.queues.getD k default).wait (s.queues.getD k default).lost data).2.2.2.1]) K F (by omega) (fun z N=>by
      simp only[be] at N;rw[N,ac,h.ok.procs];exact o2)
     obtain⟨P,w⟩:=Kx (d:=d) (t:=now) (data:=data) [(sendQ d.Ab[k].kind d.Ab[k].size d.Ab[k].depth d.Ab[k].At (s.queues.getD k default).q (s.queues.getD k default).wait (s.queues.getD k default).lost data).2.2.2.1] s0;refine⟨aa,fun j A=>?_,?_,?_,Inv.IF _ X,?_⟩
     ·rw[N3] at A;rw[(Kw (d:=d) (t:=now) (data:=data) _ s0 j A).pc];exact g0.FB j A
     ·rw[w];exact g0.bv
     ·rw[w];exact g0.qn
     ·rw[w];exact g0.md
def Good.collect(h:Good d s){r:Int}:Good d (ET d r s).1:=by
 unfold ET;split
 ·exact h
 ·rename_i p n;obtain⟨k,f,rfl,rfl,u⟩:=Lj n;simp only[eq];have e:k<s.queues.length:=by rw[h.ok.queues];exact f
  have j:=h.ok.qu _ (getD_mem (d:=default) e);have b:=h.queue e (x:={s.queues.getD k default with q:=[]}) ⟨by simp,(fun z c=>by cases c),j.wait⟩ (fun m g=>by cases g) (fun y o=>o);exact⟨b.ok.Nj k ⟨by simp,(fun z c=>by cases c),by decide⟩,b.FB,b.bv,b.qn,b.inv,b.md⟩
def Good.S8(h:Good d s)(k p:Int):Good d (Br d k p s).1:=by
 unfold Br;split
 ·exact h
 ·rename_i g;split
  ·exact h
  ·split
   ·rename_i e;have b:0≤p∧p≤(s.procs.length:Int)-1:=by omega
    obtain⟨i,rfl⟩:=ez b.1;exact h.stop (i:=i) (by omega)
   ·split
    ·rename_i e;have b:0≤p∧p≤(s.procs.length:Int)-1:=by omega
     obtain⟨i,rfl⟩:=ez b.1;have c:=h.ok.clock;exact h.start (i:=i) (by omega) c.1 c.2
    ·split
     ·exact h.LX (by omega)
     ·split
      ·have f:Good d {s with mem:=dj s.mem.length 0}:=⟨{h.ok with mem:=(by simpa using h.ok.mem),I0:=P7 _},h.FB,h.bv,h.qn,h.inv,h.md⟩;exact f.LX (by omega)
      ·split
       ·exact h.LX (by omega)
       ·exact h
end
end Go.Proofs.YtiepijihpgijbaaGreatDoor
