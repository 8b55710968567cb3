import Derived.Test.YtiepijihpgijbaaGreatDoorQ22
set_option maxHeartbeats 8000000
set_option maxRecDepth 1000000
set_option linter.all false
open Option renaming some→Z,none→O
open Go.Value renaming int→I,slice→Y,pointer→G
open Go.IntKind renaming i64→J,u8→U
open Go.Obj renaming cells→T
open List renaming setIfInBounds_toArray→af,range→ag,set_cons_zero→av,set_cons_succ→aX,getElem?_eq_getElem→aY,getD_eq_getElem?_getD→ba,getElem_range→cq,getElem?_eq_some_iff→cv,mem_singleton→cB,drop_succ_cons→cE,replicate→cF,getElem?_map→cI,not_mem_nil→cN,getElem?_set_ne→cU,drop_zero→cV,mem_cons→cX,drop_nil→cY,mem_flatMap→dc,getElem_mem→dd,all_eq_true→de,getElem?_set_self→dA,getElem?_eq_none→dC,length_append→dF,ext_getElem?→dH,mem_range→dI
open Go renaming World→bQ,Value→bR,heap_alloc_new→cK,heap_setCell_same→cS,Calls→cT,TypeId→cZ,Addr→dy,madeCells→dE,execOp→dG,undef→dJ
open Go.Value.slice renaming injEq→b8
open Go.RowKit.Below renaming refl→ca,heap_setCell→cA
open Option.some renaming injEq→cz
open Nat renaming lt_of_lt_of_le→cC,le_refl→cJ,zero_le→dz,le_trans→dB,mul_le_mul_right→dD
open Bool renaming and_eq_true→cD
open Go.World renaming setCell→cG,frozen?→cH
open Go.Instr renaming field→dx
namespace Go.Proofs.YtiepijihpgijbaaGreatDoor
open Go.RowKit Tryz
def Qg{cells:Nat→List bR}{sz:Nat}(a:∀ k,(cells k).length=sz)(n:Nat):((ag n).flatMap cells).length=n*sz:=by
 induction n with
 |zero=>simp
 |succ n b=>rw[List.range_succ,List.flatMap_append,dF,b,Nat.succ_mul];simp[a]
def AW.flat{w:bQ}{v:bR}{n sz:Nat}{cells:Nat→List bR}(h:AW w v n sz (fun k j=>(cells k).getD j dJ))(o:0<sz)(p:∀ k,(cells k).length=sz):Sl w 0 sz v n ((ag n).flatMap cells):=by
 obtain⟨q,cap,C,A,B,z⟩:=h;have l:=Qg p;refine⟨q,cap,C,A,B,l n,fun r=>?_⟩;obtain⟨b,D,t,x,y⟩:=z r;refine⟨b,D,t,dz _,x,fun i u d=>?_⟩;have f:=(cv.1 d).1;rw[l] at f;have e:i/sz*sz+i%sz=i:=by rw[Nat.mul_comm];exact Nat.div_add_mod i sz
 have g:i/sz<n:=by rw[Nat.div_lt_iff_lt_mul o];exact f
 have m:=Nat.mod_lt i o;have a:=It (cells:=cells) p (ag n) (i/sz) (i%sz) (by simpa using g) m;rw[e,d,cq] at a;have c:=y _ _ g m;have s:(cells (i/sz)).getD (i%sz) dJ=u:=by rw[ba,←a];rfl
 rw[Nat.add_assoc,e] at c;rw[c];exact congrArg Z s
def Am.conv{α β:Type}{w:bQ}{D:Nat→Prop}{b sz c:Nat}{t:cZ}{a:Option dy}{El:bQ→(Nat→Prop)→Nat→Nat→α→Prop}{El':bQ→(Nat→Prop)→Nat→Nat→β→Prop}{l:List α}{l':List β}(h:Am w D b t sz a c El l)(d:l.length=l'.length){D':Nat→Prop}(g:¬D' b)
  (f:∀ k (e:k<l.length) (i:k<l'.length),El w D b (k*sz) l[k]→El' w D' b (k*sz) l'[k]):Am w D' b t sz a c El' l':=
 ⟨by rw[←d];exact h.cap,h.nil,by rw[←d];exact h.ptr,g,h.lt,by rw[←d];exact h.blk,fun k e=>f k (by rw[d];exact e) e (h.el k (by rw[d];exact e))⟩
def IH(w:bQ)(D:Nat→Prop)(b o:Nat)(x:(ByteArray×bR)×Eu):Prop:=AN w b o (I1 x.1.1 x.1.2 x.2)
def Lb:Loc 5 IH:=fun _ _ _ _ _ _ a _ b=>a.same b
def Gz(d:Ad)(k:Nat):List bR:=[I J (d.semas.getD k 0)]
def Gg(d:Ad)(k:Nat):List bR:=[I J (d.bufs.getD k 0)]
def Gw(d:Ad)(a:Nat→ByteArray)(k:Nat):List bR:=Ki (a k) (d.Ab.getD k default)
def I2(d:Ad)(b:Nat→ByteArray)(a:Nat→bR)(k:Nat):List bR:=I1 (b k) (a k) (d.procs.getD k default)
def DF(B:Nat)(e:cZ)(sz n:Nat)(b:List bR)(v:bR)(w:bQ):Prop:=∃ a c,v=Y a n c∧w.ownsRow B e sz v n b
def DF.AX{B sz n:Nat}{e:cZ}{i:List bR}:DO (DF B e sz n i):=fun _ _ _ ⟨a,c,d,f⟩ g=>⟨a,c,d,Bp f fun b _ h=>g.block b h⟩
def GB(B:Nat)(d:Ad)(e:Nat→ByteArray)(a b c:Option dy)(c1 c2 c3:Nat)(w:bQ):Prop:=
 w.ownsRow B 3 1 (Y a d.semas.length c1) d.semas.length ((ag d.semas.length).flatMap (Gz d))∧w.ownsRow B 3 1 (Y b d.bufs.length c2) d.bufs.length ((ag d.bufs.length).flatMap (Gg d))∧w.ownsRow B 62 6 (Y c d.Ab.length c3) d.Ab.length ((ag d.Ab.length).flatMap (Gw d e))
section
variable {B:Nat} {d:Ad} {nmo:Nat→ByteArray} {a1 a2 a3:Option dy} {c1 c2 c3:Nat} {w w':bQ}
def GB.below(h:GB B d nmo a1 a2 a3 c1 c2 c3 w)(c:Bl w w'):GB B d nmo a1 a2 a3 c1 c2 c3 w':=⟨Bp h.1 fun b _ a=>c.block b a,Bp h.2.1 fun b _ a=>c.block b a,Bp h.2.2 fun b _ a=>c.block b a⟩
def GB.Ga(h:GB B d nmo a1 a2 a3 c1 c2 c3 w){q:Nat}{e:Array bR}(c:w.heap[q]? =Z (T e 68 (0,0)))(a:∀ b,b≠q→b<w.heap.size→w'.heap[b]? =w.heap[b]?):GB B d nmo a1 a2 a3 c1 c2 c3 w':=
 ⟨Cg h.1 c (by decide) a,Cg h.2.1 c (by decide) a,Cg h.2.2 c (by decide) a⟩
end
def LH(w:bQ)(B:Nat)(v:bR)(x:Eu):Prop:=w.ownsRow B 64 4 v x.code.length (EP x.code)
def Ha(B:Nat)(d:Ad)(nm:ByteArray)(h f:Int)(v:bR)(w':bQ):Prop:=
 ∃ (a b c e:Option dy) (c1 c2 c3 c4:Nat) (g:Nat→ByteArray) (q:Nat) (L:List ((ByteArray×bR)×Eu)),
  v=.agg #[.string nm,I J h,I J f,I J d.mem,Y a d.semas.length c1,I J d.events,I J d.boards,Y b d.bufs.length c2,Y c d.Ab.length c3,Y e d.procs.length c4]∧
  w'.ownsRow B 3 1 (Y a d.semas.length c1) d.semas.length ((ag d.semas.length).flatMap (Gz d))∧
  w'.ownsRow B 3 1 (Y b d.bufs.length c2) d.bufs.length ((ag d.bufs.length).flatMap (Gg d))∧
  w'.ownsRow B 62 6 (Y c d.Ab.length c3) d.Ab.length ((ag d.Ab.length).flatMap (Gw d g))∧
  Am w' (fun _=>False) q 68 5 e c4 IH L∧B≤q∧L.map (·.2)=d.procs∧(∀ x∈L,LH w' B x.1.2 x.2)
def Ha.AX{B:Nat}{d:Ad}{nm:ByteArray}{u s:Int}:DO (Ha B d nm u s):=fun _ _ _ ⟨e,f,g,h,c1,c2,c3,c4,t,q,L,i,j,k,l,m,n,o,p⟩ c=>
 ⟨e,f,g,h,c1,c2,c3,c4,t,q,L,i,Bp j fun b _ a=>c.block b a,Bp k fun b _ a=>c.block b a,Bp l fun b _ a=>c.block b a,m.below Lb c,n,o,fun x r=>Bp (p x r) fun b _ a=>c.block b a⟩
def N6(w:bQ)(d:Ad)(nm:ByteArray)(b a:Int)(e:Ending)(w':bQ):Prop:=∃ v,e=.returned v∧Ha w.heap.size d nm b a v w'∧Bl w w'
def Ou:EG 63:=fun _ _=>by kernel_rfl
def Tn:EG 64:=fun _ _=>by kernel_rfl
def Tm:EG 65:=fun _ _=>by kernel_rfl
def Tl:EG 66:=fun _ _=>by kernel_rfl
def RV(l:List Ai):(EP l).length=l.length*4:=by
 induction l with
 |nil=>rfl
 |cons x l a=>simp only[EP,List.flatMap_cons,dF] at*;rw[a];simp;omega
def Ew.sl{w:bQ}{v:bR}{l:List Ai}(h:Ew w v l):Sl w 0 4 v l.length (EP l):=by
 have:=AW.flat (cells:=fun k=>Jc (l.getD k default)) h (by decide) (fun _=>rfl);have e:(ag l.length).flatMap (fun k=>Jc (l.getD k default))=EP l:=by
  apply dH;intro i;by_cases c:i<l.length*4
  ·have e:i/4*4+i%4=i:=by omega
   have a:=It (cells:=fun k=>Jc (l.getD k default)) (sz:=4) (fun _=>rfl) (ag l.length) (i/4) (i%4) (by simp;omega) (by omega);have b:=JP l (i/4) (i%4) (by omega) (by omega);rw[e] at a b;rw[a,b,cq,ba,aY (show i/4<l.length by omega)];rfl
  ·rw[dC (by rw[Qg (sz:=4) (fun _=>rfl)];omega),dC (by rw[RV];omega)]
 rw[e] at this;exact this
def Sw(d:Ad)(nm:ByteArray)(N H:Int)(sa ab ao ac:Option dy)(cs cb co cc:Nat)(w:bQ)(cu:C6 w (Y sa d.semas.length cs) d.semas)(cg:C6 w (Y ab d.bufs.length cb) d.bufs)(bo:Ex w (Y ao d.Ab.length co) d.Ab)(bn:Gd w (Y ac d.procs.length cc) d.procs)(ok:Ik d):
  cT prog 24 #[.agg #[.string nm,I J N,I J H,I J d.mem,Y sa d.semas.length cs,I J d.events,I J d.boards,Y ab d.bufs.length cb,Y ao d.Ab.length co,Y ac d.procs.length cc]] w (N6 w d nm N H):=by
 obtain⟨an,bo⟩:=bo;obtain⟨aD,X,bn,bH⟩:=bn;have du:=ok.semas;have dr:=ok.bufs;have dt:=ok.Ab;have ds:=ok.procs;have bf:∀ k,k<d.procs.length→(d.procs.getD k default).code.length≤24:=fun k F=>(ok.pc _ (by rw[ba,aY F];exact dd F)).len;have b3:Hq (∀ W,Bl w W→Sl W 0 1 (Y sa d.semas.length cs) d.semas.length ((ag d.semas.length).flatMap (Gz d))):=fun W i=>AW.flat (cells:=Gz d) ((AW.below cu i).same (fun k j F hj=>by
  have bK:j=0:=by omega
  subst bK;rfl)) (by decide) (fun _=>rfl)
 have b4:Hq (∀ W,Bl w W→Sl W 0 1 (Y ab d.bufs.length cb) d.bufs.length ((ag d.bufs.length).flatMap (Gg d))):=fun W i=>AW.flat (cells:=Gg d) ((AW.below cg i).same (fun k j F hj=>by
  have bK:j=0:=by omega
  subst bK;rfl)) (by decide) (fun _=>rfl)
 have b5:Hq (∀ W,Bl w W→Sl W 0 6 (Y ao d.Ab.length co) d.Ab.length ((ag d.Ab.length).flatMap (Gw d an))):=fun W i=>AW.flat (cells:=Gw d an) (bo.below i) (by decide) (fun _=>rfl);have b6:Hq (∀ W,Bl w W→Sl W 0 5 (Y ac d.procs.length cc) d.procs.length ((ag d.procs.length).flatMap (I2 d aD X))):=fun W i=>AW.flat (cells:=I2 d aD X) (bn.below i) (by decide) (fun _=>rfl);have cL:Hq (∀ k,k<d.procs.length→∀ W,Bl w W→Sl W 0 4 (X k) (d.procs.getD k default).code.length (EP (d.procs.getD k default).code)):=fun k F W i=>Ew.sl ((bH k F).below i);have bS:Hq (∀ k,k<d.procs.length→∃ a c,X k=Y a (d.procs.getD k default).code.length c):=fun k F=>(bH k F).shape;have cM:=HH bf;have one:∀ (n:Nat) (f:Nat→List bR),(∀ k,∀ u∈f k,u.oneCell'=true)→∀ u∈(ag n).flatMap f,u.oneCell'=true:=fun n f hf u l=>by
  obtain⟨k,_,F⟩:=dc.1 l;exact hf k u F
 have bY:Hq (∀ u∈(ag d.semas.length).flatMap (Gz d),u.oneCell'=true):=one _ _ fun k u l=>by simp only[Gz,cB] at l;rw[l];rfl
 have bZ:Hq (∀ u∈(ag d.bufs.length).flatMap (Gg d),u.oneCell'=true):=one _ _ fun k u l=>by simp only[Gg,cB] at l;rw[l];rfl
 have b0:Hq (∀ u∈(ag d.Ab.length).flatMap (Gw d an),u.oneCell'=true):=one _ _ fun k u l=>by simp only[Gw,Ki,cX,cN,or_false] at l;rcases l with rfl|rfl|rfl|rfl|rfl|rfl<;>rfl
 have b1:Hq (∀ u∈(ag d.procs.length).flatMap (I2 d aD X),u.oneCell'=true):=fun u l=>by
  obtain⟨k,F,l⟩:=dc.1 l;simp only[I2,I1,cX,cN,or_false] at l;obtain⟨a,c,e⟩:=bS.o k (dI.1 F);rcases l with rfl|rfl|rfl|rfl|rfl
  ·rfl
  ·rfl
  ·rfl
  ·rfl
  ·rw[e];rfl
 clear cu cg bo bn bH ok bf one;obtain⟨m,hW⟩:=ex ((w.alloc (T #[.string nm,I J N,I J H,I J d.mem,Y sa d.semas.length cs,I J d.events,I J d.boards,Y ab d.bufs.length cb,Y ao d.Ab.length co,Y ac d.procs.length cc] 26)).alloc (T #[.string ⟨#[]⟩,I J 0,I J 0,I J 0,Y O 0 0,I J 0,I J 0,Y O 0 0,Y O 0 0,Y O 0 0] 26));have cf:Bl w m:=by rw[hW];exact DX w _ _
 have bk:m.heap[w.heap.size]? =Z (T #[.string nm,I J N,I J H,I J d.mem,Y sa d.semas.length cs,I J d.events,I J d.boards,Y ab d.bufs.length cb,Y ao d.Ab.length co,Y ac d.procs.length cc] 26 (0,0)):=by rw[hW];exact(Da w _ _).1
 have ci:m.heap[w.heap.size+1]? =Z (T #[.string ⟨#[]⟩,I J 0,I J 0,I J 0,Y O 0 0,I J 0,I J 0,Y O 0 0,Y O 0 0,Y O 0 0] 26 (0,0)):=by rw[hW];exact(Da w _ _).2
 obtain⟨HW,S,bz,aP⟩:=H4 hW cf bk ci;have bi:=Aa bk;obtain⟨-,-,-,-,q4,-,-,q7,q8,q9⟩:=q10 bk;clear hW cf bk ci;go_enter func24,ntmps24;go_upto_region 1 with (fail);rw[←HW.o];obtain⟨g,hg⟩:=ex w.heap.size;rw[←hg] at q4 q7 q8 q9 bi bz aP ⊢;have HG:=HH hg;clear hg;refine AS 20 [13,15,17,19] [14,16,18] [(2,DF m.heap.size 3 1 d.semas.length ((ag d.semas.length).flatMap (Gz d))),(5,DF m.heap.size 3 1 d.bufs.length ((ag d.bufs.length).flatMap (Gg d))),(8,DF m.heap.size 62 6 d.Ab.length ((ag d.Ab.length).flatMap (Gw d an))),(11,DF m.heap.size 68 5 d.procs.length ((ag d.procs.length).flatMap (I2 d aD X)))] ⟨DF.AX,DF.AX,DF.AX,DF.AX,trivial⟩ ?_
 iterate 2 (refine An rfl rfl rfl ?_;intro K hK;go_big_quiet_op;go_big_quiet_on)
 refine A9 rfl rfl (fun w' i hA=>?_) ?_
 ·refine AD (f:=63) (al:=[Y sa d.semas.length cs]) rfl rfl rfl Ou ?_;exact(Oi _ d.semas.length _ w' (b3.o w' (S.o.trans (i.mono S.o.size))) (by omega) bY.o).mono fun e w2 h=>by
   obtain⟨v',he,V,ai⟩:=h;obtain⟨a,c,rfl⟩:=Bq V;exact⟨_,he,ai,a,c,rfl,Cx V i.size⟩
 intro v w' i hv;obtain⟨s,c1,rfl,ak⟩:=hv;clear ak i w';simp only[Au,af,aX,av]
 iterate 2 (refine An rfl rfl rfl ?_;intro K hK;go_big_quiet_op;go_big_quiet_on)
 refine A9 rfl rfl (fun w' i hA=>?_) ?_
 ·refine AD (f:=63) (al:=[Y ab d.bufs.length cb]) rfl rfl rfl Ou ?_;exact(Oi _ d.bufs.length _ w' (b4.o w' (S.o.trans (i.mono S.o.size))) (by omega) bZ.o).mono fun e w2 h=>by
   obtain⟨v',he,V,ai⟩:=h;obtain⟨a,c,rfl⟩:=Bq V;exact⟨_,he,ai,a,c,rfl,Cx V i.size⟩
 intro v w' i hv;obtain⟨B,c2,rfl,ak⟩:=hv;clear ak i w';simp only[Au,af,aX,av]
 iterate 2 (refine An rfl rfl rfl ?_;intro K hK;go_big_quiet_op;go_big_quiet_on)
 refine A9 rfl rfl (fun w' i hA=>?_) ?_
 ·refine AD (f:=64) (al:=[Y ao d.Ab.length co]) rfl rfl rfl Tn ?_;exact(Sf _ d.Ab.length _ w' (b5.o w' (S.o.trans (i.mono S.o.size))) (by omega) b0.o).mono fun e w2 h=>by
   obtain⟨v',he,V,ai⟩:=h;obtain⟨a,c,rfl⟩:=Bq V;exact⟨_,he,ai,a,c,rfl,Cx V i.size⟩
 intro v w' i hv;obtain⟨C,c3,rfl,ak⟩:=hv;clear ak i w';simp only[Au,af,aX,av]
 iterate 2 (refine An rfl rfl rfl ?_;intro K hK;go_big_quiet_op;go_big_quiet_on)
 refine A9 rfl rfl (fun w' i hA=>?_) ?_
 ·refine AD (f:=65) (al:=[Y ac d.procs.length cc]) rfl rfl rfl Tm ?_;exact(Sd _ d.procs.length _ w' (b6.o w' (S.o.trans (i.mono S.o.size))) (by omega) b1.o).mono fun e w2 h=>by
   obtain⟨v',he,V,ai⟩:=h;obtain⟨a,c,rfl⟩:=Bq V;exact⟨_,he,ai,a,c,rfl,Cx V i.size⟩
 intro v w' i hv;obtain⟨t,c4,rfl,ak⟩:=hv;clear ak i w';simp only[Au,af,aX,av]
 iterate 1 (refine An rfl rfl rfl ?_;intro K hK;go_big_quiet_op;go_big_quiet_on)
 refine AH rfl ?_
 iterate 1 (refine Bi rfl rfl rfl ?_;intro K hK;go_big_quiet_op;go_big_quiet_on)
 refine AH rfl ?_
 iterate 1 (refine Bi rfl rfl rfl ?_;intro K hK;go_big_quiet_op;go_big_quiet_on)
 refine AH rfl ?_
 iterate 1 (refine Bi rfl rfl rfl ?_;intro K hK;go_big_quiet_op;go_big_quiet_on)
 refine AH rfl ?_;refine AR ?_;intro r E aw;obtain⟨_,_,_,cj⟩:DF m.heap.size 3 1 d.semas.length ((ag d.semas.length).flatMap (Gz d)) (Y s d.semas.length c1) r:=aw 2 _ (by decide) rfl;obtain⟨_,_,_,ck⟩:DF m.heap.size 3 1 d.bufs.length ((ag d.bufs.length).flatMap (Gg d)) (Y B d.bufs.length c2) r:=aw 5 _ (by decide) rfl;obtain⟨_,_,_,cl⟩:DF m.heap.size 62 6 d.Ab.length ((ag d.Ab.length).flatMap (Gw d an)) (Y C d.Ab.length c3) r:=aw 8 _ (by decide) rfl;obtain⟨_,_,_,cm⟩:DF m.heap.size 68 5 d.procs.length ((ag d.procs.length).flatMap (I2 d aD X)) (Y t d.procs.length c4) r:=aw 11 _ (by decide) rfl;have bl:=(E.block g bi).trans bz.o;have bL:=(E.block (g+1) (Aa aP.o)).trans aP.o;have z0:r.cell? ⟨g,4,O⟩=Z (Y sa d.semas.length cs):=Cr bl;have f0:r.frozen? ⟨g,4,O⟩=false:=by simp[cH,bl]
 obtain⟨P,aH⟩:=ex (r.setCell ⟨g,4,O⟩ (Y s d.semas.length c1));refine AI (w':=P) (by rw[aH];simp[dG,go_sem,z0,f0]) ?_;have k1:P.heap[g]? =Z (T #[.string nm,I J N,I J H,I J d.mem,Y s d.semas.length c1,I J d.events,I J d.boards,Y ab d.bufs.length cb,Y ao d.Ab.length co,Y ac d.procs.length cc] 26 (0,0)):=by rw[aH,cS r g 4 _ _ _ bl];rfl
 have o1:∀ b,b≠g→P.heap[b]? =r.heap[b]?:=fun b i=>by rw[aH];exact cA _ _ _ _ i
 have s1:P.heap.size=r.heap.size:=by rw[aH];simp[cG]
 have e1:P.os=r.os∧P.tape=r.tape∧P.output=r.output:=by rw[aH];exact⟨rfl,rfl,rfl⟩
 have z1:P.cell? ⟨g,7,O⟩=Z (Y ab d.bufs.length cb):=Cr k1;have f1:P.frozen? ⟨g,7,O⟩=false:=by simp[cH,k1]
 obtain⟨Q,aI⟩:=ex (P.setCell ⟨g,7,O⟩ (Y B d.bufs.length c2));refine AI (w':=Q) (by rw[aI];simp[dG,go_sem,z1,f1]) ?_;have k2:Q.heap[g]? =Z (T #[.string nm,I J N,I J H,I J d.mem,Y s d.semas.length c1,I J d.events,I J d.boards,Y B d.bufs.length c2,Y ao d.Ab.length co,Y ac d.procs.length cc] 26 (0,0)):=by rw[aI,cS P g 7 _ _ _ k1];rfl
 have o2:∀ b,b≠g→Q.heap[b]? =P.heap[b]?:=fun b i=>by rw[aI];exact cA _ _ _ _ i
 have s2:Q.heap.size=P.heap.size:=by rw[aI];simp[cG]
 have e2:Q.os=P.os∧Q.tape=P.tape∧Q.output=P.output:=by rw[aI];exact⟨rfl,rfl,rfl⟩
 have z2:Q.cell? ⟨g,8,O⟩=Z (Y ao d.Ab.length co):=Cr k2;have f2:Q.frozen? ⟨g,8,O⟩=false:=by simp[cH,k2]
 obtain⟨R,aJ⟩:=ex (Q.setCell ⟨g,8,O⟩ (Y C d.Ab.length c3));refine AI (w':=R) (by rw[aJ];simp[dG,go_sem,z2,f2]) ?_;have k3:R.heap[g]? =Z (T #[.string nm,I J N,I J H,I J d.mem,Y s d.semas.length c1,I J d.events,I J d.boards,Y B d.bufs.length c2,Y C d.Ab.length c3,Y ac d.procs.length cc] 26 (0,0)):=by rw[aJ,cS Q g 8 _ _ _ k2];rfl
 have o3:∀ b,b≠g→R.heap[b]? =Q.heap[b]?:=fun b i=>by rw[aJ];exact cA _ _ _ _ i
 have s3:R.heap.size=Q.heap.size:=by rw[aJ];simp[cG]
 have e3:R.os=Q.os∧R.tape=Q.tape∧R.output=Q.output:=by rw[aJ];exact⟨rfl,rfl,rfl⟩
 have z3:R.cell? ⟨g,9,O⟩=Z (Y ac d.procs.length cc):=Cr k3;have f3:R.frozen? ⟨g,9,O⟩=false:=by simp[cH,k3]
 obtain⟨p,aK⟩:=ex (R.setCell ⟨g,9,O⟩ (Y t d.procs.length c4));refine AI (w':=p) (by rw[aK];simp[dG,go_sem,z3,f3]) ?_;have k4:p.heap[g]? =Z (T #[.string nm,I J N,I J H,I J d.mem,Y s d.semas.length c1,I J d.events,I J d.boards,Y B d.bufs.length c2,Y C d.Ab.length c3,Y t d.procs.length c4] 26 (0,0)):=by rw[aK,cS R g 9 _ _ _ k3];rfl
 have o4:∀ b,b≠g→p.heap[b]? =R.heap[b]?:=fun b i=>by rw[aK];exact cA _ _ _ _ i
 have s4:p.heap.size=R.heap.size:=by rw[aK];simp[cG]
 have e4:p.os=R.os∧p.tape=R.tape∧p.output=R.output:=by rw[aK];exact⟨rfl,rfl,rfl⟩
 unfold A7;have cw:=E.size;have aN:w.heap.size≤m.heap.size:=S.o.size;have hoth:∀ b,b≠g→p.heap[b]? =r.heap[b]?:=fun b i=>(o4 b i).trans ((o3 b i).trans ((o2 b i).trans (o1 b i)));have bp:p.heap.size=r.heap.size:=by rw[s4,s3,s2,s1]
 have cW:m.heap.size≠g:=by have:=HG.o;omega
 have ch:g<m.heap.size:=bi;have cd:Bl w p:=⟨by rw[e4.1,e3.1,e2.1,e1.1,E.os];exact S.o.os,by rw[e4.2.1,e3.2.1,e2.2.1,e1.2.1,E.tape];exact S.o.tape,by rw[e4.2.2,e3.2.2,e2.2.2,e1.2.2,E.output];exact S.o.output,by rw[bp];omega,fun b i=>by
  rw[hoth b (by have:=HG.o;omega),E.block b (by omega)];exact S.o.block b i⟩
 have aW:∀ {e:cZ} {sz n:Nat} {v:bR} {xs:List bR},r.ownsRow m.heap.size e sz v n xs→p.ownsRow m.heap.size e sz v n xs:=fun h=>Bp h fun b h1 h2=>hoth b (by omega);have P3:Hq (GB m.heap.size d an s B C c1 c2 c3 p):=⟨aW cj,aW ck,aW cl⟩;have p4:=aW cm;obtain⟨q,hq,c9,bN⟩:=Am.Bw (D:=fun _=>False) (g0:=g+1) (El:=fun w D b o (k:Nat)=>AN w b o (I2 d aD X k)) p4 (by simp) (fun _=>rfl) (fun _ _ h=>h) (fun h=>h) (by rw[bp];have:=Aa bL;omega) (fun b o x _ hc=>hc);have HQ:Hq (0<d.procs.length→m.heap.size≤q):=fun h0=>by
  have hp:=bN.ptr (by simpa using h0);exact(F8 (b:=q) p4 (by rw[hp];rfl)).1
 have aQ:Hq (w.heap.size<q):=by have:=HG.o;show w.heap.size<q;rcases hq with h|h<;>omega
 have cQ:Hq (q<p.heap.size):=c9;have HR:Hq (Am p (fun _=>False) q 68 5 t c4 IH ((ag d.procs.length).map fun k=>((aD k,X k),d.procs.getD k default))):=bN.conv (by simp) (fun h=>h) (fun k F dn h=>by
  simp only[List.getElem_map,cq] at h ⊢;exact h)
 have bW:=HH k4;have bX:Hq (p.heap[g+1]? =Z (T #[.string ⟨#[]⟩,I J 0,I J 0,I J 0,Y O 0 0,I J 0,I J 0,Y O 0 0,Y O 0 0,Y O 0 0] 26 (0,0))):=(hoth (g+1) (by omega)).trans bL;have aF:=HH cd;have y9:p.cell? ⟨g,9,O⟩=Z (Y t d.procs.length c4):=Cr k4;have cP:=HH ch;have bU:Hq (g+1<m.heap.size):=Aa aP.o;have b7:Hq (m.heap.size≤p.heap.size):=by show _≤_;rw[bp];exact cw
 clear aw bl bL z0 z1 z2 z3 f0 f1 f2 f3 aH aI aJ aK k1 k2 k3 k4 o1 o2 o3 o4 s1 s2 s3 s4 e1 e2 e3 e4 hoth bp cW cd aW cj ck cl cm p4 hq bN q4 q7 q8 q9 E cw aN bi ch bz aP bY bZ b0 b1 b3 b4 b5 b6;go_wp2_with fail
 go_loopw [3,23] (fun _ v wr=>∃ k:Nat,k≤d.procs.length∧v=I J k∧∃ L:List ((ByteArray×bR)×Eu),Hq (Upd [q] p wr∧wr.heap[g+1]? =p.heap[g+1]?∧GB m.heap.size d an s B C c1 c2 c3 wr∧Am wr (fun _=>False) q 68 5 t c4 IH L∧L.map (·.2)=d.procs∧(∀ j x,j<k→L[j]? =Z x→LH wr p.heap.size x.1.2 x.2)∧(∀ j x,k≤j→L[j]? =Z x→x.1.2=X j))) (fun _ v _=>d.procs.length-(intOf v).toNat)
 case atStart=>
  refine⟨0,dz _,rfl,_,Upd.refl _ _,rfl,P3.o,HR.o,?_,fun j x hj=>absurd hj (Nat.not_lt_zero _),fun j x _ hx=>?_⟩
  ·apply List.ext_getElem
   ·simp
   ·intro k h1 h2;simp[ba,aY h2]
  ·have hj:=(cv.1 hx).1;rw[cI,List.getElem?_range (by simpa using hj)] at hx;simp only[Option.map_some,cz] at hx;rw[←hx]
 case round=>
  obtain⟨k,dp,rfl,L,A⟩:=hrel;obtain⟨l,bh,h3,hr,hm,bm,bg⟩:=A.o;have aR:L.length=d.procs.length:=by rw[←hm];simp
  have bM:g≠q:=by have:=HG.o;have:=aQ.o;omega
  have aM:wr.heap[g]? =Z (T #[.string nm,I J N,I J H,I J d.mem,Y s d.semas.length c1,I J d.events,I J d.boards,Y B d.bufs.length c2,Y C d.Ab.length c3,Y t d.procs.length c4] 26 (0,0)):=(l.block g (Aa bW.o) (by simpa using bM)).trans bW.o;have c6:=Aa aM;by_cases F:k<d.procs.length
  ·have dq:(k:Int)<(d.procs.length:Int):=by omega
   have aT:k<L.length:=by omega
   have dw:=l.size;have db:=b7.o;have aN:w.heap.size≤m.heap.size:=S.o.size;have bd:Bl w wr:=aF.o.trans ⟨l.os,l.tape,l.output,by have:=aF.o.size;omega,fun b i=>l.block b (by have:=aF.o.size;omega) (by have:=aQ.o;simp only[cB];omega)⟩;have cap:=hr.cap;rw[aR] at cap;have cp:=hr.ptr (by omega);obtain⟨y,hy⟩:=ex (d.procs.getD k default);obtain⟨x,hx⟩:=ex (L[k]);have bq:L[k]? =Z x:=by rw[hx];exact aY aT
   have cx:x.2=y:=by
    have:d.procs[k]? =Z x.2:=by rw[←hm,cI,bq];rfl
    rw[hy,ba,this];rfl
   have cy:x.1.2=X k:=bg k x (cJ _) bq;have bE:AN wr q (k*5) (I1 x.1.1 x.1.2 x.2):=by rw[hx];exact hr.el k aT
   obtain⟨ic,bP,bj⟩:=bS.o k F;rw[←hy] at bj;have b9:wr.cell? ⟨q,k*5+4,O⟩=Z (Y ic y.code.length bP):=by rw[←bj,←cy];exact bE 4 _ rfl
   have cr:=hr.lt;have dl:=cP.o;have cR:Hq (∀ W,Bl wr W→Sl W 0 4 (Y ic y.code.length bP) y.code.length (EP y.code)):=fun W i=>by
    have:=cL.o k F W (bd.trans (i.mono bd.size));rw[←hy,bj] at this;exact this
   have bf:=cM.o k F;rw[←hy] at bf;clear hy;have bG:wr.cell? ⟨g,9,O⟩=Z (Y t d.procs.length c4):=Cr aM;rw[cp] at bG;have q9:=qC bG c6;have qc:=qC b9 cr;obtain⟨HA,H3,cO⟩:=H3 A h3 bh;have c0:g+1<wr.heap.size:=by have:=bX.o;have:=Aa this;omega
   obtain⟨HX,aG,bV,HU,HM,bA,aZ,bT,df,aQ⟩:=QZ (And.intro cx (And.intro bq bE)) bd hr l hm aR bm bg aM bM;clear A bh h3 l hr hm bm bg aR aM bq hx cx cy bE bj b9 bd bG bM cp;go_upto_region 5 with (fail);refine AS 13 [12] [] [(9,DF wr.heap.size 64 4 y.code.length (EP y.code))] ⟨DF.AX,trivial⟩ ?_
   iterate 9 (refine An rfl rfl rfl ?_;intro K hK;go_big_quiet_op;go_big_quiet_on)
   refine A9 rfl rfl (fun w' i hA=>?_) ?_
   ·refine AD (f:=66) (al:=[Y ic y.code.length bP]) rfl rfl rfl Tl ?_;exact(Sc _ y.code.length _ w' (cR.o w' i) (by omega) (fun u l=>by obtain⟨y,_,hy⟩:=dc.1 l;simp only[cX,cN,or_false] at hy;rcases hy with rfl|rfl|rfl|rfl<;>rfl)).mono fun e w2 h=>by
     obtain⟨v',he,V,ai⟩:=h;obtain⟨a,c,rfl⟩:=Bq V;exact⟨_,he,ai,a,c,rfl,Cx V i.size⟩
   intro v w' i hv;obtain⟨a5,c5,rfl,ak⟩:=hv;clear ak i w';simp only[Au,af,aX,av]
   iterate 2 (refine An rfl rfl rfl ?_;intro K hK;go_big_quiet_op;go_big_quiet_on)
   refine AH rfl ?_;refine AR ?_;intro r E aw;obtain⟨_,_,_,cn⟩:DF wr.heap.size 64 4 y.code.length (EP y.code) (Y a5 y.code.length c5) r:=aw 9 _ (by decide) rfl;have aV:=bV.o.below Lb E;have bF:AN r q (k*5) (I1 x.1.1 x.1.2 x.2):=HX.o.2.2.block (E.block q cr);have z0:r.cell? ⟨q,k*5+4,O⟩=Z x.1.2:=bF 4 _ rfl;have f0:r.frozen? ⟨q,k*5+4,O⟩=false:=aV.frozen (by omega) _;obtain⟨aa,hY⟩:=ex (r.setCell ⟨q,k*5+4,O⟩ (Y a5 y.code.length c5));refine AI (w':=aa) (by rw[hY];simp[dG,go_sem,z0,f0]) ?_;unfold A7;have ct:Am aa (fun _=>False) q 68 5 t c4 IH (L.set k ((x.1.1,Y a5 y.code.length c5),x.2)):=by
    rw[hY];obtain⟨ar,bD,_⟩:=aV.blk (by omega);exact aV.YL Lb aT (by decide) _ (bF.set bD 4 _)
   have aU:∀ b,b≠q→aa.heap[b]? =r.heap[b]?:=fun b i=>by rw[hY];exact cA _ _ _ _ i
   have da:aa.heap.size=r.heap.size:=by rw[hY];simp[cG]
   have dv:=E.size;have ce:Upd [q] p aa:=by
    have l:=HU.o.trans (Upd.below E);rw[hY];exact l.trans (Upd.Cc (M:=[q]) (by simp) (k*5) [(4,_)])
   have HF:Hq (Upd [q] p aa∧aa.heap[g+1]? =p.heap[g+1]?∧GB m.heap.size d an s B C c1 c2 c3 aa∧Am aa (fun _=>False) q 68 5 t c4 IH (L.set k ((x.1.1,Y a5 y.code.length c5),x.2))∧(L.set k ((x.1.1,Y a5 y.code.length c5),x.2)).map (·.2)=d.procs∧(∀ j z,j<k+1→(L.set k ((x.1.1,Y a5 y.code.length c5),x.2))[j]? =Z z→LH aa p.heap.size z.1.2 z.2)∧(∀ j z,k+1≤j→(L.set k ((x.1.1,Y a5 y.code.length c5),x.2))[j]? =Z z→z.1.2=X j)):=by
    refine⟨ce,(aU _ (by have:=HQ.o (by omega);have:=bU.o;omega)).trans ((E.block _ c0).trans cO.o),?_,ct,?_,fun j z hj hz=>?_,fun j z hj hz=>?_⟩
    ·obtain⟨ar,bD,_⟩:=aV.blk (by omega);exact(H3.o.below E).Ga bD fun b i _=>aU b i
    ·rw[List.map_set];have hm:L.map (·.2)=d.procs:=HM.o;rw[←hm];apply dH;intro j;by_cases e:k=j
     ·subst e;rw[dA (by simpa using aT),cI,HX.o.2.1];rfl
     ·rw[cU e]
    ·by_cases e:k=j
     ·subst e;rw[dA aT] at hz;simp only[cz] at hz;rw[←hz];show aa.ownsRow _ _ _ _ _ _;rw[HX.o.1];exact Cx (Bp cn fun b h1 _=>aU b (by omega)) (by omega)
     ·rw[cU e] at hz;have:=aZ.o j z (by omega) hz;exact Bp this fun b h1 h2=>(aU b (by have:=cQ.o;omega)).trans (E.block b h2)
    ·rw[cU (by omega)] at hz;exact bT.o j z (by omega) hz
   clear hY ct aU da ce aV bF z0 f0 cn aw E q9 qc bV aZ bT HM HX HU;go_wp2_with fail
   go_roundw
   case rel=>exact⟨k+1,by omega,by go_num,_,HF.o⟩
   case measure=>simp[intOf];omega
  ·have c7:k=d.procs.length:=by omega
   subst c7;have br:wr.heap[g+1]? =Z (T #[.string ⟨#[]⟩,I J 0,I J 0,I J 0,Y O 0 0,I J 0,I J 0,Y O 0 0,Y O 0 0,Y O 0 0] 26 (0,0)):=bh.trans bX.o;have di:∀ o,wr.frozen? ⟨g+1,o,O⟩=false:=fun o=>by simp[cH,br]
   have aN:w.heap.size≤m.heap.size:=S.o.size;have db:=b7.o;have aG:Hq (Bl w wr):=aF.o.trans ⟨l.os,l.tape,l.output,by have:=aF.o.size;have:=l.size;omega,fun b i=>l.block b (by have:=aF.o.size;omega) (by have:=aQ.o;simp only[cB];omega)⟩;obtain⟨y0,y1,y2,y3,y4,y5,y6,y7,y8,y9⟩:=DV aM;obtain⟨v0,v1,v2,v3,v4,v5,v6,v7,v8,v9⟩:=DV br;obtain⟨H3,HR,HM,aZ,HZ,bA⟩:=H6 h3 hr hm bm br aR;clear A l bh h3 hr hm bm bg br aM aR;go_wp2_with fail;show bodyPost _ _ _ _ _ (setsAt wr (g+1) 0 [(0,.string nm),(1,I J N),(2,I J H),(3,I J d.mem),(4,Y s d.semas.length c1),(5,I J d.events),(6,I J d.boards),(7,Y B d.bufs.length c2),(8,Y C d.Ab.length c3),(9,Y t d.procs.length c4)]);have hh:=Di [(0,.string nm),(1,I J N),(2,I J H),(3,I J d.mem),(4,Y s d.semas.length c1),(5,I J d.events),(6,I J d.boards),(7,Y B d.bufs.length c2),(8,Y C d.Ab.length c3),(9,Y t d.procs.length c4)] HZ.o;simp only[Er,af,aX,av] at hh;have aC:∀ b,b≠g+1→(setsAt wr (g+1) 0 [(0,.string nm),(1,I J N),(2,I J H),(3,I J d.mem),(4,Y s d.semas.length c1),(5,I J d.events),(6,I J d.boards),(7,Y B d.bufs.length c2),(8,Y C d.Ab.length c3),(9,Y t d.procs.length c4)]).heap[b]? =wr.heap[b]?:=fun b i=>AU i _ _
   have bC:(setsAt wr (g+1) 0 [(0,.string nm),(1,I J N),(2,I J H),(3,I J d.mem),(4,Y s d.semas.length c1),(5,I J d.events),(6,I J d.boards),(7,Y B d.bufs.length c2),(8,Y C d.Ab.length c3),(9,Y t d.procs.length c4)]).heap.size=wr.heap.size:=BO _ _;have be:=Be (b:=g+1) (o:=0) [(0,.string nm),(1,I J N),(2,I J H),(3,I J d.mem),(4,Y s d.semas.length c1),(5,I J d.events),(6,I J d.boards),(7,Y B d.bufs.length c2),(8,Y C d.Ab.length c3),(9,Y t d.procs.length c4)] wr;generalize setsAt wr (g+1) 0 [(0,.string nm),(1,I J N),(2,I J H),(3,I J d.mem),(4,Y s d.semas.length c1),(5,I J d.events),(6,I J d.boards),(7,Y B d.bufs.length c2),(8,Y C d.Ab.length c3),(9,Y t d.procs.length c4)]=dh at hh aC bC be ⊢;have dk:=bU.o;have dj:=HG.o;refine bodyPost_ret_by (v:=.agg #[.string nm,I J N,I J H,I J d.mem,Y s d.semas.length c1,I J d.events,I J d.boards,Y B d.bufs.length c2,Y C d.Ab.length c3,Y t d.procs.length c4]) (results_cell_row rfl _ _ (g+1) 26 #[.string nm,I J N,I J H,I J d.mem,Y s d.semas.length c1,I J d.events,I J d.boards,Y B d.bufs.length c2,Y C d.Ab.length c3,Y t d.procs.length c4] (0,0) _ rfl hh underlying26 rfl (by kernel_rfl)) rfl ?_;refine⟨_,rfl,⟨s,B,C,t,c1,c2,c3,c4,an,q,L,rfl,Cx (Bp H3.o.1 fun b h1 _=>aC b (by omega)) aN,Cx (Bp H3.o.2.1 fun b h1 _=>aC b (by omega)) aN,Cx (Bp H3.o.2.2 fun b h1 _=>aC b (by omega)) aN,HR.o.Ag Lb ⟨Nat.le_of_eq bC.symm,fun b hd=>hd.elim⟩ (fun h0=>aC q (by have:=HQ.o (by have:=bA.o;omega);omega)),Nat.le_of_lt aQ.o,HM.o,fun x hx=>?_⟩,⟨be.1.trans aG.o.os,be.2.1.trans aG.o.tape,be.2.2.trans aG.o.output,by rw[bC];exact aG.o.size,fun b i=>(aC b (by omega)).trans (aG.o.block b i)⟩⟩;obtain⟨j,hj⟩:=List.getElem?_of_mem hx;have dm:=(cv.1 hj).1;exact Cx (Bp (aZ.o j x (by have:=bA.o;omega) hj) fun b h1 _=>aC b (by omega)) (by omega)
section
variable {d:Ad} {n:Int} {x:Ai}
def VR(h:Eh d n x=true):JE d x:=by
 unfold Eh at h;simp only[cD,de,dI] at h;obtain⟨j,i⟩:=h;have f:∀ (k:Int) (c:UInt8) (m:Nat),x.op=k→(lettP k).length=m+1→(lettP k).getD 0 0=c→BD d n x.a (c.toNat:Int) x.a=true:=by
  rintro k c m rfl b g;have:=i 0 (by omega);unfold Jk at this;rw[g] at this;exact this
 refine⟨fun e=>?_,fun e=>?_,fun e=>?_,fun e=>?_,fun e=>?_,fun e=>?_⟩
 ·have b:BD d n x.a 111 x.a=true:=f 7 111 2 e (by kernel_rfl) (by kernel_rfl);rw[Pn] at b;simpa using b
 ·have b:BD d n x.a 105 x.a=true:=f 8 105 2 e (by kernel_rfl) (by kernel_rfl);rw[Pm] at b;simpa using b
 ·have b:BD d n x.a 115 x.a=true:=by
   rcases e with e|e
   ·exact f 9 115 0 e (by kernel_rfl) (by kernel_rfl)
   ·exact f 10 115 0 e (by kernel_rfl) (by kernel_rfl)
  rw[Po] at b;simpa using b
 ·have b:BD d n x.a 101 x.a=true:=by
   rcases e with e|e|e
   ·exact f 11 101 0 e (by kernel_rfl) (by kernel_rfl)
   ·exact f 12 101 0 e (by kernel_rfl) (by kernel_rfl)
   ·exact f 13 101 0 e (by kernel_rfl) (by kernel_rfl)
  rw[Pk] at b;simpa using b
 ·have b:BD d n x.a 98 x.a=true:=by
   rcases e with e|e
   ·exact f 14 98 1 e (by kernel_rfl) (by kernel_rfl)
   ·exact f 15 98 1 e (by kernel_rfl) (by kernel_rfl)
  rw[Pp] at b;simpa using b
 ·have b:BD d n x.a 100 x.a=true:=by
   rcases e with e|e|e
   ·exact f 16 100 1 e (by kernel_rfl) (by kernel_rfl)
   ·exact f 17 100 1 e (by kernel_rfl) (by kernel_rfl)
   ·exact f 18 100 0 e (by kernel_rfl) (by kernel_rfl)
  rw[Pj] at b;simpa using b
def Yd{k:CV}(h:FU k=true):k.size≤64:=by
 unfold FU at h;rw[Bool.or_eq_true] at h;rcases h with h|h
 ·simp only[DZ,cD,decide_eq_true_eq] at h;omega
 ·simp only[BP,Fm,Ey,cD,Bool.not_eq_true',Bool.or_eq_false_iff,decide_eq_false_iff_not] at h;omega
def OR{a b m:Int}:A5 a b m=true↔a≤m∧m≤b:=by simp[A5]
def Oc(h:E6 d=true)(m:∀ c∈d.procs,∀ x∈c.code,0≤x.op∧x.op≤255):Ik d∧JF d:=by
 unfold E6 at h;simp only[cD,de,OR,decide_eq_true_eq] at h;obtain⟨e,g,w,i,j,k,l,y,z,f⟩:=h;have b:∀ c∈d.procs,NB c∧∀ x∈c.code,JE d x:=fun c a=>by
  have:=f c a;unfold Gx at this;simp only[cD,de,OR,decide_eq_true_eq] at this;obtain⟨r,s,t,u,v⟩:=this;exact⟨⟨u,m c a,r,s,t⟩,fun x q=>VR (v x q)⟩
 refine⟨⟨k,g,by omega,by omega,i,j,e,fun c a=>(b c a).1⟩,⟨fun c a=>(b c a).2,fun p o=>Yd (l p o)⟩⟩
end
def Am.ML{w:bQ}{D:Nat→Prop}{B sz g0:Nat}{t:cZ}{α:Type}{El:bQ→(Nat→Prop)→Nat→Nat→α→Prop}{a:Option dy}{n c:Nat}{cells:α→List bR}{l:List α}(h:w.ownsRow B t sz (Y a n c) n (l.flatMap cells))(H:l.length=n)(m:∀ x,(cells x).length=sz)(z:∀ b r,w.heap[b]? =Z (T r t (0,0))→¬D b)(E:¬D g0)(F:g0<w.heap.size)
  (C:∀ b o x,x∈l→AN w b o (cells x)→El w D b o x):∃ b,(b=g0∨B≤b)∧Am w D b t sz a c El l:=by
 obtain⟨N,h⟩:=h;rcases h with ⟨d,M⟩|⟨q,cap,cur,d,A,e,s,_,v,y⟩
 ·simp only[b8] at d;obtain⟨rfl,_,rfl⟩:=d;refine⟨g0,.inl rfl,by omega,fun _=>rfl,fun h=>by omega,E,F,fun h=>by omega,fun k f=>by omega⟩
 ·simp only[b8] at d;obtain⟨rfl,_,rfl⟩:=d;have L:n*sz≤c*sz:=dD sz s;refine⟨q,.inr A,by omega,fun h=>by(cases h),fun _=>rfl,z q cur e,Aa e,fun _=>⟨cur,e,by rw[H,v];exact L⟩,fun k f=>C _ _ _ (dd f) fun j u p=>?_⟩;have i:=(cv.1 p).1;rw[m] at i;have K:k*sz+j<n*sz:=by
   have:(k+1)*sz≤n*sz:=dD sz (by omega);rw[Nat.add_mul] at this;omega
  rw[Cr e];have g:=It m l k j f i;rw[←y,List.getElem?_take,if_pos K] at g;rw[←Array.getElem?_toList,g];exact p
def Am.at_{α β:Type}{w:bQ}{D D':Nat→Prop}{b g0 sz c:Nat}{t:cZ}{a:Option dy}{El:bQ→(Nat→Prop)→Nat→Nat→α→Prop}{El':bQ→(Nat→Prop)→Nat→Nat→β→Prop}{l:List α}{l':List β}(h:Am w D b t sz a c El l)(p:l.length=l'.length)(g:∀ b e,w.heap[b]? =Z (T e t (0,0))→¬D' b)(m:¬D' g0)(n:g0<w.heap.size)
  (j:∀ k (o:k<l.length) (q:k<l'.length),El w D b (k*sz) l[k]→El' w D' b (k*sz) l'[k]):∃ d,(d=g0∨d=b)∧Am w D' d t sz a c El' l':=by
 by_cases f:0<l.length
 ·obtain⟨e,i,_⟩:=h.blk f;exact⟨b,.inr rfl,h.conv p (g b e i) j⟩
 ·exact⟨g0,.inl rfl,by have:=h.cap;omega,h.nil,fun h=>by omega,m,n,fun h=>by omega,fun k o=>by omega⟩
def PG{w:bQ}{D:Nat→Prop}{B sz n:Nat}{t:cZ}{v:bR}{k:List bR}(h:w.ownsRow B t sz v n k)(i:∀ b f,B≤b→w.heap[b]? =Z (T f t (0,0))→D b):Ct D v:=fun a m c d _=>by
 rcases h.2 with ⟨e,_⟩|⟨q,cap,cur,e,g,j,_⟩
 ·rw[d] at e;cases e
 ·rw[d] at e;simp only[b8,cz] at e;rw[e.1];exact i q cur g j
def Vh:(prog.info? 5).map (fun i=>(i.zero,i.size,i.bytes))=Z (Z (I U 0),1,1):=by kernel_rfl
def Xs(n:Nat)(f:n≤10000)(W:bQ):(Instr.makeSlice 34 (I J (n:Int)) (I J (n:Int))).run prog W=.ok (Y (Z ⟨W.heap.size,0,O⟩) n n) (W.alloc (T (dE #[I U 0] (n*1)) 5)):=by
 obtain⟨e,a,b,c,d⟩:=info_parts Vh;have:=run_make (P:=prog) W 34 5 e _ underlying34 a b J J n n (by omega) (Int.le_refl _) (by rw[d];omega) (by omega);rw[c,Int.toNat_natCast] at this;exact this
def J8(B n:Nat)(v:bR)(w:bQ):Prop:=∃ q,B≤q∧v=Y (Z ⟨q,0,O⟩) n n∧w.heap[q]? =Z (T (dE #[I U 0] (n*1)) 5 (0,0))
def J8.AX{B n:Nat}:DO (J8 B n):=fun _ _ _ ⟨q,b,c,a⟩ d=>⟨q,b,c,(d.block _ (Aa a)).trans a⟩
def Bx(B:Nat)(t:cZ)(a:Array bR)(v:bR)(w:bQ):Prop:=∃ q,B≤q∧v=G (Z ⟨q,0,O⟩)∧w.heap[q]? =Z (T a t (0,0))
def Bx.AX{B:Nat}{t:cZ}{b:Array bR}:DO (Bx B t b):=fun _ _ _ ⟨q,c,d,a⟩ e=>⟨q,c,d,(e.block _ (Aa a)).trans a⟩
def RH{w:bQ}{b:Nat}{d e:Array bR}{t c:cZ}{f g:Nat×Nat}(h:w.heap[b]? =Z (T d t f))(a:w.heap[b]? =Z (T e c g)):t=c:=by
 rw[h] at a;simp only[cz,Obj.cells.injEq] at a;exact a.2.1
def X0(d:Ad)(nm:ByteArray)(F E:Int)(u f:bQ)(g p n:Nat)(z A B H:Option dy)(c1 c2 c3 c4:Nat)(hn:d.mem=(n:Int))(H0:Ha u.heap.size d nm F E (.agg #[.string nm,I J F,I J E,I J d.mem,Y z d.semas.length c1,I J d.events,I J d.boards,Y A d.bufs.length c2,Y B d.Ab.length c3,Y H d.procs.length c4]) f)
  (ar:u.heap.size≤p) (N:f.heap[p]? =Z (T (dE #[I U 0] (n*1)) 5 (0,0))) (aq:u.heap.size≤g) (M:f.heap[g]? =Z (T #[.string nm,I J F,I J E,I J d.mem,Y z d.semas.length c1,I J d.events,I J d.boards,Y A d.bufs.length c2,Y B d.Ab.length c3,Y H d.procs.length c4,Y O 0 0,Y O 0 0,Y O 0 0,Y O 0 0,Y O 0 0,Y O 0 0,Y O 0 0,I U 0,I J 0,Y (Z ⟨p,0,O⟩) n n,.bool true] 88 (0,0))):
  ∃ V D,PB f D g d V (Y O 0 0) (Y O 0 0) (Y O 0 0) (Y O 0 0) (Y O 0 0) (Y O 0 0) (Y O 0 0) 0 0 (cF n 0)∧(∀ b,D b→u.heap.size≤b∧b<f.heap.size)∧∀ b∈Hf g V,u.heap.size≤b∧b<f.heap.size:=by
 obtain⟨aH,aI,aJ,aK,aL,aM,aN,aO,az,q,L,e,o1,o2,o3,hr,hq,hm,i⟩:=H0;simp only[Value.agg.injEq,Array.mk.injEq,List.cons.injEq,b8,and_true,true_and] at e;obtain⟨⟨rfl,rfl⟩,⟨rfl,rfl⟩,⟨rfl,rfl⟩,rfl,rfl⟩:=e;obtain⟨D,K⟩:∃ D:Nat→Prop,D=fun b=>u.heap.size≤b∧∃ c,f.heap[b]? =Z (T c 64 (0,0)):=⟨_,rfl⟩;have s:∀ b c t,f.heap[b]? =Z (T c t (0,0))→t≠64→¬D b:=fun b c t a ht X=>by
  rw[K] at X;obtain⟨_,aP,h'⟩:=X;exact ht (RH a h')
 have v:=Aa M;have y:¬D g:=s g _ _ M (by decide);obtain⟨Q,aj,P⟩:=Am.ML (D:=D) (g0:=g) (El:=fun w _ b o (k:Nat)=>AN w b o (Gz d k)) o1 (by simp) (fun _=>rfl) (fun b c a=>s b c _ a (by decide)) y v (fun b o x _ i=>i);obtain⟨R,ak,r2⟩:=Am.ML (D:=D) (g0:=g) (El:=fun w _ b o (k:Nat)=>AN w b o (Gg d k)) o2 (by simp) (fun _=>rfl) (fun b c a=>s b c _ a (by decide)) y v (fun b o x _ i=>i);obtain⟨S,al,r3⟩:=Am.ML (D:=D) (g0:=g) (El:=fun w _ b o (k:Nat)=>AN w b o (Gw d az k)) o3 (by simp) (fun _=>rfl) (fun b c a=>s b c _ a (by decide)) y v (fun b o x _ i=>i);have ap:L.length=d.procs.length:=by rw[←hm];simp
 obtain⟨b4,am,r4⟩:=hr.at_ (El':=K3) (l':=d.procs) (D':=D) ap (fun b c a=>s b c _ a (by decide)) y v (fun k m r h=>by
  have C:d.procs[k]? =Z L[k].2:=by rw[←hm,cI,aY m];rfl
  have C:d.procs[k]=L[k].2:=by rw[aY r] at C;exact Option.some.inj C
  have ho:=i _ (dd m);rw[C];exact⟨L[k].1.1,L[k].1.2,h,(Sl.Bw ho).mono (dz _),PG ho fun b c hB a=>by rw[K];exact⟨hB,c,a⟩⟩)
 have W:∀ {l:List Int} {k:Nat} (m:k<l.length),l.getD k 0=l[k]:=fun m=>by rw[ba,aY m];rfl
 have s1:Am f D Q 3 1 z c1 (fun w _ b o x=>Ii w b o x) d.semas:=P.conv (by simp) P.nd fun k m r h=>by
  simp only[cq,Gz,W r] at h;exact h
 have s2:Am f D R 3 1 A c2 (fun w _ b o x=>Ii w b o x) d.bufs:=r2.conv (by simp) r2.nd fun k m r h=>by
  simp only[cq,Gg,W r] at h;exact h
 have s3:Am f D S 62 6 B c3 (fun w _ b o x=>K4 w b o x) d.Ab:=r3.conv (by simp) r3.nd fun k m r h=>by
  have e:d.Ab.getD k default=d.Ab[k]:=by rw[ba,aY r];rfl
  simp only[cq,Gw,Ki,e] at h;exact⟨_,h⟩
 have s5:Am f D p 5 1 (Z ⟨p,0,O⟩) n (fun w _ b o x=>ElB w b o x) (cF n 0):=by
  refine Am.rep (zc:=[I U 0]) N (s p _ _ N (by decide)) rfl (by decide) (by simp[size_madeCells]) (fun j hj=>?_) fun o i=>i
  rw[Kd _ _ _ hj (by decide)];simp
 refine⟨⟨nm,F,E,⟨z,c1,Q⟩,⟨A,c2,R⟩,⟨B,c3,S⟩,⟨H,c4,b4⟩,⟨O,0,0⟩,⟨O,0,0⟩,⟨O,0,0⟩,⟨O,0,0⟩,⟨O,0,0⟩,⟨O,0,0⟩,⟨O,0,0⟩,⟨Z ⟨p,0,O⟩,n,p⟩⟩,D,⟨?_,y,s1,s2,s3,r4,s5⟩,fun b a=>?_,fun b a=>?_⟩
 ·rw[M];simp only[FA,List.length_replicate]
 ·rw[K] at a;obtain⟨h1,c,h2⟩:=a;exact⟨h1,Aa h2⟩
 ·have ao:=Aa N;have l1:=P.lt;have l2:=r2.lt;have l3:=r3.lt;have l4:=r4.lt;have aS:=hr.lt;simp only[Hf,cX,cN,or_false] at a;rcases a with rfl|rfl|rfl|rfl|rfl|rfl
  ·exact⟨aq,v⟩
  ·exact⟨by rcases aj with h|h<;>omega,l1⟩
  ·exact⟨by rcases ak with h|h<;>omega,l2⟩
  ·exact⟨by rcases al with h|h<;>omega,l3⟩
  ·exact⟨by rcases am with h|h<;>omega,l4⟩
  ·exact⟨ar,ao⟩
def Tp:EG 24:=fun _ _=>by kernel_rfl
def NA(w:bQ)(d:Ad)(e:Ending)(w':bQ):Prop:=
 Bl w w'∧(if E6 d then ∃ g F,e=.returned (.tuple #[G (Z ⟨g,0,O⟩),I J 0])∧PX w' F g d (DB d)∧∀ b,F b→w.heap.size≤b else e=.returned (.tuple #[G O,I J 2]))
def Xz(B:Nat)(d:Ad)(nm:ByteArray)(k j:Int)(A r t s:Option dy)(z u co y:Nat)(w:bQ)(aD:C6 w (Y A d.semas.length z) d.semas)(aw:C6 w (Y r d.bufs.length u) d.bufs)(a0:∀ n∈d.bufs,-9223372036854775808≤n∧n≤9223372036854775807)(aC:Ex w (Y t d.Ab.length co) d.Ab)(aB:Gd w (Y s d.procs.length y) d.procs)(az:∀ c∈d.procs,∀ i∈c.code,0≤i.op∧i.op≤255)(ai:Gl B w)(GS:Ce w):
  cT prog 9 #[.agg #[.string nm,I J k,I J j,I J d.mem,Y A d.semas.length z,I J d.events,I J d.boards,Y r d.bufs.length u,Y t d.Ab.length co,Y s d.procs.length y]] w (NA w d):=by
 have bk:16≤w.heap.size:=dB ai.hb ai.hw;obtain⟨V,hW⟩:=ex (w.alloc (T #[.string nm,I J k,I J j,I J d.mem,Y A d.semas.length z,I J d.events,I J d.boards,Y r d.bufs.length u,Y t d.Ab.length co,Y s d.procs.length y] 26));have m:Bl w V:=by rw[hW];exact(ca _ w).alloc (cJ _) _
 have ax:V.heap[w.heap.size]? =Z (T #[.string nm,I J k,I J j,I J d.mem,Y A d.semas.length z,I J d.events,I J d.boards,Y r d.bufs.length u,Y t d.Ab.length co,Y s d.procs.length y] 26 (0,0)):=by rw[hW];exact cK _ _
 obtain⟨aj,HW,M,ak⟩:=H4 (RS d nm k j A r t s z u co y V (AW.below aD m) (AW.below aw m) a0 (aC.below m) (aB.below m) az (GS.below bk m) (by have:=m.size;omega)) hW m ax;have HP:=HH (show ∀ X,Bl V X→Ik d→cT prog 24 #[.agg #[.string nm,I J k,I J j,I J d.mem,Y A d.semas.length z,I J d.events,I J d.boards,Y r d.bufs.length u,Y t d.Ab.length co,Y s d.procs.length y]] X (N6 X d nm k j) from fun X F ok=>by
  have a:=m.trans (F.mono m.size);exact Sw d nm k j A r t s z u co y X (AW.below aD a) (AW.below aw a) (aC.below a) (aB.below a) ok)
 obtain⟨HG,bg⟩:=H2 ai az;unfold NA;obtain⟨x0,x1,x2,x3,x4,x5,x6,x7,x8,x9⟩:=DV ax;clear hW m ax aD aw a0 aC aB az ai GS;cases ad:E6 d with
 |false=>
  rw[ad] at aj;clear ad;go_enter func9,ntmps9;go_upto_region 1 with (fail);rw[←HW.o];obtain⟨g0,l⟩:=ex w.heap.size;rw[←l] at x0 x1 x2 x3 x4 x5 x6 x7 x8 x9 ak ⊢;have bd:=HH l;clear l;go_wp2_with (go_at_call 23;refine aj.o.mono ?_;rintro e H ⟨rfl,F⟩)
  go_ret2
  exact⟨M.o.trans (F.mono M.o.size),rfl⟩
 |true=>
  obtain⟨aF,bD⟩:=Oc ad bg.o;rw[ad] at aj;have aV:=HH aF;have hm:=aF.mem;obtain⟨n,hn⟩:∃ n:Nat,d.mem=(n:Int):=⟨d.mem.toNat,by omega⟩;have bG:n≤4096:=by omega
  have HN:=HH hn;clear ad aF bD hm hn;go_enter func9,ntmps9;go_upto_region 1 with (fail);rw[←HW.o];obtain⟨g0,l⟩:=ex w.heap.size;rw[←l] at x0 x1 x2 x3 x4 x5 x6 x7 x8 x9 ak ⊢;have bd:=HH l;clear l;go_upto_region 3 with (first|(go_at_call 23;refine aj.o.mono ?_;rintro e H ⟨rfl,F⟩)|fail);have bs:g0<V.heap.size:=Aa ak.o;have ae:=(F.block g0 bs).trans ak.o;have bt:=Aa ae;have E:=HH F;obtain⟨q0,q1,q2⟩:=q3 ae;have q3:∀ p:Ak H,p.W.cell? ⟨g0,3,O⟩=Z (I J (n:Int)):=fun p=>(p.h.cell (p:=⟨g0,3,O⟩) bt).trans ((Cr ae).trans (by rw[←HN.o];rfl));obtain⟨-,-,-,-,q4,q5,q6,q7,q8,q9⟩:=q10 ae;clear x0 x1 x2 x3 x4 x5 x6 x7 x8 x9 ae F;refine BQ 5 [(1,Ha H.heap.size d nm k j),(4,J8 H.heap.size n)] ⟨Ha.AX,J8.AX,trivial⟩ ?_
  iterate 1 (refine AK rfl ?_;intro K hK;go_big_quiet_op;go_big_quiet_on)
  refine Ca rfl (fun w' a hA=>?_) ?_
  ·refine AD (f:=24) (al:=[.agg #[.string nm,I J k,I J j,I J (n:Int),Y A d.semas.length z,I J d.events,I J d.boards,Y r d.bufs.length u,Y t d.Ab.length co,Y s d.procs.length y]]) rfl rfl rfl Tp ?_;have:=HP.o w' (E.o.trans (a.mono E.o.size)) aV.o;rw[HN.o] at this;exact this.mono fun e w3 h=>by
    obtain⟨v,he,hv,S⟩:=h;refine⟨_,he,S,?_⟩;obtain⟨N,P,Q,R,c1,c2,c3,c4,bC,q,L,h0,h1,h2,h3,h4,h5,h6,h7⟩:=hv;exact⟨N,P,Q,R,c1,c2,c3,c4,bC,q,L,by rw[h0],Cx h1 a.size,Cx h2 a.size,Cx h3 a.size,h4,dB a.size h5,h6,fun x hx=>Cx (h7 x hx) a.size⟩
  intro v w' a hv;obtain⟨N,P,Q,R,c1,c2,c3,c4,_,_,_,rfl,aA⟩:=hv;clear aA a w';simp only[Au,af,aX,av]
  iterate 2 (refine AK rfl ?_;intro K hK;go_big_quiet_op;go_big_quiet_on)
  refine Ca rfl (fun w' a hA=>?_) ?_
  ·exact Bn (v:=Y (Z ⟨w'.heap.size,0,O⟩) n n) (w':=w'.alloc (T (dE #[I U 0] (n*1)) 5)) (by simp[dG,go_sem,Xs n (by omega) w']) ⟨(ca _ _).alloc (cJ _) _,⟨w'.heap.size,a.size,rfl,cK _ _⟩⟩
  intro v w' a hv;obtain⟨qm,_,rfl,aA⟩:=hv;clear aA a w';simp only[Au,af,aX,av];refine BN ?_;intro C ar aE;simp only[cE,cV,cY];have H0:Ha H.heap.size d nm k j (.agg #[.string nm,I J k,I J j,I J d.mem,Y N d.semas.length c1,I J d.events,I J d.boards,Y P d.bufs.length c2,Y Q d.Ab.length c3,Y R d.procs.length c4]) C:=aE 1 _ (by decide) rfl;obtain⟨bJ,a9,e,ay⟩:J8 H.heap.size n (Y (Z ⟨qm,0,O⟩) n n) C:=aE 4 _ (by decide) rfl;simp only[b8,cz,Addr.mk.injEq,and_true,true_and] at e;subst e;obtain⟨W3,ap⟩:=ex (C.alloc (T #[.string nm,I J k,I J j,I J d.mem,Y N d.semas.length c1,I J d.events,I J d.boards,Y P d.bufs.length c2,Y Q d.Ab.length c3,Y R d.procs.length c4,Y O 0 0,Y O 0 0,Y O 0 0,Y O 0 0,Y O 0 0,Y O 0 0,Y O 0 0,I U 0,I J 0,Y (Z ⟨qm,0,O⟩) n n,.bool true] 88));have S:Bl C W3:=by rw[ap];exact(ca _ C).alloc (cJ _) _
  have a6:W3.heap[C.heap.size]? =Z (T #[.string nm,I J k,I J j,I J d.mem,Y N d.semas.length c1,I J d.events,I J d.boards,Y P d.bufs.length c2,Y Q d.Ab.length c3,Y R d.procs.length c4,Y O 0 0,Y O 0 0,Y O 0 0,Y O 0 0,Y O 0 0,Y O 0 0,Y O 0 0,I U 0,I J 0,Y (Z ⟨qm,0,O⟩) n n,.bool true] 88 (0,0)):=by rw[ap];exact cK _ _
  obtain⟨aT,au,bi⟩:=H3 (X0 d nm k j H W3 C.heap.size qm n N P Q R c1 c2 c3 c4 HN.o (Ha.AX _ _ _ H0 S) a9 ((S.block qm (Aa ay)).trans ay) ar.size a6) (ar.trans (S.mono ar.size)) ap;clear aE H0 a9 ay a6 ar S ap q0 q1 q2 q3 q4 q5 q6 q7 q8 q9;obtain⟨g,l⟩:=ex C.heap.size;rw[←l] at aT;have bf:=HH l;clear l;obtain⟨hd,D,a8,hD,h5⟩:=aT.o;have be:Hq (Gl B W3):=(HG.o.below M.o).below (E.o.trans (au.o.mono E.o.size));have a5:B≤g:=by
   have h1:=HG.o.hw;have h2:=M.o.size;have h3:=E.o.size;have h4:=(h5 g (by simp[Hf])).1;omega
  obtain⟨bb,bc,H5⟩:=H3 (K9 B W3 D g d hd _ _ _ _ _ _ _ 0 0 (cF n 0) 1 be.o a5 a8 aV.o fun b a=>(hD b a).2) hD h5;clear a8 hD h5 a5;go_upto_region 4 with (fail);rw[←bi.o,←bf.o];go_wp2_with (go_at_call 25;refine bb.o.mono ?_;rintro e w3 ⟨rfl,hend,hu⟩)
  go_ret2
  obtain⟨bq,bx,bo⟩:=hend;have bI:=au.o.size;have bA:=E.o.size;have bz:=M.o.size;have bH:=hu.size;have bw:DB d=Ez d 1 0 (cF n 0):=by
   show Ez d 1 0 (cF d.mem.toNat 0)=_;rw[HN.o];rfl
  have aq:Bl w W3:=M.o.trans ((E.o.trans (au.o.mono bA)).mono bz);refine⟨⟨hu.os.trans aq.os,hu.tape.trans aq.tape,hu.output.trans aq.output,by omega,fun b a=>(hu.block b (by omega) (by have:=(H5.o g (by simp[Hf])).1;simp only[cB];omega)).trans (aq.block b a)⟩,?_⟩;simp only[if_true];refine⟨g,rfl,fun b=>w.heap.size≤b∧b<w3.heap.size,?_,fun b a=>a.1⟩;rw[bw];refine⟨fun b a=>a.2,bq,D,bx,fun b a=>?_,fun b a=>?_⟩
  ·have:=bc.o b a;omega
  ·rcases bo b a with h|h
   ·have:=H5.o b h;omega
   ·omega
structure Lv(B:Nat)(w:bQ)(F:Nat→Prop)(g:Nat)(d:Ad)(s:Ae):Prop where
 gl:Gl B w
 fb:∀ b,F b→B≤b
 px:PX w F g d s
 good:Good d s
 okx:JF d
def Dr(B:Nat)(w:bQ)(F:Nat→Prop)(g:Nat)(d:Ad)(a:Ae)(w':bQ):Prop:=Lv B w' (Gr w w' F) g d a∧Fr F w w'
section
variable {B:Nat} {w w' w1 w2 w3:bQ} {F F':Nat→Prop} {g:Nat} {d:Ad} {s s':Ae}
def Fr.gl(h:Fr F w w')(c:∀ b,F b→B≤b)(a:Gl B w):Gl B w':=a.Ag h.size fun k f=>h.block k (cC f a.hw) fun e=>by have:=c k e;omega
def Lv.lt(h:Lv B w F g d s)(b:Nat)(a:b<B∨F b):b<w.heap.size:=by
 rcases a with a|a
 ·exact cC a h.gl.hw
 ·exact h.px.1 b a
def Lv.Ag(h:Lv B w F g d s)(c:w.heap.size≤w'.heap.size)(a:∀ b,b<B∨F b→w'.heap[b]? =w.heap[b]?):Lv B w' F g d s:=
 ⟨h.gl.Ag c fun k f=>a k (.inl f),h.fb,h.px.Ag c fun b e=>a b (.inr e),h.good,h.okx⟩
def Lv.below(h:Lv B w F g d s)(a:Bl w w'):Lv B w' F g d s:=h.Ag a.size fun b c=>a.block b (h.lt b c)
def Lv.other(h:Lv B w F g d s)(k:Fr F' w w')(c:∀ b,F' b→B≤b)(e:∀ b,F b→¬F' b):Lv B w' F g d s:=
 h.Ag k.size fun b a=>k.block b (h.lt b a) (by
  rcases a with a|a
  ·intro f;have:=c b f;omega
  ·exact e b a)
def Lv.mono(h:Lv B w F g d s)(c:∀ b,F b→F' b)(k:∀ b,F' b→b<w.heap.size)(i:∀ b,F' b→B≤b):Lv B w F' g d s:=by
 obtain⟨_,j,D,l,e,f⟩:=h.px;exact⟨h.gl,i,⟨k,j,D,l,fun b a=>c b (e b a),fun b a=>c b (f b a)⟩,h.good,h.okx⟩
def Lv.op(h:Lv B w F g d s)(f:PX w' (Gr w w' F) g d s')(c:Fr F w w')(e:Good d s'):Dr B w F g d s' w':=
 ⟨⟨c.gl h.fb h.gl,fun b a=>by
  rcases a with a|a
  ·exact h.fb b a
  ·have:=h.gl.hw;omega,f,e,h.okx⟩,c⟩
def Fr.low{N:Nat}(h:Fr F w w')(a:∀ b,F b→N≤b)(e:N≤w.heap.size):Below N w w':=⟨h.os,h.tape,h.output,h.size,fun b f=>h.block b (by omega) fun c=>by have:=a b c;omega⟩
def Lv.same(h:Lv B w F g d s)(a:Bl w w'):Dr B w F g d s w':=h.op (h.px.Iw a) (Fr.below a) h.good
def Dr.Pw(e:Bl w w1)(h:Dr B w1 F g d s' w2)(k:∀ b,F b→b<w.heap.size)(r:B≤w.heap.size)(p:w2.heap.size≤w3.heap.size)(j:∀ b,b<w2.heap.size→(b<w.heap.size∨w1.heap.size≤b)→w3.heap[b]? =w2.heap[b]?)(n:w3.os=w2.os)(q:w3.tape=w2.tape)(o:w3.output=w2.output):Dr B w F g d s' w3:=by
 obtain⟨f,c⟩:=h;have t:=e.size;have u:=c.size;have m:∀ b,b<B∨Gr w1 w2 F b→w3.heap[b]? =w2.heap[b]?:=fun b a=>j b (f.lt b a) (by
  rcases a with a|a|a
  ·exact .inl (by omega)
  ·exact .inl (k b a)
  ·exact .inr a.1)
 refine⟨(f.Ag p m).mono (fun b a=>?_) (fun b a=>?_) (fun b a=>?_),⟨n.trans (c.os.trans e.os),q.trans (c.tape.trans e.tape),o.trans (c.output.trans e.output),by omega,fun b i l=>?_⟩⟩
 ·rcases a with a|a
  ·exact .inl a
  ·exact .inr (by omega)
 ·rcases a with a|a
  ·have:=k b a;omega
  ·exact a.2
 ·rcases a with a|a
  ·exact f.fb b (.inl a)
  ·omega
 ·rw[j b (by omega) (.inl i),c.block b (by omega) l];exact e.block b i
def QF(h:Lv B w F g d s)(now:Int):cT prog 17 #[G (Z ⟨g,0,O⟩),I J now] w fun e w'=>
  ∃ c f,e=.returned (.tuple #[.agg #[I J (A3 d now s).2.ran,I U (A3 d now s).2.act.kind,I J (A3 d now s).2.act.a,I J (A3 d now s).2.act.b,c,f],I J (A3 d now s).2.e])∧Af U w' w.heap.size c (A3 d now s).2.act.data∧BJ w' w.heap.size f (A3 d now s).2.faults∧Dr B w F g d (A3 d now s).1 w':=by
 refine(Ze B w F g d s now h.gl h.fb h.px h.good.ok h.okx.co h.good.bv h.good.st).mono ?_;rintro e w' ⟨c,f,m,i,j,k,l⟩;exact⟨c,f,m,i,j,h.op k l (h.good.tick h.okx)⟩
def SH(h:Lv B w F g d s)(k p:Int):cT prog 16 #[G (Z ⟨g,0,O⟩),I U k,I J p] w fun e w'=>e=.returned (I J (Br d k p s).2)∧Dr B w F g d (Br d k p s).1 w':=by
 refine(SG B w F g d s k p h.gl h.fb h.px h.good.ok).mono ?_;rintro e w' ⟨c,a,b⟩;exact⟨c,h.op a b (h.good.S8 k p)⟩
def S6(h:Lv B w F g d s)(now a:Int)(c:bR)(data:List Int)(k:A4 w (fun b=>¬F b) c data)(l:data.length≤100000)(f:Bf data):
  cT prog 19 #[G (Z ⟨g,0,O⟩),I J now,I J a,c] w fun e w'=>e=.returned (I J (Dc d now a data s).2)∧Dr B w F g d (Dc d now a data s).1 w':=by
 refine(S7 B w F g d s now a c data h.gl h.fb h.px h.good.ok h.okx.ps h.good.qn k l f).mono ?_;rintro e w' ⟨m,i,j⟩;exact⟨m,h.op i j (h.good.S5 h.okx f)⟩
def So(h:Lv B w F g d s)(a:Int):cT prog 21 #[G (Z ⟨g,0,O⟩),I J a] w fun e w'=>∃ v,e=.returned (.tuple #[v,I J (ET d a s).2.2])∧BS w' (Gr w w' F) v (ET d a s).2.1∧Dr B w F g d (ET d a s).1 w':=by
 refine(Sp B w F g d s a h.gl h.fb h.px h.good.ok).mono ?_;rintro e w' ⟨v,i,b,c,f⟩;exact⟨v,i,b,h.op c f h.good.collect⟩
def Zs(h:Lv B w F g d s):cT prog 10 #[G (Z ⟨g,0,O⟩)] w (NQ w s):=by
 obtain⟨_,a,D,b,_,_⟩:=h.px;exact Zp w D g d a s b h.good.ok h.good.bv
end
def LM(a b c d e f g h:Option dy)(c1 c2 c3 c4 c5 i j k l:Nat)(w:bQ)(B:Nat)(s:Ae):Prop:=
 JJ w B s (Y a s.procs.length c1) (Y b s.mem.length c2) (Y c s.semas.length c3) (Y d s.events.length c4) (Y e s.boards.length c5) (Y f s.queues.length i) (Y g s.queues.length j) (Y h l k)
def NR(w:bQ)(s:Ae)(e:Ending)(w':bQ):Prop:=
 ∃ (a b c d f g h i:Option dy) (c1 c2 c3 c4 c5 j k l m:Nat),e=.returned (.agg #[I U s.mode,I J s.clock,Y a s.procs.length c1,Y b s.mem.length c2,Y c s.semas.length c3,Y d s.events.length c4,Y f s.boards.length c5,Y g s.queues.length j,Y h s.queues.length k,Y i m l])∧LM a b c d f g h i c1 c2 c3 c4 c5 j k l m w' w.heap.size s∧Bl w w'
def J3{B:Nat}{w:bQ}{F:Nat→Prop}{g:Nat}{d:Ad}{s:Ae}(h:Lv B w F g d s):cT prog 10 #[G (Z ⟨g,0,O⟩)] w (NR w s):=by
 refine(Zs h).mono ?_;rintro e w' ⟨L,H,vs,D,C,K,E,M,rfl,r,A⟩;obtain⟨j,c1,x,_⟩:=r.pr;obtain⟨k,c2,y,_⟩:=r.me;obtain⟨l,c3,a,_⟩:=r.se;obtain⟨m,c4,b,_⟩:=r.ev;obtain⟨n,c5,c,_⟩:=r.bo;obtain⟨o,t,f,_⟩:=r.po;obtain⟨p,u,i,_⟩:=r.lo;obtain⟨q,v,z⟩:=r.bu.C2;simp only[List.length_map,List.length_range] at a b c f i;subst x y a b c f i z;exact⟨j,k,l,m,n,o,p,q,c1,c2,c3,c4,c5,t,u,v,_,rfl,r,A⟩
section
variable (m k:Int) (a1 a2 a3 a4 a5 a6 a7 a8:Option dy) (n1 c1 n2 c2 n3 c3 n4 c4 n5 c5 n6 c6 n7 c7 n8 c8:Nat) (w:bQ)
def Uu:(dx 37 (.agg #[I U m,I J k,Y a1 n1 c1,Y a2 n2 c2,Y a3 n3 c3,Y a4 n4 c4,Y a5 n5 c5,Y a6 n6 c6,Y a7 n7 c7,Y a8 n8 c8]) 1).run prog w=.ok (I J k) w:=by
 simp[dx,asAgg,go_sem]
def Uv:(dx 37 (.agg #[I U m,I J k,Y a1 n1 c1,Y a2 n2 c2,Y a3 n3 c3,Y a4 n4 c4,Y a5 n5 c5,Y a6 n6 c6,Y a7 n7 c7,Y a8 n8 c8]) 2).run prog w=.ok (Y a1 n1 c1) w:=by
 simp[dx,asAgg,go_sem]
end
def JD(B:Nat)(w:bQ)(d:Ad)(e:Ending)(w':bQ):Prop:=
 Bl w w'∧(if E6 d then ∃ g F,e=.returned (.tuple #[G (Z ⟨g,0,O⟩),I J 0])∧Lv B w' F g d (DB d)∧∀ b,F b→w.heap.size≤b else e=.returned (.tuple #[G O,I J 2]))
def MG(B:Nat)(d:Ad)(nm:ByteArray)(v u:Int)(r j l k:Option dy)(p m co o:Nat)(w:bQ)(H:C6 w (Y r d.semas.length p) d.semas)(z:C6 w (Y j d.bufs.length m) d.bufs)(y:∀ n∈d.bufs,-9223372036854775808≤n∧n≤9223372036854775807)(E:Ex w (Y l d.Ab.length co) d.Ab)(D:Gd w (Y k d.procs.length o) d.procs)(t:∀ c∈d.procs,∀ i∈c.code,0≤i.op∧i.op≤255)(f:Gl B w)(x:Ce w):
  cT prog 9 #[.agg #[.string nm,I J v,I J u,I J d.mem,Y r d.semas.length p,I J d.events,I J d.boards,Y j d.bufs.length m,Y l d.Ab.length co,Y k d.procs.length o]] w (JD B w d):=by
 refine(Xz B d nm v u r j l k p m co o w H z y E D t f x).mono ?_;rintro e w' ⟨a,h⟩;refine⟨a,?_⟩;by_cases q:E6 d=true
 ·rw[if_pos q] at h ⊢;obtain⟨g,F,A,C,s⟩:=h;obtain⟨K,L⟩:=Oc q t;exact⟨g,F,A,⟨f.below a,fun b a=>dB f.hw (s b a),C,UK K,L⟩,s⟩
 ·rw[if_neg q] at h ⊢;exact h
def DU:Im:=⟨0,zeroA,[],2⟩
def Fl(d:Ad)(a:List Int)(s:Ae):Ae×Im:=
 if a.length≠4 then(s,DU)
 else if a.getD 0 0%9=6 then((Dc d (s.clock+a.getD 1 0%6) (a.getD 2 0) (EE (a.getD 3 0)) s).1,DU)
 else if a.getD 0 0%9=7 then((ET d (a.getD 2 0) s).1,DU)
 else if a.getD 0 0%9=8 then((Br d (a.getD 2 0%256) (a.getD 3 0) s).1,DU)
 else A3 d (s.clock+a.getD 1 0%6) s
def Hh(w:bQ)(B:Nat)(t:Im)(v:bR):Prop:=∃ (e:Option dy) (g f:Nat) (c:Option dy) (d:Nat),v=.agg #[I J t.ran,I U t.act.kind,I J t.act.a,I J t.act.b,Y e g f,Y c t.faults.length d]∧BJ w B (Y c t.faults.length d) t.faults
def BJ.nil(w:bQ)(B:Nat):BJ w B (Y O 0 0) []:=(BF.nil w B).rd
def BJ.Ag{w w':bQ}{B:Nat}{v:bR}{l:List CG}(h:BJ w B v l)(s:w.heap.size≤w'.heap.size)(k:∀ b,B≤b→b<w.heap.size→w'.heap[b]? =w.heap[b]?):BJ w' B v l:=by
 obtain⟨c,cap,q,f,g,i,o⟩:=h;refine⟨c,cap,q,f,g,i,fun d=>?_⟩;obtain⟨b,r,e,a,n,m⟩:=o d;exact⟨b,r,e,a,by omega,fun j u p=>(Gh (k b a n) _).trans (m j u p)⟩
def BJ.mono{w:bQ}{B a:Nat}{v:bR}{l:List CG}(h:BJ w B v l)(b:a≤B):BJ w a v l:=Sl.mono h b
def Hh.none(w:bQ)(B:Nat):Hh w B DU (.agg #[I J 0,I U 0,I J 0,I J 0,Y O 0 0,Y O 0 0]):=⟨_,_,_,_,_,rfl,BJ.nil w B⟩
def XX{w:bQ}{B:Nat}{F:Nat→Prop}{v:bR}{l:List Int}(h:C5 w B v l)(a:∀ b,F b→b<B):A4 w (fun b=>¬F b) v l:=
 ⟨(Sl.Bw h).mono (dz _),PG h fun b d e _ c=>by have:=a b c;omega⟩
def TH:EG 10:=fun _ _=>by kernel_rfl
def Zd{c:Func}{p u:Tmp}(h:c.results=#[.cell p 43,.tmp u])(b:Array bR)(W:bQ)(q:Nat)(a:Array bR)(ok:Bool)(d:b[p]?.getD dJ=G (Z ⟨q,0,O⟩))(i:b[u]?.getD dJ=.bool ok)(e:W.heap[q]? =Z (T a 43 (0,0)))(g:a.size=6):
  (results c b).run prog W=.ok (.tuple #[.agg a,.bool ok]) W:=by
 have f:=run_loadVar_row W q 43 43 a (0,0) _ e underlying43 rfl (by rw[g];kernel_rfl);rw[results_cell_tmp h];simp[asAddr,d,i,f]
def JM(B:Nat)(w r H c:bQ)(F:Nat→Prop)(g:Nat)(d:Ad)(E:Ae)(t:Im)(vs:List bR)(j f:Option dy)(l k m i:Nat)(x:Bl w r)(h:Dr B r F g d E H)(Q:∀ b,F b→b<w.heap.size)(M:B≤w.heap.size)(W:w.heap.size<r.heap.size)(n:Bl H c)(S:c.heap[w.heap.size]? =Z (T #[I J 0,I U 0,I J 0,I J 0,Y O 0 0,Y O 0 0] 43 (0,0)))
  (D:BJ c r.heap.size (Y f m i) t.faults) {A:Func} {u:Tmp} (P:A.results=#[.cell 4 43,.tmp u]) (q:Array bR) (R:q[4]?.getD dJ=G (Z ⟨w.heap.size,0,O⟩)) (V:q[u]?.getD dJ=.bool (decide (t.e=0))):
  bodyPost prog A (fun e w'=>∃ v,e=.returned (.tuple #[v,.bool (decide (t.e=0))])∧Hh w' w.heap.size t v∧Dr B w F g d E w') .ret ⟨q,[]⟩ (setsAt c w.heap.size 0 [(0,I J t.ran),(1,I U t.act.kind),(2,I J t.act.a),(3,I J t.act.b),(4,Y j l k),(5,Y f m i)]):=by
 have y:=Di [(0,I J t.ran),(1,I U t.act.kind),(2,I J t.act.a),(3,I J t.act.b),(4,Y j l k),(5,Y f m i)] S;simp only[Er,af,aX,av] at y;have s:∀ b,b≠w.heap.size→(setsAt c w.heap.size 0 [(0,I J t.ran),(1,I U t.act.kind),(2,I J t.act.a),(3,I J t.act.b),(4,Y j l k),(5,Y f m i)]).heap[b]? =c.heap[b]?:=fun b x=>AU x _ _
 have N:(setsAt c w.heap.size 0 [(0,I J t.ran),(1,I U t.act.kind),(2,I J t.act.a),(3,I J t.act.b),(4,Y j l k),(5,Y f m i)]).heap.size=c.heap.size:=BO _ _;have p:=Be (b:=w.heap.size) (o:=0) [(0,I J t.ran),(1,I U t.act.kind),(2,I J t.act.a),(3,I J t.act.b),(4,Y j l k),(5,Y f m i)] c;generalize setsAt c w.heap.size 0 [(0,I J t.ran),(1,I U t.act.kind),(2,I J t.act.a),(3,I J t.act.b),(4,Y j l k),(5,Y f m i)]=K at y s N p ⊢;have X:=n.size;obtain⟨_,_,z,_⟩:=D.open_;simp only[b8] at z;obtain⟨_,rfl,_⟩:=z;refine bodyPost_ret_by (Zd P q K w.heap.size _ _ R V y rfl) rfl ⟨_,rfl,⟨j,l,k,f,i,rfl,(D.Ag (by omega) fun b C L=>s b (by omega)).mono (by omega)⟩,?_⟩;exact Dr.Pw x h Q M (by omega) (fun b C L=>(s b (by omega)).trans (n.block b C)) (p.1.trans n.os) (p.2.1.trans n.tape) (p.2.2.trans n.output)
def JL(B:Nat)(w:bQ)(F:Nat→Prop)(g:Nat)(d:Ad)(s:Ae)(h:Lv B w F g d s)(bE:bR)(c:List Int)(bm:Af J w 0 bE c):
  cT prog 11 #[G (Z ⟨g,0,O⟩),bE] w fun e w'=>∃ v,e=.returned (.tuple #[v,.bool (decide ((Fl d c s).2.e=0))])∧Hh w' w.heap.size (Fl d c s).2 v∧Dr B w F g d (Fl d c s).1 w':=by
 obtain⟨ao,cap,rfl,bK,bZ,pa⟩:=bm.open_;obtain⟨W1,hW⟩:=ex (w.alloc (T #[I J 0,I U 0,I J 0,I J 0,Y O 0 0,Y O 0 0] 43));have M:Bl w W1:=by rw[hW];exact(ca _ w).alloc (cJ _) _
 have aQ:W1.heap[w.heap.size]? =Z (T #[I J 0,I U 0,I J 0,I J 0,Y O 0 0,Y O 0 0] 43 (0,0)):=by rw[hW];exact cK _ _
 obtain⟨H,H1,HW,bc,ai⟩:=H5 h (h.below M) hW M aQ;have au:Hq (w.heap.size<W1.heap.size):=Aa aQ;obtain⟨r,hr⟩:=ex (Fl d c s);rw[←hr];by_cases hn:c.length=4
 ·have bB:((c.length:Nat):Int)=4:=by omega
  obtain⟨E,V,rfl,_,aJ,pc⟩:=pa (by omega);have g0:∀ j,j<4→w.cell? ⟨E,V+j,O⟩=Z (I J (c.getD j 0)):=fun j hj=>by
   rw[ba,aY (show j<c.length by omega)];exact pc j (by omega)
  have e0:=(M.cell (p:=⟨E,V+0,O⟩) aJ).trans (g0 0 (by decide));have e1:=(M.cell (p:=⟨E,V+1,O⟩) aJ).trans (g0 1 (by decide));have e2:=(M.cell (p:=⟨E,V+2,O⟩) aJ).trans (g0 2 (by decide));have e3:=(M.cell (p:=⟨E,V+3,O⟩) aJ).trans (g0 3 (by decide));rw[Nat.add_zero] at e0;have S:E<W1.heap.size:=cC aJ M.size;have L:r=(if c.getD 0 0%9=6 then((Dc d (s.clock+c.getD 1 0%6) (c.getD 2 0) (EE (c.getD 3 0)) s).1,DU) else if c.getD 0 0%9=7 then((ET d (c.getD 2 0) s).1,DU) else if c.getD 0 0%9=8 then((Br d (c.getD 2 0%256) (c.getD 3 0) s).1,DU) else A3 d (s.clock+c.getD 1 0%6) s):=by
   rw[hr];unfold Fl;rw[if_neg (by omega)]
  clear hr;generalize c.getD 0 0=y at*;generalize c.getD 1 0=o1 at*;generalize c.getD 2 0=o2 at*;generalize c.getD 3 0=D at*;rw[hn] at bK ⊢;have HA:=HH L;clear L hn bB bm pa pc g0 h aQ M hW;have bW:=H.o.good.ok.clock;have bI:Hq (∀ W,cT prog 20 #[I J o1,I J 6] W fun e w'=>e=.returned (I J (o1%6))∧w'=W):=fun W=>Jj o1 6 (by decide) (by decide) W;have b1:0≤o1%6:=by omega
  have b2:o1%6<6:=by omega
  generalize o1%6=x1 at*;have q0:=qC e0 S;have q1:=qC e1 S;have q2:=qC e2 S;have q3:=qC e3 S;obtain⟨bs,bt,bu⟩:=H3 e0 e2 e3;clear e0 e1 e2 e3;go_enter func11,ntmps11;go_upto_region 3 with (fail);rw[←HW.o];obtain⟨q,hq⟩:=ex w.heap.size;rw[←hq] at ai au ⊢;have x:=HH hq;clear hq;refine BQ 9 [(1,fun v _=>∃ (a1 a2 a3 a4 a5 a6 a7 a8:Option dy) (c1 c2 c3 c4 c5 c6 c7 c8 n8:Nat),v=.agg #[I U s.mode,I J s.clock,Y a1 s.procs.length c1,Y a2 s.mem.length c2,Y a3 s.semas.length c3,Y a4 s.events.length c4,Y a5 s.boards.length c5,Y a6 s.queues.length c6,Y a7 s.queues.length c7,Y a8 n8 c8]),(6,fun v _=>v=I J x1)] ⟨Ch,Ch,trivial⟩ ?_
  iterate 1 (refine AK rfl ?_;intro K hK;go_big_quiet_op;go_big_quiet_on)
  refine Ca rfl (fun w' z L=>?_) ?_
  ·refine AD (f:=10) (al:=[G (Z ⟨g,0,O⟩)]) rfl rfl rfl TH ?_;exact(J3 (H1.o.below z)).mono fun e w2 h=>by
    obtain⟨a1,a2,a3,a4,a5,a6,a7,a8,c1,c2,c3,c4,c5,c6,c7,c8,n8,he,_,bk⟩:=h;exact⟨_,he,bk,a1,a2,a3,a4,a5,a6,a7,a8,c1,c2,c3,c4,c5,c6,c7,c8,n8,rfl⟩
  intro v w' z hv;obtain⟨a1,a2,a3,a4,a5,a6,a7,a8,c1,c2,c3,c4,c5,c6,c7,c8,n8,rfl⟩:=hv;clear z w';have bX:=Uu s.mode s.clock a1 a2 a3 a4 a5 a6 a7 a8 s.procs.length c1 s.mem.length c2 s.semas.length c3 s.events.length c4 s.boards.length c5 s.queues.length c6 s.queues.length c7 n8 c8;simp only[Au,af,aX,av]
  iterate 4 (refine AK rfl ?_;intro K hK;go_big_quiet_op;go_big_quiet_on)
  refine Ca rfl (fun w' z L=>?_) ?_
  ·refine AD (f:=20) (al:=[I J o1,I J 6]) rfl rfl rfl T6 ?_;exact(bI.o w').mono fun e w2 h=>by
    obtain⟨he,rfl⟩:=h;exact⟨_,he,ca _ _,rfl⟩
  intro v w' z hv;subst hv;clear z w';simp only[Au,af,aX,av]
  iterate 2 (refine AK rfl ?_;intro K hK;go_big_quiet_op;go_big_quiet_on)
  refine BN ?_;intro A C bO;simp only[cE,cV,cY];have bT:=HH C;have aT:E<A.heap.size:=cC S C.size;have y0:=(C.cell (p:=⟨E,V,O⟩) S).trans bs.o;obtain⟨aN,bd,aj,H9⟩:=H4 ((C.cell (p:=⟨E,V+2,O⟩) S).trans bt.o) ((C.cell (p:=⟨E,V+3,O⟩) S).trans bu.o) ((C.block q au.o).trans ai.o) (H1.o.below C);have bU:Hq (w.heap.size<A.heap.size):=by rw[←x.o];exact cC au.o C.size
  have ah:Hq (Bl w A):=bc.o.trans (C.mono bc.o.size);have aM:Hq (¬F q):=fun hf=>by have:=H.o.px.1 q hf;have:=x.o;omega
  clear bO C q0 q1 q2 q3 bs bt bu;by_cases R:y%9=6
  ·have Q:Hq (r=((Dc d (s.clock+x1) o2 (EE D) s).1,DU)):=by have:=HA.o;rw[if_pos R] at this;exact this
   have ac:Hq (∀ W,cT prog 20 #[I J y,I J 9] W fun e w'=>e=.returned (I J 6)∧W=w'):=fun W=>by rw[←R];exact(Jj y 9 (by decide) (by decide) W).mono fun e w' h=>⟨h.1,h.2.symm⟩
   clear R;have r2:=aN.o;have r3:=bd.o;go_upto_region 8 with (first|(go_at_call 20;refine(ac.o _).mono ?_;rintro e w2 ⟨rfl,rfl⟩)|fail);clear y0;have s2:=qC aN.o aT;have s3:=qC bd.o aT;clear r2 r3;refine BQ 9 [(8,fun v w=>C5 w A.heap.size v (EE D))] ⟨(fun _ _ _ h z=>Bp h fun b _ hl=>z.block b hl),trivial⟩ ?_
   iterate 8 (refine AK rfl ?_;intro K hK;go_big_quiet_op;go_big_quiet_on)
   refine Ca rfl (fun w' z L=>?_) ?_
   ·refine AD (f:=38) (al:=[I J D]) rfl rfl rfl Tx ?_;exact(Xn D w').mono fun e w2 h=>by
     obtain⟨v,he,ho,bk⟩:=h;exact⟨_,he,bk,ho.mono z.size⟩
   intro v w' z hv;have bP:=HH hv;clear bP hv z w';simp only[Au,af,aX,av];refine BN ?_;intro X N aU;simp only[cE,cV,cY];have bA:C5 X A.heap.size v (EE D):=aU 8 _ (by decide) rfl;have P:=HH (S6 (H9.o.below N) (s.clock+x1) o2 v (EE D) (XX bA fun b hf=>H9.o.px.1 b hf) (by have:=(Py D).1;omega) (Py D).2);have k:Hq (X.heap[q]? =Z (T #[I J 0,I U 0,I J 0,I J 0,Y O 0 0,Y O 0 0] 43 (0,0))):=(N.block q (Aa aj.o)).trans aj.o;have aa:Hq (Bl w X):=ah.o.trans (N.mono ah.o.size);clear bA aU N s2 s3;go_upto_region 13 with (first|(go_at_call 19;refine P.o.mono ?_;rintro e t ⟨rfl,l⟩)|fail);have i:=(l.2.block q (Aa k.o) aM.o).trans k.o;obtain⟨z0,z1,z2,z3,z4,z5⟩:=r6 i;obtain⟨f0,f1,f2,f3,f4,f5⟩:=f6 i;obtain⟨ar,ab⟩:=H2 i l;clear i l;go_wp2_with fail;have m:=ar.o;have n:=Aa k.o;rw[x.o] at m n;rw[x.o,Q.o];exact JM B w X t t F g d _ DU [] O O 0 0 0 0 aa.o ab.o H.o.px.1 H.o.gl.hw n (ca _ _) m (BJ.nil _ _) rfl _ rfl rfl
  ·by_cases h7:y%9=7
   ·have Q:Hq (r=((ET d o2 s).1,DU)):=by have:=HA.o;rw[if_neg R,if_pos h7] at this;exact this
    have ac:Hq (∀ W,cT prog 20 #[I J y,I J 9] W fun e w'=>e=.returned (I J 7)∧W=w'):=fun W=>by rw[←h7];exact(Jj y 9 (by decide) (by decide) W).mono fun e w' h=>⟨h.1,h.2.symm⟩
    clear R h7;have y2:=aN.o;have P:=HH (So H9.o o2);have k:Hq (A.heap[q]? =Z (T #[I J 0,I U 0,I J 0,I J 0,Y O 0 0,Y O 0 0] 43 (0,0))):=aj.o;have aa:Hq (Bl w A):=ah.o;go_upto_region 13 with (first|(go_at_call 20;refine(ac.o _).mono ?_;rintro e w2 ⟨rfl,rfl⟩)|(go_at_call 21;refine P.o.mono ?_;rintro e t ⟨vc,rfl,b0,l⟩)|fail);clear y0 y2;have i:=(l.2.block q (Aa k.o) aM.o).trans k.o;obtain⟨z0,z1,z2,z3,z4,z5⟩:=r6 i;obtain⟨f0,f1,f2,f3,f4,f5⟩:=f6 i;obtain⟨ar,ab⟩:=H2 i l;clear i l;go_wp2_with fail;have m:=ar.o;have n:=Aa k.o;rw[x.o] at m n;rw[x.o,Q.o];exact JM B w A t t F g d _ DU [] O O 0 0 0 0 aa.o ab.o H.o.px.1 H.o.gl.hw n (ca _ _) m (BJ.nil _ _) rfl _ rfl rfl
   ·by_cases h8:y%9=8
    ·have Q:Hq (r=((Br d (o2%256) D s).1,DU)):=by have:=HA.o;rw[if_neg R,if_neg h7,if_pos h8] at this;exact this
     have ac:Hq (∀ W,cT prog 20 #[I J y,I J 9] W fun e w'=>e=.returned (I J 8)∧W=w'):=fun W=>by rw[←h8];exact(Jj y 9 (by decide) (by decide) W).mono fun e w' h=>⟨h.1,h.2.symm⟩
     clear R h7 h8;go_upto_region 12 with (first|(go_at_call 20;refine(ac.o _).mono ?_;rintro e w2 ⟨rfl,rfl⟩)|fail);clear y0;have s2:=qC aN.o aT;have s3:=qC bd.o aT;refine BQ 8 [] trivial ?_
     iterate 8 (refine AK rfl ?_;intro K hK;go_big_quiet_op;go_big_quiet_on)
     refine BN ?_;intro X N aU;simp only[cE,cV,cY];have P:=HH (SH (H9.o.below N) (o2%256) D);have k:Hq (X.heap[q]? =Z (T #[I J 0,I U 0,I J 0,I J 0,Y O 0 0,Y O 0 0] 43 (0,0))):=(N.block q (Aa aj.o)).trans aj.o;have aa:Hq (Bl w X):=ah.o.trans (N.mono ah.o.size);clear aU N s2 s3;go_upto_region 13 with (first|(go_at_call 16;refine P.o.mono ?_;rintro e t ⟨rfl,l⟩)|fail);have i:=(l.2.block q (Aa k.o) aM.o).trans k.o;obtain⟨z0,z1,z2,z3,z4,z5⟩:=r6 i;obtain⟨f0,f1,f2,f3,f4,f5⟩:=f6 i;obtain⟨ar,ab⟩:=H2 i l;clear i l;go_wp2_with fail;have m:=ar.o;have n:=Aa k.o;rw[x.o] at m n;rw[x.o,Q.o];exact JM B w X t t F g d _ DU [] O O 0 0 0 0 aa.o ab.o H.o.px.1 H.o.gl.hw n (ca _ _) m (BJ.nil _ _) rfl _ rfl rfl
    ·have Q:Hq (r=A3 d (s.clock+x1) s):=by have:=HA.o;rw[if_neg R,if_neg h7,if_neg h8] at this;exact this
     have ac:Hq (∀ W,cT prog 20 #[I J y,I J 9] W fun e w'=>e=.returned (I J (y%9))∧W=w'):=fun W=>(Jj y 9 (by decide) (by decide) W).mono fun e w' h=>⟨h.1,h.2.symm⟩;generalize y%9=x9 at*;have P:=HH (QF H9.o (s.clock+x1));generalize A3 d (s.clock+x1) s=u at Q P;have k:Hq (A.heap[q]? =Z (T #[I J 0,I U 0,I J 0,I J 0,Y O 0 0,Y O 0 0] 43 (0,0))):=aj.o;have aa:Hq (Bl w A):=ah.o;go_upto_region 6 with (first|(go_at_call 20;refine(ac.o _).mono ?_;rintro e w2 ⟨rfl,rfl⟩)|(go_at_call 17;refine P.o.mono ?_;rintro e t ⟨va,vf,rfl,bC,bn,l⟩;obtain⟨be,bg,rfl,_⟩:=bC.open_;obtain⟨bf,bh,rfl,_⟩:=bn.open_)|fail);clear y0;have i:=(l.2.block q (Aa k.o) aM.o).trans k.o;have bN:=Aa i;obtain⟨w3,aV⟩:=ex (t.alloc (T #[I J u.2.ran,I U u.2.act.kind,I J u.2.act.a,I J u.2.act.b,.slice be u.2.act.data.length bg,.slice bf u.2.faults.length bh] 43));rw[←aV];have aH:Bl t w3:=by rw[aV];exact(ca _ t).alloc (cJ _) _
     have bz:w3.heap[t.heap.size]? =Z (T #[I J u.2.ran,I U u.2.act.kind,I J u.2.act.a,I J u.2.act.b,.slice be u.2.act.data.length bg,.slice bf u.2.faults.length bh] 43 (0,0)):=by rw[aV];exact cK _ _
     have aR:=(aH.block q bN).trans i;obtain⟨v0,v1,v2,v3,v4,v5⟩:=r6 bz;obtain⟨z0,z1,z2,z3,z4,z5⟩:=r6 aR;obtain⟨f0,f1,f2,f3,f4,f5⟩:=f6 aR;obtain⟨bH,bG,bF,ab⟩:=H4 (bn.Ag aH.size fun b _ h2=>aH.block b h2) aR aH l;clear i aV aH bz aR bn bC l;go_wp2_with fail;have m:=bG.o;have n:=Aa k.o;rw[x.o] at m n;rw[x.o,Q.o];exact JM B w A t w3 F g d _ u.2 [] be bf _ bg _ bh aa.o ab.o H.o.px.1 H.o.gl.hw n bF.o m bH.o rfl _ rfl rfl
 ·have bB:¬((c.length:Nat):Int)=4:=by omega
  have L:Fl d c s=(s,DU):=by unfold Fl;rw[if_pos hn]
  rw[←hr] at L;have HA:=HH L;clear L hr hn bm pa h aQ M hW;go_enter func11,ntmps11;go_upto_region 1 with (fail);rw[←HW.o];obtain⟨q,hq⟩:=ex w.heap.size;rw[←hq] at ai au ⊢;have x:=HH hq;clear hq;obtain⟨z0,z1,z2,z3,z4,z5⟩:=r6 ai.o;obtain⟨f0,f1,f2,f3,f4,f5⟩:=f6 ai.o;go_wp2_with fail;have m:=ai.o;have n:=au.o;rw[x.o] at m n;rw[x.o,HA.o];exact JM B w W1 W1 W1 F g d s DU [] O O 0 0 0 0 bc.o (H1.o.same (ca _ _)) H.o.px.1 H.o.gl.hw n (ca _ _) m (BJ.nil _ _) rfl _ rfl rfl
end Go.Proofs.YtiepijihpgijbaaGreatDoor
