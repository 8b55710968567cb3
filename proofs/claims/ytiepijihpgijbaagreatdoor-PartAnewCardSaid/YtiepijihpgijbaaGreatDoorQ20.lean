import Derived.Test.YtiepijihpgijbaaGreatDoorQ19
set_option maxHeartbeats 8000000
set_option maxRecDepth 100000
set_option linter.all false
open Go.IntKind renaming u8→U,i64→J
open Go.Value renaming slice→Y,int→I,pointer→G
open Go.Obj renaming cells→T
open Option renaming none→O,some→Z
open Go.Value renaming int→au,ownBlock→bG
open Go.RowKit.Below renaming heap_alloc→ax,heap_setCell→aB,refl→aP,setCell→bw
open Nat renaming le_refl→aG,zero_le→be,eq_zero_or_pos→bs,ne_of_lt→bP
open List renaming getElem?_eq_some_iff→aH,replicate→aK,range→aQ,mem_singleton→aR,length_replicate→aT,eq_nil_of_length_eq_zero→aX,setIfInBounds_toArray→a2,mem_map→a5,set_cons_zero→bq,set_cons_succ→br,map_cons→bN,range_succ→bQ,map_append→bU,length_map→cn,getD_eq_getElem?_getD→cs,map_nil→cE,getElem?_eq_none→cI,mem_replicate→cT,getElem_mem→cY
open Go renaming heap_setCell_same→aU,Value→bk,World→bn,wpList_append_own→bD,info_parts→cG,heap_alloc_new→cH,Calls→cK,TypeId→c6,Addr→c7
open Go.World renaming setCell→bb,frozen?→bc,block_lt_of_cell?→bd,cell?_alloc_old→bh,cell?_alloc_lt→bm,ownsRow_made→bp,ownsRow_nil→bt
open Go.Lib renaming run_eql_slice_nil→bl,wpList_append_run→bJ
open Go.Value.slice renaming injEq→cD
open Int renaming eq_ofNat_of_zero_le→cF,toNat_natCast→c0
namespace Go.Proofs.YtiepijihpgijbaaGreatDoor
open Go.RowKit Tryz
def Zy(n:Int)(b k j:Option c7)(c r m q l:Nat)(data:List Int)(w:bn)(h:Af U w 0 (Y b data.length c) data)(v:data.length≤1000):
  cK prog 37 #[.agg #[I J n,Y b data.length c,Y k r m,Y j q l]] w fun e w'=>∃ a c2,e=.returned (Y a data.length c2)∧C5 w' w.heap.size (Y a data.length c2) data∧Bl w w':=by
 have f:Bl w (w.alloc (T #[I J n,Y b data.length c,Y k r m,Y j q l] 111)):=(aP _ w).alloc (aG _) _;obtain⟨i,d⟩:=H2 (Gj (Y b data.length c) data _ (h.below f) (by omega)) f;clear h f;go_enter func37,ntmps37;go_wp2_with fail;refine i.o.mono ?_;rintro e y ⟨x,rfl,g,p⟩;obtain⟨a,c2,rfl⟩:=Bq g;obtain⟨t,s⟩:=H2 g (d.o.trans (p.mono d.o.size));have u:=d.o.size;clear g p i;go_wp2_with fail;go_ret;exact⟨a,c2,rfl,t.o.mono u,s.o⟩
def SV(w:bn)(D:Nat→Prop)(b:Nat)(a:Option c7)(c:Nat)(l:List AT)(h:Am w D b 111 4 a c ElBu l)(hl:l.length≤1000)(hm:∀ x∈l,x.data.length≤1000):
  cK prog 36 #[Y a l.length c,.func (.func 37) #[] #[]] w fun e w'=>∃ v,e=.returned v∧Bk w' w.heap.size v (l.map (·.data))∧Bl w w':=by
 obtain⟨H,HM⟩:=H2 h hm;clear h hm;go_enter func36,ntmps36;go_wp2_with fail
 go_loopw [5,7,10] (fun s5 _ aF wr=>∃ k:Nat,k≤l.length∧aF=I J k∧∃ z F,s5=Y z k F∧Hq (Bl w wr∧Bk wr w.heap.size (Y z k F) ((l.take k).map (·.data)))) (fun _ _ v _=>l.length-(intOf v).toNat)
 case atStart=>exact⟨0,be _,rfl,O,0,rfl,aP _ w,Bk.nil _ _⟩
 case round=>
  obtain⟨k,aI,rfl,z,F,rfl,A⟩:=hrel;by_cases V:k<l.length
  ·have aJ:(k:Int)<(l.length:Int):=by omega
   obtain⟨d,f⟩:=A.o;have L:=H.o.below Fu d;have aC:=L.ptr (by omega);have cap:=L.cap;obtain⟨v,p,g,hc,X,ak,al⟩:=L.el k V;obtain⟨B,K,rfl,_,_,_⟩:=X.1.open_;obtain⟨y,E,rfl,_,_,_⟩:=ak.1.open_;obtain⟨t,C,rfl,_,_,_⟩:=al.1.open_;obtain⟨y0,y1,y2,y3⟩:=LZ hc;rw[aC];have R:Bl wr (wr.alloc (T #[I J l[k].depth,.slice B l[k].data.length K,.slice y l[k].put.length E,.slice t l[k].get.length C] 111)):=(aP _ wr).alloc (aG _) _;have ac:Bl w (wr.alloc (T #[I J l[k].depth,.slice B l[k].data.length K,.slice y l[k].put.length E,.slice t l[k].get.length C] 111)):=d.alloc d.size _;obtain⟨HC,az,P⟩:=H3 (Zy l[k].depth B y t K l[k].put.length E l[k].get.length C l[k].data (wr.alloc (T #[I J l[k].depth,.slice B l[k].data.length K,.slice y l[k].put.length E,.slice t l[k].get.length C] 111)) (X.1.below R) (HM.o _ (cY V))) (f.below R) ac;have aL:w.heap.size≤wr.heap.size:=d.size;clear A d f L hc X ak al R ac;go_wp2_with fail;refine HC.o.mono ?_;rintro e n ⟨s,c2,rfl,ai,Q⟩;have r:=P.o.trans (Q.mono P.o.size);have aj:=ai.mono P.o.size;obtain⟨ws,f,an⟩:=az.o.below Q;have M:((l.take k).map (·.data)).length=k:=by simp;omega
   rw[M] at f;have aM:=r.size;have S:Bl n (n.alloc (T #[.slice s l[k].data.length c2] 34)):=(aP _ n).alloc (aG _) _;obtain⟨a3,c3,w3,am,ah,m⟩:=Gv (W:=n.alloc (T #[.slice s l[k].data.length c2] 34)) (q:=n.heap.size) (new:=[.slice s l[k].data.length c2]) (Bp f fun b _ d=>ax _ _ _ d) underlying35 Mz rfl (by decide) (by simp;omega) (by omega) (by decide) (cH _ _) rfl (by intro u N;simp only[aR] at N;subst N;rfl) 35;have ae:=fun b=>F8 (b:=b) f;have aD:n.heap.size+1≤w3.heap.size:=by simpa using m.size
   have aq:Hq (Bl w w3):=⟨m.os.trans r.os,m.tape.trans r.tape,m.output.trans r.output,by omega,fun j hj=>(m.block j (by simp;omega) (fun e=>by have:=(ae j e.symm).1;omega)).trans ((ax _ _ _ (by omega)).trans (r.block j hj))⟩;have ay:Hq (Bk w3 w.heap.size (Y a3 (k+1) c3) ((l.take (k+1)).map (·.data))):=by
    have e:(l.take (k+1)).map (·.data)=(l.take k).map (·.data)++ [l[k].data]:=by
     simp only[List.take_succ_eq_append_getElem V,bU,bN,cE]
    show Bk _ _ _ _;rw[e];refine Bk.snoc (q:=(l.take k).map (·.data)) (vs:=ws) (u:=.slice s l[k].data.length c2) (w:=n.alloc (T #[.slice s l[k].data.length c2] 34)) (v:=Y z k F) ?_ (fun i u x N hx=>(an i u x N hx).below S) (aj.below S) m ?_
    ·rw[M];exact Bp f fun b _ d=>ax _ _ _ d
    ·rw[M];exact ah
   have aA:=HH am;clear r f Q am ah m ae aD ai aj an M S;go_wp2_with (at_builtin;refine bJ _ rfl _ _ _ _ rfl _ _ rfl rfl _ _ aA.o ?_)
   go_roundw
   case rel=>exact⟨k+1,by omega,by go_num,a3,c3,rfl,aq.o,ay.o⟩
   case measure=>simp[intOf];omega
  ·obtain rfl:k=l.length:=by omega
   obtain⟨d,f⟩:=A.o;rw[List.take_length] at f;obtain⟨HB,HO⟩:=H2 d f;clear A d f;go_wp2_with fail;go_ret;exact⟨_,rfl,HO.o,HB.o⟩
def Em(x:BA):List bk:=[I U x.status,I J x.s.pc,I J x.s.left,I U (x.s.AG.getD 0 0),I U (x.s.AG.getD 1 0),I U (x.s.AG.getD 2 0),I U (x.s.AG.getD 3 0),I J x.since,I J x.release,I J x.deadline,I U x.why,I J x.on]
def Rl(w:bn)(B:Nat)(v:bk)(l:List BA):Prop:=Sl w B 12 v l.length (l.flatMap Em)
def portN(s:Ae)(k:Nat):Int:=if(s.samples.getD k default).has then 1 else((s.queues.getD k default).q.length:Int)
structure JJ(w:bn)(B:Nat)(s:Ae)(vp vm vs ve vb vo vl vu:bk):Prop where
 pr:Rl w B vp s.procs
 me:Af U w B vm s.mem
 se:Af J w B vs (s.semas.map DJ)
 ev:Af J w B ve (s.events.map Fp)
 bo:Af J w B vb (s.boards.map FO)
 po:Af J w B vo ((aQ s.queues.length).map (portN s))
 lo:Af J w B vl (s.queues.map Gp)
 bu:A6 w B vu (s.bufs.map (·.data))
def NQ(w:bn)(s:Ae)(e:Ending)(w':bn):Prop:=
 ∃ g d vs b a f c h,e=.returned (.agg #[I U s.mode,I J s.clock,g,d,vs,b,a,f,c,h])∧JJ w' w.heap.size s g d vs b a f c h∧Bl w w'
def Am.Ye{w:bn}{D:Nat→Prop}{b c:Nat}{t:c6}{a:Option c7}{l:List BA}(h:Am w D b t 12 a c (fun w _ b o x=>ElPr w b o x) l):Sl w 0 12 (Y a l.length c) l.length (l.flatMap Em):=by
 have f:∀ x,(Em x).length=12:=fun _=>rfl
 have k:∀ l:List BA,(l.flatMap Em).length=l.length*12:=fun l=>by
  induction l with
  |nil=>rfl
  |cons x l s=>rw[List.flatMap_cons,List.length_append,s,f,List.length_cons];omega
 refine⟨a,c,rfl,h.cap,h.nil,k l,fun m=>⟨b,0,h.ptr m,be _,h.lt,fun j u d=>?_⟩⟩;have p:=(aH.1 d).1;rw[k] at p;have i:j/12<l.length:=by omega
 have q:j%12<12:=Nat.mod_lt _ (by decide);have e:j=j/12*12+j%12:=by omega
 have g:=It f l (j/12) (j%12) i q;rw[←e] at g;rw[g] at d;obtain⟨v,y,r2,r3,r,n⟩:=h.el (j/12) i;have:=n (j%12) u (by
  rw[←d];simp only[Em,r];rfl)
 rw[Nat.zero_add,e];exact this
def Am.RD{w:bn}{D:Nat→Prop}{b c:Nat}{t:c6}{a:Option c7}{l:List Int}(h:Am w D b t 1 a c (fun w _ b o x=>ElB w b o x) l):Af U w 0 (Y a l.length c) l:=by
 refine⟨a,c,rfl,h.cap,h.nil,by simp,fun f=>⟨b,0,h.ptr f,be _,h.lt,fun j u d=>?_⟩⟩;have e:=(aH.1 d).1;rw[cn] at e;rw[List.getElem?_map,List.getElem?_eq_getElem e] at d;simp only[Option.map_some,Option.some.injEq] at d;subst d;have:=h.el j e 0 _ rfl;simpa using this
def Cg{w w':bn}{B d n q:Nat}{e c:c6}{i:Nat×Nat}{g:Array bk}{v:bk}{f:List bk}(h:w.ownsRow B e d v n f)(o:w.heap[q]? =Z (T g c i))(m:e≠c)(l:∀ b,b≠q→b<w.heap.size→w'.heap[b]? =w.heap[b]?):w'.ownsRow B e d v n f:=by
 refine⟨h.1,?_⟩;rcases h.2 with j|⟨b,cap,cur,r,k,a,p⟩
 ·exact .inl j
 ·exact .inr ⟨b,cap,cur,r,k,(l b (DT a o m) (Aa a)).trans a,p⟩
def XV{w w':bn}{B q:Nat}{a:c6}{f:Nat×Nat}{e:Array bk}{v:bk}{l:List (List Int)}(h:Bk w B v l)(d:w.heap[q]? =Z (T e a f))(g:34≠a)(j:5≠a)(c:∀ b,b≠q→b<w.heap.size→w'.heap[b]? =w.heap[b]?):Bk w' B v l:=by
 obtain⟨vs,n,o⟩:=h;exact⟨vs,Cg n d g c,fun i u x k m=>Cg (o i u x k m) d j c⟩
def XW{w:bn}{B a:Nat}{v:bk}{l:List (List Int)}(h:Bk w B v l)(b:a≤B):Bk w a v l:=by
 obtain⟨vs,e,f⟩:=h;exact⟨vs,Cx e b,fun i u x c d=>(f i u x c d).mono b⟩
def Kh{w:bn}{B n:Nat}{v:bk}{l:List Int}(h:w.ownsRow B 3 1 v n (l.map (au J)))(a:n=l.length):Af J w B v l:=by
 subst a;exact Sl.Bw h
def To:EG 26:=fun _ _=>by kernel_rfl
def Tj:EG 27:=fun _ _=>by kernel_rfl
def Zp(w:bn)(D:Nat→Prop)(g:Nat)(d:Ad)(B:Hd)(s:Ae)(h:PA w D g d B s)(ok:Ah d s)(cp:∀ x∈s.boards,0≤x.val∧x.val≤255):
  cK prog 10 #[G (Z ⟨g,0,O⟩)] w (NQ w s):=by
 obtain⟨H,OK,cJ⟩:=H3 h ok cp;have dH:=h.lt;have cU:∀ ob,(w.alloc ob).cell? ⟨g,20,O⟩=Z (.bool true):=fun ob=>by
  rw[bh _ _ _ (bP h.lt)];exact h.cell 20
 have dN:s.procs.length≤6:=by have:=ok.procs;have:=ok.ok.procs;omega
 have dL:s.mem.length≤4096:=by have:=ok.mem;have:=ok.ok.mem;omega
 have dO:s.queues.length≤8:=by have:=ok.queues;have:=ok.ok.Ab;omega
 have dR:s.samples.length=s.queues.length:=by have:=ok.queues;have:=ok.samples;omega
 have dQ:s.semas.length≤8:=by have:=ok.semas;have:=ok.ok.semas;omega
 have dF:s.bufs.length≤8:=by have:=ok.bufs;have:=ok.ok.bufs;omega
 have dM:s.boards.length≤8:=by have:=ok.boards;have:=ok.ok.boards;omega
 have dG:s.events.length≤8:=by have:=ok.events;have:=ok.ok.events;omega
 clear h ok cp;go_enter func10,ntmps10;go_upto_region 3 with (fail);clear cU;obtain⟨t,bf⟩:=ex (w.alloc (T #[I U 0,I J 0,Y O 0 0,Y O 0 0,Y O 0 0,Y O 0 0,Y O 0 0,Y O 0 0,Y O 0 0,Y O 0 0] 37));rw[←bf];have a4:Hq (Bl w t):=by rw[bf];exact(aP _ w).alloc (aG _) _
 have Q0:Hq (t.heap[w.heap.size]? =Z (T #[I U 0,I J 0,Y O 0 0,Y O 0 0,Y O 0 0,Y O 0 0,Y O 0 0,Y O 0 0,Y O 0 0,Y O 0 0] 37 (0,0))):=by rw[bf];exact cH w _
 clear bf;have h0:=H.o.below a4.o;have aV:=h0.lt;have cX:=h0.cell 10;have cW:=h0.cell 19;have bV:Hq (∀ W,Bl t W→cK prog 26 #[Y B.pr.a s.procs.length B.pr.c] W fun e w'=>∃ v',e=.returned v'∧w'.ownsRow W.heap.size 51 12 v' s.procs.length (s.procs.flatMap Em)∧Bl W w'):=fun W r=>Sg _ _ _ W ((h0.pr.below Fw r).Ye) (by omega) (by
  intro u C;simp only[List.mem_flatMap,Em,List.mem_cons,List.not_mem_nil,or_false] at C;obtain⟨x,_,C⟩:=C;rcases C with rfl|rfl|rfl|rfl|rfl|rfl|rfl|rfl|rfl|rfl|rfl|rfl<;>rfl)
 have bW:Hq (∀ W,Bl t W→cK prog 27 #[Y B.me.a s.mem.length B.me.c] W (LB W s.mem)):=fun W r=>Gj _ _ W ((h0.me.below ED r).RD) (by omega);have c8:∀ p:Ak t,p.W.cell? ⟨g,17,O⟩=Z (I U s.mode):=fun p=>(p.h.cell (p:=⟨g,17,O⟩) aV).trans (h0.cell 17);have c9:∀ p:Ak t,p.W.cell? ⟨g,18,O⟩=Z (I J s.clock):=fun p=>(p.h.cell (p:=⟨g,18,O⟩) aV).trans (h0.cell 18);have q10:∀ p:Ak t,p.W.cell? ⟨g,10,O⟩=Z (Y B.pr.a s.procs.length B.pr.c):=fun p=>(p.h.cell (p:=⟨g,10,O⟩) aV).trans (h0.cell 10);have da:∀ p:Ak t,p.W.cell? ⟨g,19,O⟩=Z (Y B.me.a s.mem.length B.me.c):=fun p=>(p.h.cell (p:=⟨g,19,O⟩) aV).trans (h0.cell 19);have H0:=HH h0;clear h0 cX cW;refine AS 22 [21] [] [(13,(fun v w'=>∃ M N,v=Y M s.procs.length N∧w'.ownsRow t.heap.size 51 12 (Y M s.procs.length N) s.procs.length (s.procs.flatMap Em))),(18,(fun v w'=>∃ F L,v=Y F s.mem.length L∧C5 w' t.heap.size (Y F s.mem.length L) s.mem)),(20,Bh t.heap.size #[I U 0,I J 0,Y O 0 0,Y O 0 0,Y O 0 0,Y O 0 0,Y O 0 0,Y O 0 0,Y O 0 0,Y O 0 0] 37)] ⟨(fun v w1 y ⟨R,c2,e,h⟩ r=>⟨R,c2,e,CA h r⟩),(fun v w1 y ⟨R,c2,e,h⟩ r=>⟨R,c2,e,h.below r⟩),Bh.AX,trivial⟩ ?_
 iterate 13 (refine An rfl rfl rfl ?_;intro K hK;go_big_quiet_op;go_big_quiet_on)
 refine A9 rfl rfl (fun w' r hA=>?_) ?_
 ·refine AD (f:=26) (al:=[Y B.pr.a s.procs.length B.pr.c]) rfl rfl rfl To ?_;exact(bV.o w' r).mono fun e y h=>by
   obtain⟨u,he,hf,bM⟩:=h;obtain⟨R,c2,C⟩:=Bq hf;subst C;exact⟨_,he,bM,_,_,rfl,Cx hf r.size⟩
 intro v w' r hv;obtain⟨M,N,rfl,bO⟩:=hv;clear r bO w';simp only[Au,a2,br,bq]
 iterate 4 (refine An rfl rfl rfl ?_;intro K hK;go_big_quiet_op;go_big_quiet_on)
 refine A9 rfl rfl (fun w' r hA=>?_) ?_
 ·refine AD (f:=27) (al:=[Y B.me.a s.mem.length B.me.c]) rfl rfl rfl Tj ?_;exact(bW.o w' r).mono fun e y h=>by
   obtain⟨u,he,hf,bM⟩:=h;obtain⟨R,c2,C⟩:=Bq hf;subst C;exact⟨_,he,bM,_,_,rfl,hf.mono r.size⟩
 intro v w' r hv;obtain⟨F,L,rfl,bO⟩:=hv;clear r bO w';simp only[Au,a2,br,bq]
 iterate 1 (refine An rfl rfl rfl ?_;intro K hK;go_big_quiet_op;go_big_quiet_on)
 refine A9 rfl rfl (fun w' r hA=>?_) ?_
 ·exact EY (T #[I U 0,I J 0,Y O 0 0,Y O 0 0,Y O 0 0,Y O 0 0,Y O 0 0,Y O 0 0,Y O 0 0,Y O 0 0] 37) (by simp[execOp,go_sem]) ⟨w'.heap.size,r.size,rfl,cH _ _⟩
 intro v w' r hv;obtain⟨q,hq,rfl,ad⟩:=hv;clear r hq ad w';simp only[Au,a2,br,bq];refine AH rfl ?_;refine AR ?_;intro w9 bg bj;obtain⟨dn,du,e,cv⟩:∃ R c2,(Y M s.procs.length N:bk)=Y R s.procs.length c2∧w9.ownsRow t.heap.size 51 12 (Y R s.procs.length c2) s.procs.length (s.procs.flatMap Em):=bj 13 _ (by decide) rfl;simp only[cD,true_and] at e;obtain⟨rfl,rfl⟩:=e;obtain⟨dm,dt,e,cu⟩:∃ R c2,(Y F s.mem.length L:bk)=Y R s.mem.length c2∧C5 w9 t.heap.size (Y R s.mem.length c2) s.mem:=bj 18 _ (by decide) rfl;simp only[cD,true_and] at e;obtain⟨rfl,rfl⟩:=e;obtain⟨bS,ad⟩:=Bh.at_ (bj 20 _ (by decide) rfl);obtain⟨z0,z1,z2,z3,z4,z5,z6,z7,z8,z9⟩:=DV ad;obtain⟨f0,f1,f2,f3,f4,f5,f6,f7,f8,f9⟩:=f10 ad;obtain⟨W1,bK⟩:=ex ((((((((((w9.setCell ⟨q,0,O⟩ (I U s.mode)).setCell ⟨q,1,O⟩ (I J s.clock)).setCell ⟨q,2,O⟩ (Y M s.procs.length N)).setCell ⟨q,3,O⟩ (Y F s.mem.length L)).setCell ⟨q,4,O⟩ (Y O 0 0)).setCell ⟨q,5,O⟩ (Y O 0 0)).setCell ⟨q,6,O⟩ (Y O 0 0)).setCell ⟨q,7,O⟩ (Y O 0 0)).setCell ⟨q,8,O⟩ (Y O 0 0)).setCell ⟨q,9,O⟩ (Y O 0 0));refine AI (w':=W1) (by rw[bK];simp[execOp,go_sem,z0,f0,z1,f1,z2,f2,z3,f3,z4,f4,z5,f5,z6,f6,z7,f7,z8,f8,z9,f9]) ?_;unfold A7;have aS:W1=setsAt w9 q 0 [(0,I U s.mode),(1,I J s.clock),(2,Y M s.procs.length N),(3,Y F s.mem.length L),(4,Y O 0 0),(5,Y O 0 0),(6,Y O 0 0),(7,Y O 0 0),(8,Y O 0 0),(9,Y O 0 0)]:=bK;have bx:Hq (Bl w W1):=by rw[aS];exact DH (Nat.le_trans a4.o.size bS) (a4.o.trans (bg.mono a4.o.size)) _
 have a6:Hq (W1.heap[q]? =Z (T #[I U s.mode,I J s.clock,Y M s.procs.length N,Y F s.mem.length L,Y O 0 0,Y O 0 0,Y O 0 0,Y O 0 0,Y O 0 0,Y O 0 0] 37 (0,0))):=by
  rw[aS];have hh:=Di [(0,I U s.mode),(1,I J s.clock),(2,Y M s.procs.length N),(3,Y F s.mem.length L),(4,Y O 0 0),(5,Y O 0 0),(6,Y O 0 0),(7,Y O 0 0),(8,Y O 0 0),(9,Y O 0 0)] ad;simp only[Er,a2,br,bq] at hh;exact hh
 have z:∀ b,b≠q→b<w9.heap.size→W1.heap[b]? =w9.heap[b]?:=fun b r _=>by rw[aS,AU r]
 have ag:w9.heap.size≤W1.heap.size:=by rw[aS,BO];exact aG _
 have b8:=HH (Cg cv ad (by decide) z);have b3:Hq (W1.ownsRow t.heap.size 5 1 (Y F s.mem.length L) s.mem.length (s.mem.map (au U))):=Cg cu ad (by decide) z;have bE:Hq (W1.heap[w.heap.size]? =Z (T #[I U 0,I J 0,Y O 0 0,Y O 0 0,Y O 0 0,Y O 0 0,Y O 0 0,Y O 0 0,Y O 0 0,Y O 0 0] 37 (0,0))∧w.heap.size<t.heap.size∧t.heap.size≤q):=⟨(z _ (by have:=Aa Q0.o;omega) (Nat.lt_of_lt_of_le (Aa Q0.o) bg.size)).trans ((bg.block _ (Aa Q0.o)).trans Q0.o),Aa Q0.o,bS⟩;clear bK aS bg bj ad cv cu z ag z0 f0 z1 f1 z2 f2 z3 f3 z4 f4 z5 f5 z6 f6 z7 f7 z8 f8 z9 f9 c8 c9 q10 da bV bW aV H0 Q0;have dP:t.heap.size≤q:=bS;have dS:w.heap.size<t.heap.size:=bE.o.2.1;have hi:=H.o.below bx.o;have cg:W1.cell? ⟨g,15,O⟩=Z (Y B.se.a s.semas.length B.se.c):=hi.cell 15;have HC:=HH (SZ W1 D B.se.b B.se.a B.se.c s.semas hi.se (by omega));clear hi;go_wp2_with fail;refine HC.o.mono ?_;rintro e y ⟨v,rfl,P,l⟩;obtain⟨V,X,rfl⟩:=Bq P;clear cg HC;have m:y.heap[q]? =Z (T #[I U s.mode,I J s.clock,Y M s.procs.length N,Y F s.mem.length L,Y O 0 0,Y O 0 0,Y O 0 0,Y O 0 0,Y O 0 0,Y O 0 0] 37 (0,0)):=(l.block _ (Aa a6.o)).trans a6.o;have zz:y.cell? ⟨q,4,O⟩=Z (Y O 0 0):=Cr m;have ff:y.frozen? ⟨q,4,O⟩=false:=by simp[bc,m]
 obtain⟨ah,aj,ak⟩:=H3 l P m;clear l P m;go_upto_region 5 with (fail);clear zz ff;have l:=ah.o;have m:=ak.o;obtain⟨W2,E⟩:=ex (y.setCell ⟨q,4,O⟩ (Y V s.semas.length X));rw[←E];have z:∀ b,b≠q→b<y.heap.size→W2.heap[b]? =y.heap[b]?:=fun b r _=>by rw[E];exact aB _ _ _ _ r
 have ag:y.heap.size=W2.heap.size:=by rw[E];simp[bb]
 have ao:=bx.o.size;have aJ:=l.size;have an:t.heap.size≤W1.heap.size:=by have:=Aa a6.o;omega
 have a7:Hq (W2.heap[q]? =Z (T #[I U s.mode,I J s.clock,Y M s.procs.length N,Y F s.mem.length L,Y V s.semas.length X,Y O 0 0,Y O 0 0,Y O 0 0,Y O 0 0,Y O 0 0] 37 (0,0))):=by
  rw[E];show _=_;rw[aU y q 4 _ _ _ m];rfl
 have bz:Hq (Bl w W2):=by
  rw[E];exact bw (bx.o.trans (l.mono ao)) (by show w.heap.size≤q;omega) _
 have ci:Hq (W2.heap[w.heap.size]? =Z (T #[I U 0,I J 0,Y O 0 0,Y O 0 0,Y O 0 0,Y O 0 0,Y O 0 0,Y O 0 0,Y O 0 0,Y O 0 0] 37 (0,0))):=(z _ (by omega) (by omega)).trans ((l.block _ (by omega)).trans bE.o.1);have b9:Hq (W2.ownsRow t.heap.size 51 12 (Y M s.procs.length N) s.procs.length (s.procs.flatMap Em)):=Cg (CA b8.o l) m (by decide) z;have b4:Hq (W2.ownsRow t.heap.size 5 1 (Y F s.mem.length L) s.mem.length (s.mem.map (au U))):=Cg (CA b3.o l) m (by decide) z;have cd:Hq (W2.ownsRow t.heap.size 3 1 (Y V s.semas.length X) s.semas.length ((s.semas.map DJ).map (au J))):=Cx (Cg aj.o m (by decide) z) an;clear E z ag l m ao aJ an ah aj ak a6 b8 b3 bE;have hi:=H.o.below bz.o;have cg:W2.cell? ⟨g,16,O⟩=Z (Y B.ev.a s.events.length B.ev.c):=hi.cell 16;have HC:=HH (SX W2 D B.ev.b B.ev.a B.ev.c s.events hi.ev (by omega));clear hi;go_wp2_with fail;refine HC.o.mono ?_;rintro e y ⟨v,rfl,P,l⟩;obtain⟨aa,ab,rfl⟩:=Bq P;clear cg HC;have m:y.heap[q]? =Z (T #[I U s.mode,I J s.clock,Y M s.procs.length N,Y F s.mem.length L,Y V s.semas.length X,Y O 0 0,Y O 0 0,Y O 0 0,Y O 0 0,Y O 0 0] 37 (0,0)):=(l.block _ (Aa a7.o)).trans a7.o;have zz:y.cell? ⟨q,5,O⟩=Z (Y O 0 0):=Cr m;have ff:y.frozen? ⟨q,5,O⟩=false:=by simp[bc,m]
 obtain⟨ah,aj,ak⟩:=H3 l P m;clear l P m;go_upto_region 6 with (fail);clear zz ff;have l:=ah.o;have m:=ak.o;obtain⟨W3,E⟩:=ex (y.setCell ⟨q,5,O⟩ (Y aa s.events.length ab));rw[←E];have z:∀ b,b≠q→b<y.heap.size→W3.heap[b]? =y.heap[b]?:=fun b r _=>by rw[E];exact aB _ _ _ _ r
 have ag:y.heap.size=W3.heap.size:=by rw[E];simp[bb]
 have ao:=bz.o.size;have aJ:=l.size;have an:t.heap.size≤W2.heap.size:=by have:=Aa a7.o;omega
 have a8:Hq (W3.heap[q]? =Z (T #[I U s.mode,I J s.clock,Y M s.procs.length N,Y F s.mem.length L,Y V s.semas.length X,Y aa s.events.length ab,Y O 0 0,Y O 0 0,Y O 0 0,Y O 0 0] 37 (0,0))):=by
  rw[E];show _=_;rw[aU y q 5 _ _ _ m];rfl
 have bA:Hq (Bl w W3):=by
  rw[E];exact bw (bz.o.trans (l.mono ao)) (by show w.heap.size≤q;omega) _
 have cj:Hq (W3.heap[w.heap.size]? =Z (T #[I U 0,I J 0,Y O 0 0,Y O 0 0,Y O 0 0,Y O 0 0,Y O 0 0,Y O 0 0,Y O 0 0,Y O 0 0] 37 (0,0))):=(z _ (by omega) (by omega)).trans ((l.block _ (by omega)).trans ci.o);have ca:Hq (W3.ownsRow t.heap.size 51 12 (Y M s.procs.length N) s.procs.length (s.procs.flatMap Em)):=Cg (CA b9.o l) m (by decide) z;have b5:Hq (W3.ownsRow t.heap.size 5 1 (Y F s.mem.length L) s.mem.length (s.mem.map (au U))):=Cg (CA b4.o l) m (by decide) z;have ce:Hq (W3.ownsRow t.heap.size 3 1 (Y V s.semas.length X) s.semas.length ((s.semas.map DJ).map (au J))):=Cg (CA cd.o l) m (by decide) z;have bZ:Hq (W3.ownsRow t.heap.size 3 1 (Y aa s.events.length ab) s.events.length ((s.events.map Fp).map (au J))):=Cx (Cg aj.o m (by decide) z) an;clear E z ag l m ao aJ an ah aj ak a7 b9 b4 cd ci;have hi:=H.o.below bA.o;have cg:W3.cell? ⟨g,14,O⟩=Z (Y B.bo.a s.boards.length B.bo.c):=hi.cell 14;have HC:=HH (SU W3 D B.bo.b B.bo.a B.bo.c s.boards hi.bo (by omega) cJ.o);clear hi;go_wp2_with fail;refine HC.o.mono ?_;rintro e y ⟨v,rfl,P,l⟩;obtain⟨ae,af,rfl⟩:=Bq P;clear cg HC;have m:y.heap[q]? =Z (T #[I U s.mode,I J s.clock,Y M s.procs.length N,Y F s.mem.length L,Y V s.semas.length X,Y aa s.events.length ab,Y O 0 0,Y O 0 0,Y O 0 0,Y O 0 0] 37 (0,0)):=(l.block _ (Aa a8.o)).trans a8.o;have zz:y.cell? ⟨q,6,O⟩=Z (Y O 0 0):=Cr m;have ff:y.frozen? ⟨q,6,O⟩=false:=by simp[bc,m]
 obtain⟨ah,aj,ak⟩:=H3 l P m;clear l P m;go_upto_region 7 with (fail);clear zz ff;have l:=ah.o;have m:=ak.o;obtain⟨W4,E⟩:=ex (y.setCell ⟨q,6,O⟩ (Y ae s.boards.length af));rw[←E];have z:∀ b,b≠q→b<y.heap.size→W4.heap[b]? =y.heap[b]?:=fun b r _=>by rw[E];exact aB _ _ _ _ r
 have ag:y.heap.size=W4.heap.size:=by rw[E];simp[bb]
 have ao:=bA.o.size;have aJ:=l.size;have an:t.heap.size≤W3.heap.size:=by have:=Aa a8.o;omega
 have a9:Hq (W4.heap[q]? =Z (T #[I U s.mode,I J s.clock,Y M s.procs.length N,Y F s.mem.length L,Y V s.semas.length X,Y aa s.events.length ab,Y ae s.boards.length af,Y O 0 0,Y O 0 0,Y O 0 0] 37 (0,0))):=by
  rw[E];show _=_;rw[aU y q 6 _ _ _ m];rfl
 have bB:Hq (Bl w W4):=by
  rw[E];exact bw (bA.o.trans (l.mono ao)) (by show w.heap.size≤q;omega) _
 have ck:Hq (W4.heap[w.heap.size]? =Z (T #[I U 0,I J 0,Y O 0 0,Y O 0 0,Y O 0 0,Y O 0 0,Y O 0 0,Y O 0 0,Y O 0 0,Y O 0 0] 37 (0,0))):=(z _ (by omega) (by omega)).trans ((l.block _ (by omega)).trans cj.o);have cb:Hq (W4.ownsRow t.heap.size 51 12 (Y M s.procs.length N) s.procs.length (s.procs.flatMap Em)):=Cg (CA ca.o l) m (by decide) z;have b6:Hq (W4.ownsRow t.heap.size 5 1 (Y F s.mem.length L) s.mem.length (s.mem.map (au U))):=Cg (CA b5.o l) m (by decide) z;have cf:Hq (W4.ownsRow t.heap.size 3 1 (Y V s.semas.length X) s.semas.length ((s.semas.map DJ).map (au J))):=Cg (CA ce.o l) m (by decide) z;have b0:Hq (W4.ownsRow t.heap.size 3 1 (Y aa s.events.length ab) s.events.length ((s.events.map Fp).map (au J))):=Cg (CA bZ.o l) m (by decide) z;have bX:Hq (W4.ownsRow t.heap.size 3 1 (Y ae s.boards.length af) s.boards.length ((s.boards.map FO).map (au J))):=Cx (Cg aj.o m (by decide) z) an;clear E z ag l m ao aJ an ah aj ak a8 ca b5 ce bZ cj;have hi:=H.o.below bB.o;have cg:W4.cell? ⟨g,12,O⟩=Z (Y B.qu.a s.queues.length B.qu.c):=hi.cell 12;have HC:=HH (SY W4 D B.qu.b B.qu.a B.qu.c s.queues hi.qu (by omega));clear hi;go_wp2_with fail;refine HC.o.mono ?_;rintro e y ⟨v,rfl,P,l⟩;obtain⟨ap,ar,rfl⟩:=Bq P;clear cg HC;have m:y.heap[q]? =Z (T #[I U s.mode,I J s.clock,Y M s.procs.length N,Y F s.mem.length L,Y V s.semas.length X,Y aa s.events.length ab,Y ae s.boards.length af,Y O 0 0,Y O 0 0,Y O 0 0] 37 (0,0)):=(l.block _ (Aa a9.o)).trans a9.o;have zz:y.cell? ⟨q,8,O⟩=Z (Y O 0 0):=Cr m;have ff:y.frozen? ⟨q,8,O⟩=false:=by simp[bc,m]
 obtain⟨ah,aj,ak⟩:=H3 l P m;clear l P m;go_upto_region 8 with (fail);clear zz ff;have l:=ah.o;have m:=ak.o;obtain⟨W5,E⟩:=ex (y.setCell ⟨q,8,O⟩ (Y ap s.queues.length ar));rw[←E];have z:∀ b,b≠q→b<y.heap.size→W5.heap[b]? =y.heap[b]?:=fun b r _=>by rw[E];exact aB _ _ _ _ r
 have ag:y.heap.size=W5.heap.size:=by rw[E];simp[bb]
 have ao:=bB.o.size;have aJ:=l.size;have an:t.heap.size≤W4.heap.size:=by have:=Aa a9.o;omega
 have ba:Hq (W5.heap[q]? =Z (T #[I U s.mode,I J s.clock,Y M s.procs.length N,Y F s.mem.length L,Y V s.semas.length X,Y aa s.events.length ab,Y ae s.boards.length af,Y O 0 0,Y ap s.queues.length ar,Y O 0 0] 37 (0,0))):=by
  rw[E];show _=_;rw[aU y q 8 _ _ _ m];rfl
 have bC:Hq (Bl w W5):=by
  rw[E];exact bw (bB.o.trans (l.mono ao)) (by show w.heap.size≤q;omega) _
 have cl:Hq (W5.heap[w.heap.size]? =Z (T #[I U 0,I J 0,Y O 0 0,Y O 0 0,Y O 0 0,Y O 0 0,Y O 0 0,Y O 0 0,Y O 0 0,Y O 0 0] 37 (0,0))):=(z _ (by omega) (by omega)).trans ((l.block _ (by omega)).trans ck.o);have cc:Hq (W5.ownsRow t.heap.size 51 12 (Y M s.procs.length N) s.procs.length (s.procs.flatMap Em)):=Cg (CA cb.o l) m (by decide) z;have b7:Hq (W5.ownsRow t.heap.size 5 1 (Y F s.mem.length L) s.mem.length (s.mem.map (au U))):=Cg (CA b6.o l) m (by decide) z;have ch:Hq (W5.ownsRow t.heap.size 3 1 (Y V s.semas.length X) s.semas.length ((s.semas.map DJ).map (au J))):=Cg (CA cf.o l) m (by decide) z;have b1:Hq (W5.ownsRow t.heap.size 3 1 (Y aa s.events.length ab) s.events.length ((s.events.map Fp).map (au J))):=Cg (CA b0.o l) m (by decide) z;have bY:Hq (W5.ownsRow t.heap.size 3 1 (Y ae s.boards.length af) s.boards.length ((s.boards.map FO).map (au J))):=Cg (CA bX.o l) m (by decide) z;have b2:Hq (W5.ownsRow t.heap.size 3 1 (Y ap s.queues.length ar) s.queues.length ((s.queues.map Gp).map (au J))):=Cx (Cg aj.o m (by decide) z) an;clear E z ag l m ao aJ an ah aj ak a9 cb b6 cf b0 bX ck;have hi:=H.o.below bC.o;have cg:W5.cell? ⟨g,13,O⟩=Z (Y B.bu.a s.bufs.length B.bu.c):=hi.cell 13;have HC:=HH (SV W5 D B.bu.b B.bu.a B.bu.c s.bufs hi.bu (by omega) (fun x hx=>by have:=(OK.o.bu x hx).len;omega));clear hi;go_wp2_with fail;refine HC.o.mono ?_;rintro e y ⟨v,rfl,P,l⟩;obtain⟨aC,aD,rfl⟩:∃ a c,v=Y a s.bufs.length c:=by
  obtain⟨vs,h1,_⟩:=P;obtain⟨a,c,h⟩:=Bq h1;exact⟨a,c,by simpa using h⟩
 clear cg HC;have m:y.heap[q]? =Z (T #[I U s.mode,I J s.clock,Y M s.procs.length N,Y F s.mem.length L,Y V s.semas.length X,Y aa s.events.length ab,Y ae s.boards.length af,Y O 0 0,Y ap s.queues.length ar,Y O 0 0] 37 (0,0)):=(l.block _ (Aa ba.o)).trans ba.o;have zz:y.cell? ⟨q,9,O⟩=Z (Y O 0 0):=Cr m;have ff:y.frozen? ⟨q,9,O⟩=false:=by simp[bc,m]
 obtain⟨ah,aj,ak⟩:=H3 l P m;clear l P m;go_upto_region 9 with (fail);clear zz ff;have l:=ah.o;have m:=ak.o;obtain⟨Q,E⟩:=ex (y.setCell ⟨q,9,O⟩ (Y aC s.bufs.length aD));rw[←E];have z:∀ b,b≠q→b<y.heap.size→Q.heap[b]? =y.heap[b]?:=fun b r _=>by rw[E];exact aB _ _ _ _ r
 have ag:y.heap.size=Q.heap.size:=by rw[E];simp[bb]
 have ao:=bC.o.size;have aJ:=l.size;have an:t.heap.size≤W5.heap.size:=by have:=Aa ba.o;omega
 have bH:Hq (Q.heap[q]? =Z (T #[I U s.mode,I J s.clock,Y M s.procs.length N,Y F s.mem.length L,Y V s.semas.length X,Y aa s.events.length ab,Y ae s.boards.length af,Y O 0 0,Y ap s.queues.length ar,Y aC s.bufs.length aD] 37 (0,0))):=by
  rw[E];show _=_;rw[aU y q 9 _ _ _ m];rfl
 have aE:Hq (Bl w Q):=by
  rw[E];exact bw (bC.o.trans (l.mono ao)) (by show w.heap.size≤q;omega) _
 have cS:Hq (Q.heap[w.heap.size]? =Z (T #[I U 0,I J 0,Y O 0 0,Y O 0 0,Y O 0 0,Y O 0 0,Y O 0 0,Y O 0 0,Y O 0 0,Y O 0 0] 37 (0,0))):=(z _ (by omega) (by omega)).trans ((l.block _ (by omega)).trans cl.o);have cP:Hq (Q.ownsRow t.heap.size 51 12 (Y M s.procs.length N) s.procs.length (s.procs.flatMap Em)):=Cg (CA cc.o l) m (by decide) z;have cO:Hq (Q.ownsRow t.heap.size 5 1 (Y F s.mem.length L) s.mem.length (s.mem.map (au U))):=Cg (CA b7.o l) m (by decide) z;have cQ:Hq (Q.ownsRow t.heap.size 3 1 (Y V s.semas.length X) s.semas.length ((s.semas.map DJ).map (au J))):=Cg (CA ch.o l) m (by decide) z;have cM:Hq (Q.ownsRow t.heap.size 3 1 (Y aa s.events.length ab) s.events.length ((s.events.map Fp).map (au J))):=Cg (CA b1.o l) m (by decide) z;have cL:Hq (Q.ownsRow t.heap.size 3 1 (Y ae s.boards.length af) s.boards.length ((s.boards.map FO).map (au J))):=Cg (CA bY.o l) m (by decide) z;have cN:Hq (Q.ownsRow t.heap.size 3 1 (Y ap s.queues.length ar) s.queues.length ((s.queues.map Gp).map (au J))):=Cg (CA b2.o l) m (by decide) z;have cR:Hq (Bk Q t.heap.size (Y aC s.bufs.length aD) (s.bufs.map (·.data))):=XW (XV aj.o m (by decide) (by decide) z) an;clear E z ag l m ao aJ an ah aj ak ba cc b7 ch b1 bY b2 cl;have cy:q<Q.heap.size:=Aa bH.o;have dT:=aE.o.size;have cg:Q.cell? ⟨g,12,O⟩=Z (Y B.qu.a s.queues.length B.qu.c):=(H.o.below aE.o).cell 12;go_upto_region 10 with (fail);clear cg
 go_loopw [4,5,6,78] (fun _ _ _ v wr=>∃ k:Nat,k≤s.queues.length∧v=I J k∧(∃ a c,Hq (wr.heap[q]? =Z (T #[I U s.mode,I J s.clock,Y M s.procs.length N,Y F s.mem.length L,Y V s.semas.length X,Y aa s.events.length ab,Y ae s.boards.length af,Y a k c,Y ap s.queues.length ar,Y aC s.bufs.length aD] 37 (0,0))∧wr.ownsRow Q.heap.size 3 1 (Y a k c) k (((aQ k).map (portN s)).map (au J))∧Upd [q] Q wr))) (fun _ _ _ v _=>s.queues.length-(intOf v).toNat)
 case atStart=>exact⟨0,be _,rfl,O,0,bH.o,⟨by simp,.inl ⟨rfl,rfl⟩⟩,Upd.refl _ _⟩
 case round=>
  obtain⟨k,dI,rfl,a,c,A⟩:=hrel;by_cases hk:k<s.queues.length
  ·have dK:(k:Int)<(s.queues.length:Int):=by omega
   have ag:k<s.samples.length:=by omega
   have dJ:(k:Int)<(s.samples.length:Int):=by omega
   obtain⟨ad,P,C⟩:=A.o;have c5:=C.size;have cr:Bl w wr:=⟨C.os.trans aE.o.os,C.tape.trans aE.o.tape,C.output.trans aE.o.output,by omega,fun j hj=>(C.block j (by omega) (by simp only[aR];omega)).trans (aE.o.block j hj)⟩;have hp:=H.o.below cr;have cx:=hp.qu.ptr (by omega);have dq:=hp.qu.cap;have dr:=hp.sa.cap;obtain⟨v1,u1,hc,hr,cz⟩:=hp.qu.el k hk;obtain⟨aq,cq,rfl⟩:=hr.rd.C2;obtain⟨aw,cw,rfl,_,_,_⟩:=cz.1.open_;obtain⟨v2,ct,_⟩:=hp.sa.el k ag;have cC:=hp.Ic (by omega);obtain⟨y0,y1,y2⟩:=EO hc;have dp:∀ ob,(wr.alloc ob).cell? ⟨g,11,O⟩=Z (Y (Z ⟨B.sa.b,0,O⟩) s.samples.length B.sa.c):=fun ob=>by
    rw[bh _ _ _ (bP hp.lt)];exact cC
   have cm:∀ ob,(wr.alloc ob).cell? ⟨B.sa.b,k*3+2,O⟩=Z (.bool s.samples[k].has):=fun ob=>by
    rw[bh _ _ _ (bP hp.sa.lt)];exact ct 2 _ rfl
   have ds:∀ ob,(wr.alloc ob).cell? ⟨q,7,O⟩=Z (Y a k c):=fun ob=>by
    rw[bh _ _ _ (bP (Aa ad))];exact Cr ad
   rw[cx];clear A hp cr hc hr cz ct cC cx;cases hh:s.samples[k].has with
   |true=>
    have hz:portN s k=(1:Int):=by
     simp only[portN,getD_eq ag,getD_eq hk,hh];simp
    have HZ:=HH hz;rw[hh] at cm;have aW:=fun b=>F8 (b:=b) P;have aZ:((wr.alloc (T #[.slice aq s.queues[k].q.length cq,.slice aw s.queues[k].wait.length cw,I J s.queues[k].lost] 107)).alloc (T #[I J (1:Int)] 3)).ownsRow Q.heap.size 3 1 (Y a k c) k (((aQ k).map (portN s)).map (au J)):=Bp P fun b _ r=>(ax _ _ _ (by simp;omega)).trans (ax _ _ _ r);obtain⟨R,c2,S,a0,aY,av⟩:=Gv (W:=(wr.alloc (T #[.slice aq s.queues[k].q.length cq,.slice aw s.queues[k].wait.length cw,I J s.queues[k].lost] 107)).alloc (T #[I J (1:Int)] 3)) (q:=wr.heap.size+1) (new:=[I J (1:Int)]) aZ underlying22 Hs rfl (by decide) (by simp;omega) (by omega) (by decide) (Da wr _ _).2 rfl (by intro u C;simp only[aR] at C;subst C;rfl) 22;have bT:wr.heap.size+1+1≤S.heap.size:=by simpa using av.size
    have aN:∀ b,b<Q.heap.size→S.heap[b]? =wr.heap[b]?:=fun b r=>(av.block b (by simp;omega) (fun e=>by have:=(aW b e.symm).1;omega)).trans ((ax _ _ _ (by simp;omega)).trans (ax _ _ _ (by omega)));have aI:S.heap[q]? =Z (T #[I U s.mode,I J s.clock,Y M s.procs.length N,Y F s.mem.length L,Y V s.semas.length X,Y aa s.events.length ab,Y ae s.boards.length af,Y a k c,Y ap s.queues.length ar,Y aC s.bufs.length aD] 37 (0,0)):=(aN q cy).trans ad;have cV:S.cell? ⟨q,7,O⟩=Z (Y a k c):=Cr aI;have cZ:S.frozen? ⟨q,7,O⟩=false:=by simp[bc,aI]
    have a1:(S.setCell ⟨q,7,O⟩ (Y R (k+1) c2)).heap.size=S.heap.size:=by simp[bb]
    have HN:Hq ((S.setCell ⟨q,7,O⟩ (Y R (k+1) c2)).heap[q]? =Z (T #[I U s.mode,I J s.clock,Y M s.procs.length N,Y F s.mem.length L,Y V s.semas.length X,Y aa s.events.length ab,Y ae s.boards.length af,Y R (k+1) c2,Y ap s.queues.length ar,Y aC s.bufs.length aD] 37 (0,0))∧(S.setCell ⟨q,7,O⟩ (Y R (k+1) c2)).ownsRow Q.heap.size 3 1 (Y R (k+1) c2) (k+1) (((aQ (k+1)).map (portN s)).map (au J))∧Upd [q] Q (S.setCell ⟨q,7,O⟩ (Y R (k+1) c2))):=by
     refine⟨by rw[aU S q 7 _ _ _ aI];rfl,?_,?_⟩
     ·have e:((aQ (k+1)).map (portN s)).map (au J)=((aQ k).map (portN s)).map (au J)++ [I J (1:Int)]:=by
       rw[←HZ.o];simp only[bQ,bU,bN,cE]
      rw[e];exact Bp aY fun b r _=>aB _ _ _ _ (fun e=>by have e2:b=q:=e;omega)
     ·exact⟨av.os.trans C.os,av.tape.trans C.tape,av.output.trans C.output,by rw[a1];omega,fun b r hn=>(aB _ _ _ _ (by simpa using hn)).trans ((aN b r).trans (C.block b r hn))⟩
    have bF:=HH a0;clear ad P C aW aZ a0 aY av aN aI hz a1 hh bT;go_wp2_with (at_builtin;refine bJ _ rfl _ _ _ _ rfl _ _ rfl rfl _ _ bF.o ?_)
    go_roundw
    case rel=>exact⟨k+1,by omega,by go_num,R,c2,HN.o⟩
    case measure=>simp[intOf];omega
   |false=>
    have hz:portN s k=(s.queues[k].q.length:Int):=by
     simp only[portN,getD_eq ag,getD_eq hk,hh];simp
    have HZ:=HH hz;rw[hh] at cm;have aW:=fun b=>F8 (b:=b) P;have aZ:((wr.alloc (T #[.slice aq s.queues[k].q.length cq,.slice aw s.queues[k].wait.length cw,I J s.queues[k].lost] 107)).alloc (T #[I J (s.queues[k].q.length:Int)] 3)).ownsRow Q.heap.size 3 1 (Y a k c) k (((aQ k).map (portN s)).map (au J)):=Bp P fun b _ r=>(ax _ _ _ (by simp;omega)).trans (ax _ _ _ r);obtain⟨R,c2,S,a0,aY,av⟩:=Gv (W:=(wr.alloc (T #[.slice aq s.queues[k].q.length cq,.slice aw s.queues[k].wait.length cw,I J s.queues[k].lost] 107)).alloc (T #[I J (s.queues[k].q.length:Int)] 3)) (q:=wr.heap.size+1) (new:=[I J (s.queues[k].q.length:Int)]) aZ underlying22 Hs rfl (by decide) (by simp;omega) (by omega) (by decide) (Da wr _ _).2 rfl (by intro u C;simp only[aR] at C;subst C;rfl) 22;have bT:wr.heap.size+1+1≤S.heap.size:=by simpa using av.size
    have aN:∀ b,b<Q.heap.size→S.heap[b]? =wr.heap[b]?:=fun b r=>(av.block b (by simp;omega) (fun e=>by have:=(aW b e.symm).1;omega)).trans ((ax _ _ _ (by simp;omega)).trans (ax _ _ _ (by omega)));have aI:S.heap[q]? =Z (T #[I U s.mode,I J s.clock,Y M s.procs.length N,Y F s.mem.length L,Y V s.semas.length X,Y aa s.events.length ab,Y ae s.boards.length af,Y a k c,Y ap s.queues.length ar,Y aC s.bufs.length aD] 37 (0,0)):=(aN q cy).trans ad;have cV:S.cell? ⟨q,7,O⟩=Z (Y a k c):=Cr aI;have cZ:S.frozen? ⟨q,7,O⟩=false:=by simp[bc,aI]
    have a1:(S.setCell ⟨q,7,O⟩ (Y R (k+1) c2)).heap.size=S.heap.size:=by simp[bb]
    have HN:Hq ((S.setCell ⟨q,7,O⟩ (Y R (k+1) c2)).heap[q]? =Z (T #[I U s.mode,I J s.clock,Y M s.procs.length N,Y F s.mem.length L,Y V s.semas.length X,Y aa s.events.length ab,Y ae s.boards.length af,Y R (k+1) c2,Y ap s.queues.length ar,Y aC s.bufs.length aD] 37 (0,0))∧(S.setCell ⟨q,7,O⟩ (Y R (k+1) c2)).ownsRow Q.heap.size 3 1 (Y R (k+1) c2) (k+1) (((aQ (k+1)).map (portN s)).map (au J))∧Upd [q] Q (S.setCell ⟨q,7,O⟩ (Y R (k+1) c2))):=by
     refine⟨by rw[aU S q 7 _ _ _ aI];rfl,?_,?_⟩
     ·have e:((aQ (k+1)).map (portN s)).map (au J)=((aQ k).map (portN s)).map (au J)++ [I J (s.queues[k].q.length:Int)]:=by
       rw[←HZ.o];simp only[bQ,bU,bN,cE]
      rw[e];exact Bp aY fun b r _=>aB _ _ _ _ (fun e=>by have e2:b=q:=e;omega)
     ·exact⟨av.os.trans C.os,av.tape.trans C.tape,av.output.trans C.output,by rw[a1];omega,fun b r hn=>(aB _ _ _ _ (by simpa using hn)).trans ((aN b r).trans (C.block b r hn))⟩
    have bF:=HH a0;clear ad P C aW aZ a0 aY av aN aI hz a1 hh bT;go_wp2_with (at_builtin;refine bJ _ rfl _ _ _ _ rfl _ _ rfl rfl _ _ bF.o ?_)
    go_roundw
    case rel=>exact⟨k+1,by omega,by go_num,R,c2,HN.o⟩
    case measure=>simp[intOf];omega
  ·obtain rfl:k=s.queues.length:=by omega
   obtain⟨ad,P,C⟩:=A.o;obtain⟨HU,HO,dk⟩:=H3 C P ad;have c5:=C.size;have bi:wr.heap[w.heap.size]? =Z (T #[I U 0,I J 0,Y O 0 0,Y O 0 0,Y O 0 0,Y O 0 0,Y O 0 0,Y O 0 0,Y O 0 0,Y O 0 0] 37 (0,0)):=(C.block _ (by omega) (by simp only[aR];omega)).trans cS.o;have dl:=HH bi;obtain⟨z0,z1,z2,z3,z4,z5,z6,z7,z8,z9⟩:=DV ad;obtain⟨y0,y1,y2,y3,y4,y5,y6,y7,y8,y9⟩:=DV bi;obtain⟨dv,dw,dx,dy,dz,dA,dB,dC,dD,dE⟩:=f10 bi;clear A ad P C bi;go_wp2_with fail;refine bodyPost_ret (v:=.agg #[I U s.mode,I J s.clock,Y M s.procs.length N,Y F s.mem.length L,Y V s.semas.length X,Y aa s.events.length ab,Y ae s.boards.length af,Y a s.queues.length c,Y ap s.queues.length ar,Y aC s.bufs.length aD]) (by simp[results,results10,go_sem,z0,y0,z1,y1,z2,y2,z3,y3,z4,y4,z5,y5,z6,y6,z7,y7,z8,y8,z9,y9]) rfl ?_;obtain⟨W9,bL⟩:=ex ((((((((((wr.setCell ⟨w.heap.size,0,O⟩ (I U s.mode)).setCell ⟨w.heap.size,1,O⟩ (I J s.clock)).setCell ⟨w.heap.size,2,O⟩ (Y M s.procs.length N)).setCell ⟨w.heap.size,3,O⟩ (Y F s.mem.length L)).setCell ⟨w.heap.size,4,O⟩ (Y V s.semas.length X)).setCell ⟨w.heap.size,5,O⟩ (Y aa s.events.length ab)).setCell ⟨w.heap.size,6,O⟩ (Y ae s.boards.length af)).setCell ⟨w.heap.size,7,O⟩ (Y a s.queues.length c)).setCell ⟨w.heap.size,8,O⟩ (Y ap s.queues.length ar)).setCell ⟨w.heap.size,9,O⟩ (Y aC s.bufs.length aD));rw[←bL];have bI:W9=setsAt wr w.heap.size 0 [(0,I U s.mode),(1,I J s.clock),(2,Y M s.procs.length N),(3,Y F s.mem.length L),(4,Y V s.semas.length X),(5,Y aa s.events.length ab),(6,Y ae s.boards.length af),(7,Y a s.queues.length c),(8,Y ap s.queues.length ar),(9,Y aC s.bufs.length aD)]:=bL;have c4:W9.heap.size=wr.heap.size:=by rw[bI,BO]
   have hoth:∀ j,j≠w.heap.size→W9.heap[j]? =wr.heap[j]?:=fun j h1=>by rw[bI,AU h1]
   have bR:W9.os=wr.os∧W9.tape=wr.tape∧W9.output=wr.output:=by rw[bI];exact Be _ _
   clear bL;have cA:∀ b,b<Q.heap.size→b≠q→b≠w.heap.size→W9.heap[b]? =Q.heap[b]?:=fun b r h1 h2=>(hoth b h2).trans (HU.o.block b r (by simpa using h1));have aM:∀ {e:c6} {cB n:Nat} {v:bk} {xs:List bk},Q.ownsRow t.heap.size e cB v n xs→e≠37→W9.ownsRow t.heap.size e cB v n xs:=fun h c1=>by
    refine⟨h.1,?_⟩;rcases h.2 with h2|⟨b,cap,cur,hv,hB,r,hr⟩
    ·exact .inl h2
    ·exact .inr ⟨b,cap,cur,hv,hB,(cA b (Aa r) (DT r bH.o c1) (by omega)).trans r,hr⟩
   have aO:w.heap.size≤t.heap.size:=by omega
   refine⟨_,_,_,_,_,_,_,_,rfl,⟨?_,?_,?_,?_,?_,?_,?_,?_⟩,?_⟩
   ·exact(Sl.Bw (aM cP.o (by decide))).mono aO
   ·exact(Sl.Bw (aM cO.o (by decide))).mono aO
   ·exact(Kh (aM cQ.o (by decide)) (by simp)).mono aO
   ·exact(Kh (aM cM.o (by decide)) (by simp)).mono aO
   ·exact(Kh (aM cL.o (by decide)) (by simp)).mono aO
   ·exact(Kh (Bp HO.o fun b r _=>hoth b (by omega)) (by simp)).mono (by omega)
   ·exact(Kh (aM cN.o (by decide)) (by simp)).mono aO
   ·obtain⟨vs,k1,k2⟩:=cR.o;exact(Bk.rd ⟨vs,aM k1 (by decide),fun i u x C hx=>aM (k2 i u x C hx) (by decide)⟩).mono aO
   ·exact⟨bR.1.trans (HU.o.os.trans aE.o.os),bR.2.1.trans (HU.o.tape.trans aE.o.tape),bR.2.2.trans (HU.o.output.trans aE.o.output),by rw[c4];omega,fun j hj=>(cA j (by omega) (by omega) (by omega)).trans (aE.o.block j hj)⟩
def Oi(v:bk)(n:Nat)(f:List bk)(w:bn)(h:Sl w 0 1 v n f)(S:n≤1000000)(t:∀ u∈f,u.oneCell'=true):
  cK prog 63 #[v] w fun e w'=>∃ g,e=.returned g∧w'.ownsRow w.heap.size 3 1 g n f∧Bl w w':=by
 obtain⟨C,cap,rfl,W,l,z,m⟩:=h;obtain⟨R,H,N,P,Q⟩:=cG Hs;have q:∀ (w:bn) (a:Option c7) (n c r i:Nat),(binOp .eql 22 (Y a n c) (Y O r i)).run prog w=.ok (.bool a.isNone) w:=fun w a n c r i=>bl w _ _ a n c r i underlying22
 obtain⟨p,B⟩:=H2 z t;clear z t;cases C with
 |none=>
  have d:n=0:=by have:=l rfl;omega
  subst d;have M:f=[]:=aX (by have:=p.o;omega);clear m l;go_enter func63,ntmps63;go_wp2;go_ret;subst M;exact⟨_,rfl,bt _ _ _ _,aP _ _⟩
 |some s=>
  have A:Hq (∀ j u,f[j]? =Z u→w.cell? (s.add j)=Z u):=by
   intro j u y;have V:=(aH.1 y).1;have d:0<n:=by
    rcases bs n with d|d
    ·have:=p.o;rw[d] at this;omega
    ·exact d
   obtain⟨b,aa,D,_,_,E⟩:=m d;cases D;rw[Cu];exact E j u y
  clear m l;go_enter func63,ntmps63;go_wp2_with (at_builtin;refine bD _ rfl _ _ 22 rfl w.heap.size 3 R (I J 0) 1 8 underlying22 H N P Q rfl (by decide) _ _ _ rfl (bp w #[] 0 (aG _) (be _) (by simp)) s n cap f rfl ?qc1 ?qc2 ?qc3 ?qc4 ?qc5 ?qc6 ?_)
  case qc1=>exact p.o
  case qc2=>
   intro j u x;exact(bm _ _ _ (bd _ _ (A.o j u x))).trans (A.o j u x)
  case qc3=>exact B.o
  case qc4=>unfold maxLen;omega
  case qc5=>omega
  case qc6=>simp
  intro g w1 L F X;go_wp2;go_ret;exact⟨g,rfl,by simpa using L,((aP _ w).alloc (aG _) _).grown F (by simp) (by intro k K;simp[bG] at K;omega)⟩
def Vc:(prog.info? 62).map (fun i=>(i.zero,i.size,i.bytes))=Z (Z (.agg #[.string ⟨#[]⟩,I U 0,.bool false,I J 0,I J 0,I J 0]),6,48):=by kernel_rfl
def Sf(v:bk)(n:Nat)(f:List bk)(w:bn)(h:Sl w 0 6 v n f)(S:n≤1000000)(t:∀ u∈f,u.oneCell'=true):
  cK prog 64 #[v] w fun e w'=>∃ g,e=.returned g∧w'.ownsRow w.heap.size 62 6 g n f∧Bl w w':=by
 obtain⟨C,cap,rfl,W,l,z,m⟩:=h;obtain⟨R,H,N,P,Q⟩:=cG Vc;have q:∀ (w:bn) (a:Option c7) (n c r i:Nat),(binOp .eql 23 (Y a n c) (Y O r i)).run prog w=.ok (.bool a.isNone) w:=fun w a n c r i=>bl w _ _ a n c r i underlying23
 obtain⟨p,B⟩:=H2 z t;clear z t;cases C with
 |none=>
  have d:n=0:=by have:=l rfl;omega
  subst d;have M:f=[]:=aX (by have:=p.o;omega);clear m l;go_enter func64,ntmps64;go_wp2;go_ret;subst M;exact⟨_,rfl,bt _ _ _ _,aP _ _⟩
 |some s=>
  have A:Hq (∀ j u,f[j]? =Z u→w.cell? (s.add j)=Z u):=by
   intro j u y;have V:=(aH.1 y).1;have d:0<n:=by
    rcases bs n with d|d
    ·have:=p.o;rw[d] at this;omega
    ·exact d
   obtain⟨b,aa,D,_,_,E⟩:=m d;cases D;rw[Cu];exact E j u y
  clear m l;go_enter func64,ntmps64;go_wp2_with (at_builtin;refine bD _ rfl _ _ 23 rfl w.heap.size 62 R (.agg #[.string ⟨#[]⟩,I U 0,.bool false,I J 0,I J 0,I J 0]) 6 48 underlying23 H N P Q rfl (by decide) _ _ _ rfl (bp w #[] 0 (aG _) (be _) (by simp)) s n cap f rfl ?qc1 ?qc2 ?qc3 ?qc4 ?qc5 ?qc6 ?_)
  case qc1=>exact p.o
  case qc2=>
   intro j u x;exact(bm _ _ _ (bd _ _ (A.o j u x))).trans (A.o j u x)
  case qc3=>exact B.o
  case qc4=>unfold maxLen;omega
  case qc5=>omega
  case qc6=>simp
  intro g w1 L F X;go_wp2;go_ret;exact⟨g,rfl,by simpa using L,((aP _ w).alloc (aG _) _).grown F (by simp) (by intro k K;simp[bG] at K;omega)⟩
def Vb:(prog.info? 68).map (fun i=>(i.zero,i.size,i.bytes))=Z (Z (.agg #[.string ⟨#[]⟩,I J 0,I J 0,I J 0,Y O 0 0]),5,64):=by kernel_rfl
def Sd(v:bk)(n:Nat)(f:List bk)(w:bn)(h:Sl w 0 5 v n f)(S:n≤1000000)(t:∀ u∈f,u.oneCell'=true):
  cK prog 65 #[v] w fun e w'=>∃ g,e=.returned g∧w'.ownsRow w.heap.size 68 5 g n f∧Bl w w':=by
 obtain⟨C,cap,rfl,W,l,z,m⟩:=h;obtain⟨R,H,N,P,Q⟩:=cG Vb;have q:∀ (w:bn) (a:Option c7) (n c r i:Nat),(binOp .eql 24 (Y a n c) (Y O r i)).run prog w=.ok (.bool a.isNone) w:=fun w a n c r i=>bl w _ _ a n c r i underlying24
 obtain⟨p,B⟩:=H2 z t;clear z t;cases C with
 |none=>
  have d:n=0:=by have:=l rfl;omega
  subst d;have M:f=[]:=aX (by have:=p.o;omega);clear m l;go_enter func65,ntmps65;go_wp2;go_ret;subst M;exact⟨_,rfl,bt _ _ _ _,aP _ _⟩
 |some s=>
  have A:Hq (∀ j u,f[j]? =Z u→w.cell? (s.add j)=Z u):=by
   intro j u y;have V:=(aH.1 y).1;have d:0<n:=by
    rcases bs n with d|d
    ·have:=p.o;rw[d] at this;omega
    ·exact d
   obtain⟨b,aa,D,_,_,E⟩:=m d;cases D;rw[Cu];exact E j u y
  clear m l;go_enter func65,ntmps65;go_wp2_with (at_builtin;refine bD _ rfl _ _ 24 rfl w.heap.size 68 R (.agg #[.string ⟨#[]⟩,I J 0,I J 0,I J 0,Y O 0 0]) 5 64 underlying24 H N P Q rfl (by decide) _ _ _ rfl (bp w #[] 0 (aG _) (be _) (by simp)) s n cap f rfl ?qc1 ?qc2 ?qc3 ?qc4 ?qc5 ?qc6 ?_)
  case qc1=>exact p.o
  case qc2=>
   intro j u x;exact(bm _ _ _ (bd _ _ (A.o j u x))).trans (A.o j u x)
  case qc3=>exact B.o
  case qc4=>unfold maxLen;omega
  case qc5=>omega
  case qc6=>simp
  intro g w1 L F X;go_wp2;go_ret;exact⟨g,rfl,by simpa using L,((aP _ w).alloc (aG _) _).grown F (by simp) (by intro k K;simp[bG] at K;omega)⟩
def Va:(prog.info? 64).map (fun i=>(i.zero,i.size,i.bytes))=Z (Z (.agg #[I U 0,I J 0,I J 0,I J 0]),4,32):=by kernel_rfl
def Sc(v:bk)(n:Nat)(f:List bk)(w:bn)(h:Sl w 0 4 v n f)(S:n≤1000000)(t:∀ u∈f,u.oneCell'=true):
  cK prog 66 #[v] w fun e w'=>∃ g,e=.returned g∧w'.ownsRow w.heap.size 64 4 g n f∧Bl w w':=by
 obtain⟨C,cap,rfl,W,l,z,m⟩:=h;obtain⟨R,H,N,P,Q⟩:=cG Va;have q:∀ (w:bn) (a:Option c7) (n c r i:Nat),(binOp .eql 66 (Y a n c) (Y O r i)).run prog w=.ok (.bool a.isNone) w:=fun w a n c r i=>bl w _ _ a n c r i underlying66
 obtain⟨p,B⟩:=H2 z t;clear z t;cases C with
 |none=>
  have d:n=0:=by have:=l rfl;omega
  subst d;have M:f=[]:=aX (by have:=p.o;omega);clear m l;go_enter func66,ntmps66;go_wp2;go_ret;subst M;exact⟨_,rfl,bt _ _ _ _,aP _ _⟩
 |some s=>
  have A:Hq (∀ j u,f[j]? =Z u→w.cell? (s.add j)=Z u):=by
   intro j u y;have V:=(aH.1 y).1;have d:0<n:=by
    rcases bs n with d|d
    ·have:=p.o;rw[d] at this;omega
    ·exact d
   obtain⟨b,aa,D,_,_,E⟩:=m d;cases D;rw[Cu];exact E j u y
  clear m l;go_enter func66,ntmps66;go_wp2_with (at_builtin;refine bD _ rfl _ _ 66 rfl w.heap.size 64 R (.agg #[I U 0,I J 0,I J 0,I J 0]) 4 32 underlying66 H N P Q rfl (by decide) _ _ _ rfl (bp w #[] 0 (aG _) (be _) (by simp)) s n cap f rfl ?qc1 ?qc2 ?qc3 ?qc4 ?qc5 ?qc6 ?_)
  case qc1=>exact p.o
  case qc2=>
   intro j u x;exact(bm _ _ _ (bd _ _ (A.o j u x))).trans (A.o j u x)
  case qc3=>exact B.o
  case qc4=>unfold maxLen;omega
  case qc5=>omega
  case qc6=>simp
  intro g w1 L F X;go_wp2;go_ret;exact⟨g,rfl,by simpa using L,((aP _ w).alloc (aG _) _).grown F (by simp) (by intro k K;simp[bG] at K;omega)⟩
structure JF(d:Ad):Prop where
 co:K0 d
 ps:∀ p∈d.Ab,p.size≤64
structure Good(d:Ad)(s:Ae):Prop where
 ok:Ah d s
 FB:∀ i,i<s.procs.length→(s.procs.getD i default).s.pc≤((d.procs.getD i default).code.length:Int)
 bv:∀ x∈s.boards,0≤x.val∧x.val≤255
 qn:∀ x∈s.queues,∀ m∈x.q,m≠ []
 inv:Inv s
 md:s.mode=1∨s.mode=2∨s.mode=3∨s.mode=4
def Yw{k z d r:Int}{q:List (List Int)}{l:List Wt}{n p u:Int}{x:List Int}(h:x∈(recvQ k z d r q l n p u).1):x∈q:=by
 unfold recvQ at h;split at h
 ·exact h
 ·cases q with
  |nil=>simp at h
  |cons y t=>exact List.mem_cons_of_mem _ h
section
variable {d:Ad} {s:Ae} {i:Nat} {now t:Int} {a:Ac} {data l:List Int}
def Good.st(h:Good d s):∀ i,i<s.procs.length→Ed (d.procs.getD i default).code.length (s.procs.getD i default).s:=fun i b=>by
 have:=h.ok.at_ b;exact⟨this.AG,this.bytes,⟨this.pc.1,h.FB i b⟩,this.left⟩
def Rs(o:Cz d s.mem.length a)(b:∀ x∈s.queues,∀ m∈x.q,m≠ []):∀ x∈(actA d i now a s).1.queues,∀ m∈x.q,m≠ []:=by
 have j:∀ (k:Nat),∀ m∈(s.queues.getD k default).q,m≠ []:=fun k=>by
  by_cases g:k<s.queues.length
  ·exact b _ (getD_mem g)
  ·rw[cs,cI (by omega)];intro m c;cases c
 have f:∀ (l:List Int) (data:List Int) (s0:Ae),s0.queues=s.queues→∀ x∈(wakeP d now data l s0).queues,∀ m∈x.q,m≠ []:=fun l data s0 e=>by
  obtain⟨P,n⟩:=Kx (d:=d) (t:=now) (data:=data) l s0;rw[n];show ∀ x∈s0.queues,_;rw[e];exact b
 unfold actA;split
 ·exact b
 ·rename_i g;show ∀ x∈(EJ d now a s).queues,_;unfold EJ;split
  ·exact b
  ·refine mem_set (P:=fun x:AO=>∀ m∈x.q,m≠ []) b _ ?_;intro m c;rcases Nh c with c|c
   ·exact j _ m c
   ·rw[c];intro e;have:=(o.send g).2.2;rw[e] at this;simp at this
 ·show ∀ x∈(Fg d i now a s).1.queues,_;unfold Fg;split
  ·have h:∀ x∈s.queues.set a.a.toNat ⟨(recvQ (portA d a).kind (portA d a).size (portA d a).depth (portA d a).At (quA a s).q (quA a s).wait (quA a s).lost i (prioA d i)).1,(recvQ (portA d a).kind (portA d a).size (portA d a).depth (portA d a).At (quA a s).q (quA a s).wait (quA a s).lost i (prioA d i)).2.1,(quA a s).lost⟩,∀ m∈x.q,m≠ []:=
    mem_set (P:=fun x:AO=>∀ m∈x.q,m≠ []) b _ (fun m c=>j _ m (Yw c))
   simp only[];split
   ·exact h
   ·exact h
  ·exact b
 ·exact b
 ·exact f _ _ _ rfl
 ·exact f _ _ _ rfl
 ·exact b
 ·exact b
 ·exact f _ _ _ rfl
 ·show ∀ x∈(Gt d i now a s).1.queues,_;unfold Gt;simp only[];split
  ·exact f _ _ _ rfl
  ·exact f _ _ _ rfl
 ·exact f _ _ _ rfl
 ·show ∀ x∈(Gu d i a s).1.queues,_;unfold Gu;simp only[];split
  ·exact b
  ·exact b
 ·exact b
 ·show ∀ x∈(nextA d i s).1.queues,_;unfold nextA;split
  ·exact b
  ·exact b
 ·exact b
 ·exact b
def Y8(d:Ad)(i:Nat)(now:Int)(s:Ae):∃ (b t:Ae) (go:Bool) (c:St) (a:Ac),FZ (d.procs.getD i default).code (s.procs.getD i default).s s.mem=(c,a)∧b={s with procs:=s.procs.set i {s.procs.getD i default with s:=c}}∧actA d i now a b=(t,go)∧EI d i now s=((if go then t else {t with procs:=t.procs.set i (waitR a (t.procs.getD i default))}),a):=
 ⟨{s with procs:=s.procs.set i {s.procs.getD i default with s:=(FZ (d.procs.getD i default).code (s.procs.getD i default).s s.mem).1}},_,_,(FZ (d.procs.getD i default).code (s.procs.getD i default).s s.mem).1,(FZ (d.procs.getD i default).code (s.procs.getD i default).s s.mem).2,rfl,rfl,rfl,rfl⟩
structure NP(d:Ad)(i:Nat)(s f:Ae)(a:Ac):Prop where
 good:Good d f
 oth:∀ k,k<s.procs.length→k≠i→∃ m,Wk (s.procs.getD k default) (f.procs.getD k default) m∧(m=true→(s.procs.getD k default).status=3)
 own:(f.procs.getD i default).deadline=(s.procs.getD i default).deadline∨(f.procs.getD i default).deadline=-1
 len:f.procs.length=s.procs.length
 mem:f.mem=s.mem∨(a.kind=1∧∃ j v,f.mem=s.mem.set j v)
 clk:f.clock=s.clock
 md:f.mode=s.mode
 act:Cz d s.mem.length a
def YH(hx:JF d)(h:Good d s)(q:i<s.procs.length)(H:(s.procs.getD i default).status=2)(h0:0≤now)(h1:now≤1073741824):NP d i s (EI d i now s).1 (EI d i now s).2:=by
 obtain⟨b,t,go,c,a,X,n,e3,e4⟩:=Y8 d i now s;rw[e4];have hid:i<d.procs.length:=by rw[←h.ok.procs];exact q
 have M:=getD_mem (l:=d.procs) (d:=default) hid;have B:=Q8 (hx.co _ M) (h.st i q) h.ok.I0;rw[X] at B;have p:Ed (d.procs.getD i default).code.length c:=B.1;have L:Cz d s.mem.length a:=B.2;have an:=h.ok.at_ q;have aw:=(h.ok.ok.pc _ M).len;have ap:D5 {s.procs.getD i default with s:=c}:={an with AG:=p.AG,bytes:=p.bytes,pc:=⟨p.pc.1,by have:=p.pc.2;show c.pc≤24;omega⟩,left:=p.left};have S:Ah d b:=by rw[n];exact h.ok.G4 i ap
 have v:b.procs.getD i default={s.procs.getD i default with s:=c}:=by rw[n];simp only[Cv,q,and_self,if_true]
 have gk:∀ k,k≠i→b.procs.getD k default=s.procs.getD k default:=fun k o=>by
  rw[n];show(s.procs.set i _).getD _ _=_;rw[Cv,if_neg (fun y=>o y.1.symm)]
 have C:b.procs.length=s.procs.length:=by rw[n];simp
 have R:b.mem=s.mem:=by rw[n]
 have aq:Inv b:=by rw[n];exact h.inv.own (by rw[H];decide) _
 have n3:(b.procs.getD i default).status≠3:=by
  rw[v];show(s.procs.getD i default).status≠3;rw[H];decide
 have D:∀ x∈b.boards,0≤x.val∧x.val≤255:=by rw[n];exact h.bv
 have k1:b.clock=s.clock:=by rw[n]
 have d1:b.mode=s.mode:=by rw[n]
 have w:Cz d b.mem.length a:=by rw[R];exact L
 have z:i<b.procs.length:=by rw[C];exact q
 have g:=Rr (now:=now) aq S n3 z w;have u:=S.act D z w h0 (show now≤4294967296 by omega);have W:=Rs (i:=i) (now:=now) (a:=a) (s:=b) w (by rw[n];exact h.qn);rw[e3] at g u W;have Q:i<t.procs.length:=by rw[g.len];exact z
 have P:=g.inv;obtain⟨f,j⟩:=ex (if go then t else {t with procs:=t.procs.set i (waitR a (t.procs.getD i default))});rw[←j] at P;rw[←j];show NP d i s f a;have fk:∀ k,k≠i→f.procs.getD k default=t.procs.getD k default:=fun k o=>by
  rw[j];split
  ·rfl
  ·show(t.procs.set i _).getD _ _=_;rw[Cv,if_neg (fun y=>o y.1.symm)]
 have F:f.procs.getD i default=t.procs.getD i default∨f.procs.getD i default=waitR a (t.procs.getD i default):=by
  rw[j];split
  ·exact .inl rfl
  ·refine .inr ?_;show(t.procs.set i _).getD _ _=_;simp only[Cv,Q,and_self,if_true]
 have ai:Ah d f:=by
  rw[j];split
  ·exact u
  ·have:=u.at_ Q;exact u.G4 i {this with}
 have fl:f.procs.length=s.procs.length:=by
  rw[←C,←g.len,j];split
  ·rfl
  ·simp
 have fm:f.mem=t.mem:=by rw[j];split<;>rfl
 have fc:f.clock=t.clock:=by rw[j];split<;>rfl
 have E:f.mode=t.mode:=by rw[j];split<;>rfl
 have fb:f.boards=t.boards:=by rw[j];split<;>rfl
 have fq:f.queues=t.queues:=by rw[j];split<;>rfl
 have V:∀ k,k<s.procs.length→k≠i→∃ m,Wk (s.procs.getD k default) (f.procs.getD k default) m∧(m=true→(s.procs.getD k default).status=3):=fun k o A=>by
  obtain⟨m,r,K⟩:=g.oth k (by rw[C];exact o) A;rw[gk k A] at r K;exact⟨m,by rw[fk k A];exact r,K⟩
 have am:c.pc≤((d.procs.getD i default).code.length:Int):=p.pc.2;have aj:(f.procs.getD i default).s.pc=(t.procs.getD i default).s.pc:=by rcases F with e|e<;>rw[e]<;>rfl
 have ae:(f.procs.getD i default).deadline=(t.procs.getD i default).deadline:=by rcases F with e|e<;>rw[e]<;>rfl
 refine⟨⟨ai,fun k o=>?_,by rw[fb];exact g.bv D,by rw[fq];exact W,P,?_⟩,V,?_,fl,?_,?_,?_,L⟩
 ·by_cases N:k=i
  ·subst N;rw[aj];rcases g.own with ⟨e,_⟩|e
   ·have e:(t.procs.getD k default).s.pc=(b.procs.getD k default).s.pc:=e;rw[e,v];exact am
   ·have e:t.procs.getD k default=EU:=e;rw[e];show(0:Int)≤_;omega
  ·obtain⟨m,r,_⟩:=V k (by omega) N;rw[r.pc];exact h.FB k (by omega)
 ·rw[E];have e:t.mode=b.mode:=g.md;rw[e,d1];exact h.md
 ·rw[ae];rcases g.own with ⟨_,e,_⟩|e
  ·rw[v] at e;exact e
  ·have e:t.procs.getD i default=EU:=e;rw[e];exact .inr rfl
 ·rw[fm];have:=g.mem;rw[R] at this;exact this
 ·rw[fc];exact(show t.clock=b.clock from g.clk).trans k1
 ·rw[E];exact(show t.mode=b.mode from g.md).trans d1
def PL(d:Ad)(s:Ae):∀ k:Nat,0≤(aQ k).foldl (CL d s) (-1)→(s.procs.getD ((aQ k).foldl (CL d s) (-1)).toNat default).status=2
 |0,h=>by
  have:(0:Int)≤ -1:=h;omega
 |k+1,h=>by
  have g:=PL d s k;rw[bQ,List.foldl_append] at h ⊢;generalize (aQ k).foldl (CL d s) (-1)=b at h g ⊢;have e:List.foldl (CL d s) b [k]=CL d s b k:=rfl;rw[e] at h ⊢;by_cases f:(s.procs.getD k default).status=2∧(b<0∨EL d s k b.toNat=true)
  ·have c:CL d s b k=(k:Int):=by unfold CL;rw[if_pos f]
   rw[c];exact f.1
  ·have c:CL d s b k=b:=by unfold CL;rw[if_neg f]
   rw[c] at h ⊢;exact g h
def Good.clk(h:Good d s){c:Int}(b:0≤c)(e:c≤1073741825):Good d {s with clock:=c}:=⟨h.ok.clk b e,h.FB,h.bv,h.qn,h.inv,h.md⟩
def Good.mode(h:Good d s){m:Int}(b:m=1∨m=2∨m=3∨m=4):Good d {s with mode:=m}:=⟨h.ok.mode m,h.FB,h.bv,h.qn,h.inv,b⟩
def Yx{k:Nat}{x:BA}(h:x.why≠14):Dg d now k x=x:=by
 unfold Dg;rw[if_neg (fun b=>h b.2.1)]
def Yy(k:Nat)(b:k<s.procs.length):(Dl d now s).procs.getD k default=Dg d now k (s.procs.getD k default):=by
 simp only[Dl,OH,b,dif_pos];rw[getD_eq b]
def WI(k:Nat)(b:k<s.procs.length):(CP now s).1.procs.getD k default=CK now (s.procs.getD k default):=by
 simp only[CP,getD_map',b,dif_pos];rw[getD_eq b]
def Qm:(Dl d now s).procs.length=s.procs.length:=by simp[Dl]
def WK:(CP now s).1.procs.length=s.procs.length:=by simp[CP]
def Good.release(h:Good d s)(f:0≤now)(g:now≤1073741824):Good d (Dl d now s):=by
 refine⟨h.ok.release f g,fun k j=>?_,h.bv,h.qn,fun kind k x c=>?_,h.md⟩
 ·rw[Qn];exact h.FB k (by rw[←Qm (d:=d) (now:=now)];exact j)
 ·have c:x∈AF s kind k:=c;have b:=h.inv kind k x c;have m:=h.inv.kinds c;have e:(Dl d now s).procs.getD x.proc.toNat default=s.procs.getD x.proc.toNat default:=by
   rw[Yy _ b.lt];refine Yx ?_;rw[b.2.2.1];omega
  unfold DP at b ⊢;rw[e];exact b
def MB(x:BA):(CK now x).status=x.status∧(CK now x).why=x.why∧(CK now x).on=x.on∧(CK now x).since=x.since∧(CK now x).s=x.s:=by
 unfold CK;split<;>exact⟨rfl,rfl,rfl,rfl,rfl⟩
def Good.late(h:Good d s):Good d (CP now s).1:=by
 refine⟨h.ok.late,fun k f=>?_,h.bv,h.qn,fun kind k x c=>?_,h.md⟩
 ·rw[Pf];exact h.FB k (by rw[←WK (now:=now)];exact f)
 ·have c:x∈AF s kind k:=c;have b:=h.inv kind k x c;have e:=WI (now:=now) _ b.lt;unfold DP at b ⊢;rw[e,(MB _).1,(MB _).2.1,(MB _).2.2.1];exact b
def Xf{p:Int}{kind:Int}{k:Nat}{x:Wt}(h:x∈AF (CX p s) kind k):x∈AF s kind k∧x.proc≠p:=by
 have b:∀ {α:Type} [Inhabited α] (f:α→α) (g:α→List Wt) (l:List α),(∀ y,g (f y)=leaveW (g y) p)→g default=[]→x∈g ((l.map f).getD k default)→x∈g (l.getD k default)∧x.proc≠p:=fun f g l u r c=>by
  rw[getD_map'] at c;split at c
  ·rename_i v;rw[u] at c;rw[getD_eq v];exact Xm.1 c
  ·rw[r] at c;cases c
 unfold AF at h ⊢;split at h
 ·rename_i e;rw[if_pos e];exact b (AO.leave p) (·.wait) s.queues (fun _=>rfl) rfl h
 ·rename_i m;rw[if_neg m];split at h
  ·rename_i e;rw[if_pos e];exact b (BU.leave p) (·.wait) s.semas (fun _=>rfl) rfl h
  ·rename_i n;rw[if_neg n];split at h
   ·rename_i e;rw[if_pos e];exact b (C3.leave p) (·.wait) s.events (fun _=>rfl) rfl h
   ·rename_i o;rw[if_neg o];split at h
    ·rename_i e;rw[if_pos e];exact b (AT.leave p) (·.put) s.bufs (fun _=>rfl) rfl h
    ·rename_i q;rw[if_neg q];split at h
     ·rename_i e;rw[if_pos e];exact b (AT.leave p) (·.get) s.bufs (fun _=>rfl) rfl h
     ·rename_i j;rw[if_neg j];split at h
      ·rename_i e;rw[if_pos e];exact b (BE.leave p) (·.wait) s.boards (fun _=>rfl) rfl h
      ·cases h
def Good.Ga(h:Good d s)(q:i<s.procs.length){y:BA}(n:D5 y)(g:y.s.pc=0):Good d {CX i s with procs:=(CX i s).procs.set i y}:=by
 refine⟨(h.ok.leave i).G4 i n,fun k m=>?_,fun x b=>?_,fun x b=>?_,fun kind k x b=>?_,h.md⟩
 ·show((s.procs.set i y).getD k default).s.pc≤_;rw[Cv];split
  ·rw[g];omega
  ·exact h.FB k (by simpa[CX] using m)
 ·have b:x∈s.boards.map (BE.leave i):=b;rw[a5] at b;obtain⟨z,f,rfl⟩:=b;exact h.bv z f
 ·have b:x∈s.queues.map (AO.leave i):=b;rw[a5] at b;obtain⟨z,f,rfl⟩:=b;exact h.qn z f
 ·obtain⟨j,o⟩:=Xf (s:=s) (p:=(i:Int)) (kind:=kind) (k:=k) (x:=x) b;have c:=h.inv kind k x j;have e:({CX i s with procs:=(CX i s).procs.set i y}:Ae).procs.getD x.proc.toNat default=s.procs.getD x.proc.toNat default:=by
   show(s.procs.set i y).getD _ _=_;rw[Cv,if_neg];rintro⟨e,_⟩;have:=c.1;omega
  unfold DP at c ⊢;rw[e];exact c
def Good.start(h:Good d s)(b:i<s.procs.length)(f:0≤t)(g:t≤1073741825):Good d (FD d i t s):=by
 have hid:i<d.procs.length:=by rw[←h.ok.procs];exact b
 have k:=h.ok.start hid f g;have j:i<(FD d i t s).procs.length:=by rw[Q5];exact b
 have c:=k.at_ j;have e:(FD d i t s).procs.getD i default=⟨2,⟨0,0,[0,0,0,0]⟩,t,afterI t (d.procs.getD i default).period,afterI t (d.procs.getD i default).Cf,0,0⟩:=by
  show((CX i s).procs.set i _).getD i default=_;rw[Cv,if_pos ⟨rfl,b⟩]
 rw[e] at c;exact h.Ga b c rfl
def Good.Jx(h:Good d s)(b:0≤t)(c:t≤1073741825):∀ k,k≤s.procs.length→Good d (FE d t k s)
 |0,_=>h
 |k+1,e=>(Good.Jx h b c k (by omega)).start (by rw[Lz];omega) b c
def Good.stop(h:Good d s)(b:i<s.procs.length):Good d (stopA i (CX i s)):=h.Ga b Ji rfl
def Good.Ob(h:Ik d){p q:Int}{v:List Int}(u:p=1∨p=2∨p=3∨p=4)(A:0≤q∧q≤1073741825)(r:(v.length:Int)=d.mem)(w:Bf v):Good d (Ez d p q v):=by
 have e:∀ {α:Type} {n:Nat} {x z:α},z∈aK n x→z=x:=fun f=>(cT.1 f).2;refine⟨⟨h,aT,aT,aT,cn _,?_,cn _,?_,r,w,fun x b=>?_,fun x b=>?_,fun x b=>?_,fun x b=>?_,fun x b=>?_,fun x b=>?_,fun x b=>?_,A⟩,fun k o=>?_,fun x b=>?_,fun x b=>?_,fun kind k x b=>?_,u⟩
 ·show((aK d.boards.toNat _).length:Int)=_;rw[aT];have:=h.boards;omega
 ·show((aK d.events.toNat _).length:Int)=_;rw[aT];have:=h.events;omega
 ·rw[e b];exact Ji
 ·rw[e b];exact⟨by simp,(fun z f=>by cases f),by decide⟩
 ·rw[e b];exact⟨by simp,(fun z f=>by cases f),.nil _⟩
 ·have b:x∈d.bufs.map fun n=>(⟨n,[],[],[]⟩:AT):=b;rw[a5] at b;obtain⟨z,_,rfl⟩:=b;exact⟨by simp,(fun z f=>by cases f),.nil _,.nil _,fun z f=>by cases f⟩
 ·rw[e b];exact .nil _
 ·have b:x∈d.semas.map fun n=>(⟨n,[]⟩:BU):=b;rw[a5] at b;obtain⟨z,_,rfl⟩:=b;exact .nil _
 ·rw[e b];exact .nil _
 ·have o:k<(aK d.procs.length EU).length:=o;show((aK d.procs.length EU).getD k default).s.pc≤_;rw[e (getD_mem o)];show(0:Int)≤_;omega
 ·rw[e b];exact(show(0:Int)≤0∧(0:Int)≤255 by decide)
 ·rw[e b];intro m u;cases u
 ·exfalso;have j:∀ {α:Type} [Inhabited α] (g:α→List Wt) (l:List α),(∀ y∈l,g y=[])→g default=[]→x∉g (l.getD k default):=fun g l r B b=>by
   by_cases o:k<l.length
   ·rw[r _ (getD_mem o)] at b;cases b
   ·rw[cs,cI (by omega)] at b;have b:x∈g default:=b;rw[B] at b;cases b
  unfold AF at b;split at b
  ·exact j AO.wait (aK d.Ab.length ⟨[],[],0⟩) (fun y c=>by rw[e c]) rfl b
  split at b
  ·refine j (·.wait) (d.semas.map fun n=>(⟨n,[]⟩:BU)) (fun y c=>?_) rfl b;rw[a5] at c;obtain⟨z,_,rfl⟩:=c;rfl
  split at b
  ·exact j C3.wait (aK d.events.toNat ⟨false,[]⟩) (fun y c=>by rw[e c]) rfl b
  split at b
  ·refine j (·.put) (d.bufs.map fun n=>(⟨n,[],[],[]⟩:AT)) (fun y c=>?_) rfl b;rw[a5] at c;obtain⟨z,_,rfl⟩:=c;rfl
  split at b
  ·refine j (·.get) (d.bufs.map fun n=>(⟨n,[],[],[]⟩:AT)) (fun y c=>?_) rfl b;rw[a5] at c;obtain⟨z,_,rfl⟩:=c;rfl
  split at b
  ·exact j BE.wait (aK d.boards.toNat ⟨false,0,[]⟩) (fun y c=>by rw[e c]) rfl b
  ·cases b
def P7(n:Nat):Bf (aK n 0):=fun z b=>by
 rw[(cT.1 b).2];decide
def Good.LX(h:Good d s){m:Int}(b:m=1∨m=2∨m=3∨m=4):Good d (Hm d m s):=by
 rw[RF];exact Good.Ob h.ok.ok b h.ok.clock h.ok.mem h.ok.I0
def UK(h:Ik d):Good d (DB d):=by
 show Good d (Ez d 1 0 _);refine Good.Ob h (.inl rfl) (by decide) ?_ (P7 _);rw[aT];have:=h.mem;omega
def Jr(d:Ad)(now:Int)(s:Ae):Ae:=(CP now (Dl d now {s with clock:=now+1})).1
def Good.r3(h:Good d s)(b:0≤now)(c:now≤1073741824):Good d (Jr d now s):=((h.clk (by omega) (by omega)).release b c).late
def Good.tick(k:JF d)(h:Good d s):Good d (A3 d now s).1:=by
 unfold A3;split
 ·exact h
 ·rename_i p;have o:=h.ok.clock;have b:0≤now:=by omega
  have f:now≤1073741824:=by omega
  split
  ·exact h.clk (by omega) (by omega)
  ·split
   ·exact((h.clk (c:=now+1) (by omega) (by omega)).mode (m:=3) (by omega)).Jx b (by omega) _ (aG _)
   ·have g:=h.r3 b f;simp only[];split
    ·exact g
    ·rename_i e;have n:=PK d (Jr d now s);have e:0≤Hw d (Jr d now s):=Int.not_lt.1 e;have j:=PL d (Jr d now s) (Jr d now s).procs.length e;exact(YH k g (i:=(Hw d (Jr d now s)).toNat) (by omega) j b f).good
def Good.queue(h:Good d s){k:Nat}(c:k<s.queues.length){x:AO}(g:FK d.procs.length x)(e:∀ m∈x.q,m≠ [])(f:∀ y∈x.wait,y∈(s.queues.getD k default).wait):Good d {s with queues:=s.queues.set k x}:=
 ⟨h.ok.Ko k g,h.FB,h.bv,mem_set (P:=fun x:AO=>∀ m∈x.q,m≠ []) h.qn _ e,fun kind j y n=>by
  rcases La c x kind j y n with ⟨_,b⟩|⟨rfl,rfl,b⟩
  ·exact h.inv kind j y b
  ·exact h.inv 3 j y (f y b),h.md⟩
def Good.S5(b:JF d)(h:Good d s){ag:Int}(K:Bf data):Good d (Dc d now ag data s).1:=by
 unfold Dc;split
 ·exact h
 ·rename_i p hp;obtain⟨k,B,rfl,rfl,ho⟩:=Lj hp;have al:=b.ps _ (cY B);split
  ·exact h
  ·rename_i o;split
   ·exact h
   ·rename_i hl;have hc:=h.ok.clock;have F:0≤now:=by omega
    have h1:now≤1073741824:=by omega
    have H:data.length≤64∧Bf data:=⟨by omega,K⟩;have W:data≠ []:=fun e=>o (.inr (.inr e));have f:=h.clk (c:=now) F (by omega);simp only[c0];split
    ·have S:k<s.samples.length:=by rw[h.ok.samples];exact B
     exact⟨f.ok.Nj k (okSa_write (h.ok.sa _ (getD_mem S)) H),f.FB,f.bv,f.qn,f.inv,f.md⟩
    ·have u:k<s.queues.length:=by rw[h.ok.queues];exact B
     have L:=h.ok.qu _ (getD_mem (d:=default) u);obtain⟨o1,o2⟩:=L.Ng (k:=d.Ab[k].kind) (s:=d.Ab[k].size) (d:=d.Ab[k].depth) (r:=d.Ab[k].At) H;have V:∀ x,x∈(s.queues.getD k default).wait→x∈AF s 3 k:=fun x b=>b
     obtain⟨s0,v⟩:=ex ({s with clock:=now,queues:=s.queues.set k ⟨(sendQ d.Ab[k].kind d.Ab[k].size d.Ab[k].depth d.Ab[k].At (s.queues.getD k default).q (s.queues.getD k default).wait (s.queues.getD k default).lost data).1,(sendQ d.Ab[k].kind d.Ab[k].size d.Ab[k].depth d.Ab[k].At (s.queues.getD k default).q (s.queues.getD k default).wait (s.queues.getD k default).lost data).2.1,(sendQ d.Ab[k].kind d.Ab[k].size d.Ab[k].depth d.Ab[k].At (s.queues.getD k default).q (s.queues.getD k default).wait (s.queues.getD k default).lost data).2.2.1⟩}:Ae);have g0:Good d s0:=by
      rw[v];exact Good.queue (s:={s with clock:=now}) f u o1 (fun m n=>by
       rcases Nh n with n|n
       ·exact h.qn _ (getD_mem u) m n
       ·rw[n];exact W) (fun y C=>Qr C)
     show Good d (wakeP d now data [(sendQ d.Ab[k].kind d.Ab[k].size d.Ab[k].depth d.Ab[k].At (s.queues.getD k default).q (s.queues.getD k default).wait (s.queues.getD k default).lost data).2.2.2.1] _);have ac:s0.procs=s.procs:=by rw[v]
     have e:∀ l,wakeP d now data l ({s with clock:=now,queues:=s.queues.set k ⟨(sendQ d.Ab[k].kind d.Ab[k].size d.Ab[k].depth d.Ab[k].At (s.queues.getD k default).q (s.queues.getD k default).wait (s.queues.getD k default).lost data).1,(sendQ d.Ab[k].kind d.Ab[k].size d.Ab[k].depth d.Ab[k].At (s.queues.getD k default).q (s.queues.getD k default).wait (s.queues.getD k default).lost data).2.1,(sendQ d.Ab[k].kind d.Ab[k].size d.Ab[k].depth d.Ab[k].At (s.queues.getD k default).q (s.queues.getD k default).wait (s.queues.getD k default).lost data).2.2.1⟩}:Ae)=wakeP d now data l s0:=fun l=>by rw[v]
     rw[e];have X:∀ kind j x,x∈AF s0 kind j→DP s0 x.proc kind j∧x.proc∉ [(sendQ d.Ab[k].kind d.Ab[k].size d.Ab[k].depth d.Ab[k].At (s.queues.getD k default).q (s.queues.getD k default).wait (s.queues.getD k default).lost data).2.2.2.1]:=fun kind j x b=>by
      refine⟨g0.inv kind j x b,?_⟩;simp only[aR];intro e;have ad:=g0.inv kind j x b;obtain⟨y,t,D,Q,E⟩:=YK (by rw[←e];exact ad.1);have C:=h.inv 3 k y (V y (by rw[D];simp));rw[v] at b;rcases La (s:={s with clock:=now}) u _ kind j x b with ⟨R,g⟩|⟨rfl,rfl,g⟩
      ·have M:=h.inv kind j x g;rw[e,E] at M;have:=M.uniq C;exact R ⟨this.1,by omega⟩
      ·have g:x∈_:=g;simp only[Q] at g;have o:=L.wait.1;rw[D] at o;simp only[bN,List.nodup_cons,a5,not_exists,not_and] at o;exact o.1 x g (by rw[e,E])
     have aa:=J5 (now:=now) g0.ok (l:=[(sendQ d.Ab[k].kind d.Ab[k].size d.Ab[k].depth d.Ab[k].At (s.queues.getD k default).q (s.queues.getD k default).wait (s.queues.getD k default).lost data).2.2.2.1]) K F (by omega) (fun z N=>by
      simp only[aR] at N;rw[N,ac,h.ok.procs];exact o2)
     obtain⟨P,w⟩:=Kx (d:=d) (t:=now) (data:=data) [(sendQ d.Ab[k].kind d.Ab[k].size d.Ab[k].depth d.Ab[k].At (s.queues.getD k default).q (s.queues.getD k default).wait (s.queues.getD k default).lost data).2.2.2.1] s0;refine⟨aa,fun j A=>?_,?_,?_,Inv.IF _ X,?_⟩
     ·rw[N3] at A;rw[(Kw (d:=d) (t:=now) (data:=data) _ s0 j A).pc];exact g0.FB j A
     ·rw[w];exact g0.bv
     ·rw[w];exact g0.qn
     ·rw[w];exact g0.md
def Good.collect(h:Good d s){r:Int}:Good d (ET d r s).1:=by
 unfold ET;split
 ·exact h
 ·rename_i p n;obtain⟨k,f,rfl,rfl,u⟩:=Lj n;simp only[c0];have e:k<s.queues.length:=by rw[h.ok.queues];exact f
  have j:=h.ok.qu _ (getD_mem (d:=default) e);have b:=h.queue e (x:={s.queues.getD k default with q:=[]}) ⟨by simp,(fun z c=>by cases c),j.wait⟩ (fun m g=>by cases g) (fun y o=>o);exact⟨b.ok.Nj k ⟨by simp,(fun z c=>by cases c),by decide⟩,b.FB,b.bv,b.qn,b.inv,b.md⟩
def Good.S8(h:Good d s)(k p:Int):Good d (Br d k p s).1:=by
 unfold Br;split
 ·exact h
 ·rename_i g;split
  ·exact h
  ·split
   ·rename_i e;have b:0≤p∧p≤(s.procs.length:Int)-1:=by omega
    obtain⟨i,rfl⟩:=cF b.1;exact h.stop (i:=i) (by omega)
   ·split
    ·rename_i e;have b:0≤p∧p≤(s.procs.length:Int)-1:=by omega
     obtain⟨i,rfl⟩:=cF b.1;have c:=h.ok.clock;exact h.start (i:=i) (by omega) c.1 c.2
    ·split
     ·exact h.LX (by omega)
     ·split
      ·have f:Good d {s with mem:=aK s.mem.length 0}:=⟨{h.ok with mem:=(by simpa using h.ok.mem),I0:=P7 _},h.FB,h.bv,h.qn,h.inv,h.md⟩;exact f.LX (by omega)
      ·split
       ·exact h.LX (by omega)
       ·exact h
end
end Go.Proofs.YtiepijihpgijbaaGreatDoor
