import Derived.Test.YtiepijihpgijbaaGreatDoorQ0
set_option maxHeartbeats 2000000
set_option maxRecDepth 100000
set_option linter.all false
open Go.Value renaming int→I,slice→Y,pointer→G
open Go.IntKind renaming i64→J,u8→U
open Option renaming some→Z,none→O
open Go.Obj renaming cells→T
open Go renaming World→aB,Value→aI,bodyPost_ret→a6,cell_of_row→a7,heap_setCell_same→ba,heap_alloc_new→be,results→bg,Calls→bh,TypeId→bl,IntKind→bt,Ending→bE,wpList_append_own→bF,info_parts→bL,wp_region_quiet_lit→bV
open Nat renaming le_refl→a1,zero_le→bi,lt_of_lt_of_le→bx,le_trans→bA,add_zero→bM,ne_of_lt→bY
open Option.some renaming injEq→a2
open Go.RowKit.Below renaming refl→a5,heap_setCell→a8,heap_alloc→bR
open Go.Value.slice renaming injEq→a9
open Array renaming getElem?_eq_some_iff→bb
open List renaming take_succ_eq_append_getElem→bc,length_append→bd,getElem?_eq_getElem→bf,getElem?_eq_some_iff→bn,getElem?_append_left→bo,length_take→bq,length_cons→br,getElem?_toArray→bs,filter_append→bw,take_append_of_le_length→bC,eq_nil_of_length_eq_zero→bD,getElem?_append_right→bJ,take_of_length_le→bK,take_append_drop→bN,filter_eq_self→bO,any_eq_false→bP,getElem_mem→bT,map_append→bU,drop_drop→bW,mem_map→bX
open Go.World renaming setCell→bj,block_lt_of_cell?→bk,ownsRow_nil→bm,frozen?→bp
open Go.Builtin renaming zeroCells→bu,clear_→bQ
open Go.Value renaming int→bz,cells→bB,ownBlock→bH
open Go.World.ownsRow renaming kept→bG
open Go.RowKit renaming Below→bI,ownsRow_setCell_below→bS
namespace Go.Proofs.YtiepijihpgijbaaGreatDoor
open Go.RowKit Tryz
def K7(g:Nat)(a:Array aI)(p:Wt→Bool)(B:Nat)(w:aB):Prop:=
 ∀ (W:aB) (x:Wt),bI B w W→bh prog g (#[.agg #[I J x.proc,I J x.prio,I U x.val]]++a) W fun e w'=>e=.returned (.bool (p x))∧Bl W w'
def K7.PS{g:Nat}{b:Array aI}{p:Wt→Bool}{B:Nat}{w:aB}(h:K7 g b p B w)(c:B≤w.heap.size):IJ g b p w:=fun W x a=>
 (h W x (a.mono c)).mono fun _ _ ⟨e,d⟩=>⟨e,a.trans (d.mono a.size)⟩
def RW(R:List Wt)(S:List aI)(i:Nat)(x:Wt)(a:i<R.length):
  ((((cellsW R++S).toArray.setIfInBounds (i*3) (I J x.proc)).setIfInBounds (i*3+1) (I J x.prio)).setIfInBounds (i*3+2) (I U x.val))=(cellsW (R.set i x)++S).toArray:=by
 have b:R=R.take i++R[i]::R.drop (i+1):=by rw[←List.drop_eq_getElem_cons a,bN]
 have c:R.set i x=R.take i++x::R.drop (i+1):=by
  rw[List.set_eq_take_append_cons_drop,if_pos a]
 have d:(cellsW (R.take i)).length=i*3:=by rw[DI,bq];omega
 rw[c]
 conv=>lhs;rw[b]
 rw[JQ,Gi,JQ,Gi];generalize cellsW (R.take i)=A at*;generalize cellsW (R.drop (i+1))=D;simp only[List.setIfInBounds_toArray,Bv]
 congr 1
 rw[←d];simp
def YB(w:aB)(p:bl)(g o n c:Nat)(cur:List aI)(h:w.heap[g]? =Z (T cur.toArray 161 (0,0)))(q:0<n)(f:o+n*3≤cur.length):
  ∃ a:List aI,a.length=n*3∧(bQ #[93] p #[Y (Z ⟨g,o,O⟩) n c]).run prog w=.ok (.tuple #[]) (w.setRow g (splice cur o a).toArray):=by
 obtain⟨t,i,l,r,s⟩:=bL Ix;refine⟨(bu (bB (.agg #[I J 0,I J 0,I U 0])) n).toList,L9 n,?_⟩;have k:=L9 n;have e:∀ v∈(bu (bB (.agg #[I J 0,I J 0,I U 0])) n).toList,v.oneCell'=true:=by
  intro v d;simp only[bu,Array.toList_map,bX] at d;obtain⟨j,_,rfl⟩:=d;have:j%(bB (.agg #[I J 0,I J 0,I U 0])).size<3:=Nat.mod_lt _ (by decide);generalize j%(bB (.agg #[I J 0,I J 0,I U 0])).size=m at this
  match m,this with
  |0,_=>rfl
  |1,_=>rfl
  |2,_=>rfl
 have b:=run_storeCells_at prog g o 161 _ 0 cur.toArray w h (by rw[k];simpa using f) e;cases n with
 |zero=>omega
 |succ n=>
  simp only[bM] at b;simp[bQ,run_underlying underlying93,zeroValue,typeInfo,i,l,b,splice]
def QW(B b cap a:Nat)(m:List Wt)(w:aB)(e:bE)(w':aB):Prop:=
 ∃ R:List aI,e=.returned (Y (Z ⟨b,0,O⟩) m.length cap)∧w'.heap[b]? =Z (T R.toArray 161 (0,0))∧R.length=a∧R.take (m.length*3)=cellsW m∧bI B w w'
def S3(g lb)(p:Wt→Bool)(eg:∀ args w,(callFunc g args).run prog w=.ok (.enter g args) w)(b cap B:Nat)(l:List Wt)(S:List aI)(w:aB)
  (N:w.heap[b]? =Z (T (cellsW l++S).toArray 161 (0,0))) (L:B≤b) (F:B≤w.heap.size) (aL:l.length≤cap) (hl:l.length≤100000) (hp:K7 g lb p B w) (al:l.any p=true):
  bh prog 111 #[Y (Z ⟨b,0,O⟩) l.length cap,.func (.func g) #[] lb] w fun e w'=>
   QW B b cap (cellsW l++S).length (l.filter (fun x=>!p x)) w e w':=by
 have ao:b<w.heap.size:=(bb.1 N).1;have az:Al w 0 (Y (Z ⟨b,0,O⟩) l.length cap) l:=by
  refine⟨_,cap,rfl,aL,(by intro h;cases h),DI l,fun _=>⟨b,0,rfl,bi _,ao,fun j u P=>?_⟩⟩;rw[a7 w b _ _ _ _ N];have C:=(bn.1 P).1;simp only[Nat.zero_add,bs];rw[bo C];exact P
 have ac:=HH (KV _ l g lb p eg w az (by omega) (hp.PS F));obtain⟨k,hk,af,ab⟩:∃ k,∃ hk:k<l.length,p l[k]=true∧∀ j (_:j<k) (av:j<l.length),p l[j]=false:=by
  refine⟨l.findIdx p,?_,?_,?_⟩
  ·rw[List.findIdx_lt_length];simpa using al
  ·exact List.findIdx_getElem
  ·intro j C av;simpa using List.not_of_lt_findIdx C
 have hf:DL p l=(k:Int):=JY p l k hk af ab;rw[hf] at ac;clear hf al az;obtain⟨HP,HG⟩:=H2 hp N;have HK:Hq (p l[k]=true∧∀ j (_:j<k) (av:j<l.length),p l[j]=false):=⟨af,ab⟩;clear hp N af ab;have a0:((k:Int)==-1)=false:=by simp
 go_enter func111,ntmps111;go_wp2_with fail;refine ac.o.mono ?_;rintro e w1 ⟨rfl,am⟩;have ah:=HH am;clear am ac;go_wp2_with fail
 go_loopg [5,6,7] l.length (fun gg s5 s6 _ wr=>∃ (i j:Nat) (R:List Wt),s5=I J i∧s6=I J j∧j≤l.length∧i<j∧l.length-j≤gg∧
  Hq (wr.heap[b]? =Z (T (cellsW R++S).toArray 161 (0,0))∧R.length=l.length∧R.take i=(l.take j).filter (fun x=>!p x)∧R.drop j=l.drop j∧bI B w wr))
 case atStart=>
  refine⟨k,k+1,l,rfl,by go_num,by omega,by omega,by omega,(ah.o.block b ao).trans HG.o,rfl,?_,rfl,ah.o.mono F⟩;rw[bc hk,bw];have h0:[l[k]].filter (fun x=>!p x)=[]:=by simp[HK.o.1]
  rw[h0,List.append_nil,eq_comm,bO];intro a ha;obtain⟨j,C,rfl⟩:=List.getElem_of_mem ha;rw[List.getElem_take];simp only[bq] at C;simp[HK.o.2 j (by omega) (by omega)]
 case round=>
  obtain⟨i,j,R,rfl,rfl,C,aX,aW,A⟩:=hrel;obtain⟨n,r,f,z,d⟩:=A.o;have an:b<wr.heap.size:=(bb.1 n).1;by_cases ax:j<l.length
  ·have aM:(j:Int)<(l.length:Int):=by omega
   have au:R[j]'(by omega)=l[j]:=by
    have:=congrArg (fun t=>t[0]?) z;simp only[List.getElem?_drop,bM] at this;rw[bf (by omega),bf ax] at this;exact Option.some.inj this
   have M:∀ m u,m<3→(Bv l[j])[m]? =Z u→wr.cell? ⟨b,j*3+m,O⟩=Z u:=fun m u hm P=>by
    rw[a7 wr b _ _ _ _ n];simp only[bs];rw[bo (by rw[DI];omega),KD R j m (by omega) hm,au];exact P
   have c0:wr.cell? ⟨b,j*3,O⟩=Z (I J l[j].proc):=M 0 _ (by omega) rfl;have c1:wr.cell? ⟨b,j*3+1,O⟩=Z (I J l[j].prio):=M 1 _ (by omega) rfl;have c2:wr.cell? ⟨b,j*3+2,O⟩=Z (I U l[j].val):=M 2 _ (by omega) rfl;have s:=HP.o (wr.alloc (T #[I J l[j].proc,I J l[j].prio,I U l[j].val] 161)) l[j] (d.alloc (bA F d.size) _);have E:Hq (wr.heap[b]? =Z (T (cellsW R++S).toArray 161 (0,0))∧R.length=l.length∧R.take i=(l.take j).filter (fun x=>!p x)∧R.drop j=l.drop j∧bI B w wr):=⟨n,r,f,z,d⟩;clear M n r f z d au A;have ag:Hq (l.take (j+1)=l.take j++ [l[j]]):=bc ax;have ap:Hq (R.drop (j+1)=l.drop (j+1)):=by
    have:=congrArg (fun t=>t.drop 1) E.o.2.2.2.1;rw[bW,bW] at this;exact this
   generalize l[j]=y at c0 c1 c2 s ag;cases D:p y with
   |true=>
    rw[D] at s;obtain⟨W,X⟩:=H2 s D;clear s D;go_wp2_with (refine W.o.mono ?_;rintro e c ⟨rfl,q⟩;have V:=HH q;clear q)
    go_roundg (l.length-(j+1))
    case measure=>omega
    case rel=>
     obtain⟨n,r,f,z,d⟩:=E.o;have K:Bl wr c:=((a5 _ wr).alloc (a1 _) _).trans (V.o.mono (by simp));refine⟨i,j+1,R,rfl,by go_num,by omega,by omega,by omega,(K.block b an).trans n,r,?_,ap.o,d.trans (K.mono (bA F d.size))⟩;rw[ag.o,bw,f];simp[X.o]
   |false=>
    rw[D] at s;obtain⟨W,X⟩:=H2 s D;clear s D;have ar:i<R.length:=by have:=E.o.2.1;omega
    have aZ:(i:Int)<(l.length:Int):=by omega
    have aN:Hq (∀ c,bI (wr.alloc (T #[I J y.proc,I J y.prio,I U y.val] 161)).heap.size (wr.alloc (T #[I J y.proc,I J y.prio,I U y.val] 161)) c→
      c.heap[wr.heap.size]? =Z (T #[I J y.proc,I J y.prio,I U y.val] 161 (0,0))∧c.heap[b]? =Z (T (cellsW R++S).toArray 161 (0,0))∧
      ∀ m,m<3→(∃ u,c.cell? ⟨b,i*3+m,O⟩=Z u)∧c.frozen? ⟨b,i*3+m,O⟩=false):=fun c q=>by
     have h1:=(q.block wr.heap.size (by simp)).trans (be wr _);have h2:=(q.block b (by simp;omega)).trans ((bR wr _ b an).trans E.o.1);refine⟨h1,h2,fun m hm=>⟨?_,?_⟩⟩
     ·rw[a7 c b _ _ _ _ h2];have:i*3+m<(cellsW R++S).length:=by rw[bd,DI];omega
      exact⟨_,by rw[bs,bf this]⟩
     ·simp[bp,h2]
    go_wp2_with (refine W.o.mono ?_;rintro e c ⟨rfl,q⟩;obtain⟨Q,q2,q3⟩:=aN.o c q;have e0:c.cell? ⟨wr.heap.size,0,O⟩=Z (I J y.proc):=(by rw[a7 c _ _ _ _ _ Q];rfl);have e1:c.cell? ⟨wr.heap.size,1,O⟩=Z (I J y.prio):=(by rw[a7 c _ _ _ _ _ Q];rfl);have e2:c.cell? ⟨wr.heap.size,2,O⟩=Z (I U y.val):=(by rw[a7 c _ _ _ _ _ Q];rfl);obtain⟨⟨u0,f0⟩,g0⟩:=q3 0 (by omega);obtain⟨⟨u1,f1⟩,g1⟩:=q3 1 (by omega);obtain⟨⟨u2,f2⟩,g2⟩:=q3 2 (by omega);rw[bM] at f0 g0;have V:=HH q;have aC:=HH q2;clear q Q q2 q3)
    go_roundg (l.length-(j+1))
    case measure=>omega
    case rel=>
     obtain⟨n,r,f,z,d⟩:=E.o;have K:Bl wr c:=((a5 _ wr).alloc (a1 _) _).trans (V.o.mono (by simp));have aJ:bI B w c:=d.trans (K.mono (bA F d.size));refine⟨i+1,j+1,R.set i y,by go_num,by go_num,by omega,by omega,by omega,?_,by simpa using r,?_,?_,?_⟩
     ·rw[←RW R S i y ar];exact ba _ _ _ _ _ _ (ba _ _ _ _ _ _ (ba _ _ _ _ _ _ aC.o))
     ·rw[ag.o,bw,←f];have:[y].filter (fun x=>!p x)=[y]:=by simp[X.o]
      rw[this,bc (by simpa using ar),List.getElem_set_self,List.take_set_of_le (a1 _)]
     ·rw[List.drop_set_of_lt (by omega)];exact ap.o
     ·exact((aJ.setCell (p:=⟨b,_,O⟩) L _).setCell (p:=⟨b,_,O⟩) L _).setCell (p:=⟨b,_,O⟩) L _
  ·have aM:¬(j:Int)<(l.length:Int):=by omega
   obtain rfl:j=l.length:=by omega
   rw[List.take_length] at f;have aY:i≤l.length:=by omega
   have aU:¬(cap=i):=by omega
   obtain⟨v,ak,aV⟩:=YB wr 0 b (i*3) (l.length-i) (cap-i) (cellsW R++S) n (by omega) (by rw[bd,DI];omega);have aw:i=(l.filter (fun x=>!p x)).length:=by
    have:=congrArg List.length f;rw[bq] at this;omega
   have H:Hq ((wr.setRow b (splice (cellsW R++S) (i*3) v).toArray).heap[b]? =Z (T (splice (cellsW R++S) (i*3) v).toArray 161 (0,0))∧(splice (cellsW R++S) (i*3) v).length=(cellsW l++S).length∧
     (splice (cellsW R++S) (i*3) v).take (i*3)=cellsW (l.filter (fun x=>!p x))∧bI B w (wr.setRow b (splice (cellsW R++S) (i*3) v).toArray)):=by
    refine⟨setRow_heap wr b _ _ _ _ n,?_,?_,below_setRow d L _⟩
    ·rw[length_splice _ _ _ (by rw[ak,bd,DI];omega),bd,bd,DI,DI,r]
    ·rw[←f,←Og];unfold splice;have e1:((cellsW R++S).take (i*3)).length=i*3:=by rw[bq,bd,DI];omega
     rw[bC (by omega),List.take_take,Nat.min_self,bC (by rw[DI];omega)]
   have HL:=HH aw;clear aw f z n r d ak A;go_wp2;go_ret;refine⟨splice (cellsW R++S) (i*3) v,?_,H.o.1,H.o.2.1.trans bd,?_,H.o.2.2.2⟩
   ·rw[←HL.o];rfl
   ·rw[←HL.o];exact H.o.2.2.1
def S4(g lb)(p:Wt→Bool)(k:∀ args w,(callFunc g args).run prog w=.ok (.enter g args) w)(v:aI)(l:List Wt)(w:aB)(h:Al w 0 v l)(n:l.length≤100000)(f:IJ g lb p w)(a:l.any p=false):
  bh prog 111 #[v,.func (.func g) #[] lb] w fun e w'=>e=.returned v∧Bl w w':=by
 have b:=HH (KV v l g lb p k w h (by omega) f);have d:DL p l=-1:=JZ p l (fun j m=>by rw[bP] at a;simpa using a l[j] (bT m));rw[d] at b;clear d h f a;go_enter func111,ntmps111;go_wp2_with fail;refine b.o.mono ?_;rintro e q ⟨rfl,c⟩;have i:=HH c;clear c b;go_wp2_with fail;go_ret;exact⟨rfl,i.o⟩
def leaveW(l:List Wt)(a:Int):List Wt:=l.filter fun x=>!decide (x.proc=a)
def WQ(x:Wt)(g:Nat)(q:Int)(B:Nat)(w W:aB)(b:w.cell? ⟨g,0,O⟩=Z (I J q))(d:g<B)(a:bI B w W):
  bh prog 113 #[.agg #[I J x.proc,I J x.prio,I U x.val],G (Z ⟨g,0,O⟩)] W fun e w'=>e=.returned (.bool (decide (x.proc=q)))∧Bl W w':=by
 have c:W.cell? ⟨g,0,O⟩=Z (I J q):=(a.cell (p:=⟨g,0,O⟩) d).trans b;have f:g<W.heap.size:=bk _ _ c;clear a b;go_enter func113,ntmps113;go_wp2;go_ret;exact⟨A8 (by by_cases h:x.proc=q<;>simp[h]),(a5 _ W).alloc (a1 _) _⟩
def WR(v:aI)(l:List Wt)(q:Int)(w:aB)(h:Al w 0 v l)(F:l.length≤100000):
  bh prog 69 #[v,I J q] w fun e w'=>II w (leaveW l q) e w':=by
 obtain⟨b,m⟩:=ex (w.alloc (T #[I J q] 3));have hz:b.heap.size=w.heap.size+1:=by subst m;simp
 have z:b.heap[w.heap.size]? =Z (T #[I J q] 3 (0,0)):=by subst m;exact be w _
 have r:Bl w b:=by subst m;exact(a5 _ _).alloc (a1 _) _
 have A:b.cell? ⟨w.heap.size,0,O⟩=Z (I J q):=by rw[a7 b _ _ _ _ _ z];rfl
 have y:Al b 0 v l:=h.below r;have B:=HH (GK v l b y (by omega))
 -- the call of DeleteFunc,in whatever world the clone has left
 have D:Hq (∀ c f,c.ownsRow b.heap.size 161 3 f l.length (cellsW l)→Bl b c→
   bh prog 111 #[f,.func (.func 113) #[] #[G (Z ⟨w.heap.size,0,O⟩)]] c fun e w'=>II w (leaveW l q) e w'):=by
  intro c f j i;have ab:c.cell? ⟨w.heap.size,0,O⟩=Z (I J q):=(i.cell (p:=⟨w.heap.size,0,O⟩) (show w.heap.size<b.heap.size by omega)).trans A;have L:K7 113 #[G (Z ⟨w.heap.size,0,O⟩)] (fun x=>decide (x.proc=q)) b.heap.size c:=fun W x V=>WQ x w.heap.size q b.heap.size c W ab (by omega) V;have u:=Gn func113 (by kernel_rfl) rfl;have s:Bl w c:=r.trans (i.mono (by omega));cases n:l.any (fun x=>decide (x.proc=q)) with
  |false=>
   refine(S4 _ _ _ u f l c (Sl.mono (Sl.Bw j) (bi _)) F (L.PS i.size) n).mono ?_;rintro e w' ⟨rfl,d⟩;have ag:leaveW l q=l:=by
    rw[leaveW,bO];intro a X;rw[bP] at n;simpa using n a X
   rw[ag];refine⟨f,rfl,Cx (j.kept (row:=O) ⟨d.os,d.tape,d.output,d.size,fun k hk _=>d.block k hk⟩ ?_) (by omega),s.trans (d.mono s.size)⟩;cases f.ownBlock<;>simp
  |true=>
   rcases j.2 with ⟨rfl,ah⟩|⟨g,cap,cur,rfl,aa,E,H,ac,ad,ai⟩
   ·have:l=[]:=bD ah;subst this;simp at n
   ·have C:cur=(cellsW l++cur.toList.drop (l.length*3)).toArray:=by
     rw[←ai,bN]
    rw[C] at E;refine(S3 _ _ _ u g cap b.heap.size l (cur.toList.drop (l.length*3)) c E aa i.size H F L n).mono ?_;rintro e w' ⟨R,rfl,ae,Q,S,d⟩;refine⟨_,rfl,⟨by rw[DI],.inr ⟨g,cap,R.toArray,rfl,by omega,ae,?_,ac,?_,S⟩⟩,s.trans (d.mono (by omega))⟩
    ·exact bA (List.length_filter_le _ _) H
    ·rw[List.size_toArray,Q,←ad]
     conv=>rhs;rw[C]
     simp
 have t:=HH m;clear m h y r z A hz;go_enter func69,ntmps69;go_wp2_with fail;rw[←t.o];refine B.o.mono ?_;rintro e c ⟨f,rfl,j,i⟩;have N:=HH (D.o c f j i);clear j i D B t;go_wp2_with fail;refine N.o.mono ?_;rintro e w2 ⟨v2,rfl,K,d⟩;obtain⟨P,M⟩:=H2 K d;clear K d;go_wp2_with fail;go_ret;exact⟨_,rfl,P.o,M.o⟩
def Aq(w:aB)(B:Nat)(v:aI)(l:List Wt):Prop:=
 Al w B v l∧∀ a n c,v=Y (Z a) n c→0<n→∀ j,w.frozen? ⟨a.block,j,O⟩=false
section
variable {w w':aB} {B B':Nat} {v:aI} {l:List Wt}
def Aq.below(h:Aq w B v l)(e:Bl w w'):Aq w' B v l:=by
 refine⟨h.1.below e,fun a n c o k j=>?_⟩;obtain⟨q,cap,f,_,_,_,m⟩:=h.1;subst o;simp only[a9] at f;obtain⟨d,r,_⟩:=f;obtain⟨b,s,g,_,i,_⟩:=m (by omega);rw[g] at d;simp only[a2] at d;subst d;rw[e.frozen (p:=⟨b,j,O⟩) i];exact h.2 _ n c rfl k j
def Aq.mono(h:Aq w B v l)(a:B'≤B):Aq w B' v l:=⟨h.1.mono a,h.2⟩
def Aq.rd(h:Aq w B v l):Al w 0 v l:=h.1.mono (bi _)
def Aq.drew(h:Aq w B v l):Aq w.drew B v l:=h
def Aq.drewN(h:Aq w B v l)(k:Nat):Aq (w.drewN k) B v l:=h
def Aq.alloc(h:Aq w B v l)(o:Obj):Aq (w.alloc o) B v l:=h.below ((a5 _ _).alloc (a1 _) _)
def Aq.Bw(h:w.ownsRow B 161 3 v l.length (cellsW l)):Aq w B v l:=by
 refine⟨Sl.Bw h,fun a n c b e j=>?_⟩;rcases h.2 with ⟨rfl,_⟩|⟨g,cap,cur,rfl,_,d,_⟩
 ·cases b
 ·simp only[a9,a2] at b;obtain⟨rfl,_⟩:=b;simp[bp,d]
def Aq.nil(w:aB)(B:Nat):Aq w B (Y O 0 0) []:=⟨Sl.nil w B 3,fun a n c b _=>by cases b⟩
def Aq.JW{g:Nat}(h:Aq w B v l)(f:w.grownBy w' (Z g))(p:∀ a n c,v=Y (Z a) n c→0<n→a.block≠g):Aq w' B v l:=by
 obtain⟨⟨s,cap,D,t,x,y,q⟩,A⟩:=h;subst D;refine⟨⟨s,cap,rfl,t,x,y,fun m=>?_⟩,fun a n c k i j=>?_⟩
 ·obtain⟨b,r,d,o,e,z⟩:=q m;subst d;have:=p _ _ _ rfl m;exact⟨b,r,rfl,o,bx e f.size,fun j u C=>f.cell (z j u C) (by simp;exact this)⟩
 ·have E:=k;simp only[a9] at k;obtain⟨rfl,rfl,rfl⟩:=k;obtain⟨b,r,d,o,e,_⟩:=q i;simp only[a2] at d;subst d;have:=p _ _ _ rfl i;rw[World.frozen?_of_block (f.block b e (by simp;exact this))];exact A _ _ _ rfl i j
end
def NY(b o:Nat)(v:aI)(l:List Wt)(g:Nat)(a:Array aI)(p:Wt→Bool)(d:∀ args w,(callFunc g args).run prog w=.ok (.enter g args) w)(w:aB)(m:w.cell? ⟨b,o,O⟩=Z v)(h:Al w 0 v l)(n:l.length≤100000)(i:IJ g a p w):
  bh prog 185 #[G (Z ⟨b,o,O⟩),.func (.func g) #[] a] w fun e w'=>e=.returned (.bool (l.any p))∧Bl w w':=by
 have c:=HH (JS v l g a p d w h (by omega) i);obtain⟨k,cap,rfl,_,_,_,_⟩:=h;clear i d;generalize l.any p=q at c ⊢;go_enter func185,ntmps185;go_wp2_with fail;refine c.o.mono ?_;rintro e r ⟨rfl,f⟩;have j:=HH f;clear f;go_wp2_with fail;go_ret;exact⟨rfl,j.o⟩
def Zh(x:Wt)(w W:aB)(b:Bl w W):
  bh prog 201 #[.agg #[I J x.proc,I J x.prio,I U x.val]] W fun e w'=>e=.returned (.bool (x.val !=0))∧Bl w w':=by
 have a:=HH b;clear b;go_enter func201,ntmps201;go_wp2;go_ret;exact⟨rfl,a.o.alloc a.o.size _⟩
def Xl(x:Wt)(g:Nat)(q:Int)(w W:aB)(c:w.cell? ⟨g,0,O⟩=Z (I J q))(d:g<w.heap.size)(a:Bl w W):
  bh prog 186 #[.agg #[I J x.proc,I J x.prio,I U x.val],G (Z ⟨g,0,O⟩)] W fun e w'=>e=.returned (.bool (decide (x.proc=q)))∧Bl w w':=by
 have f:W.cell? ⟨g,0,O⟩=Z (I J q):=(a.cell (p:=⟨g,0,O⟩) d).trans c;have i:g<W.heap.size:=bx d a.size;have b:=HH a;clear a c;go_enter func186,ntmps186;go_wp2;go_ret;exact⟨A8 (by by_cases h:x.proc=q<;>simp[h]),b.o.alloc b.o.size _⟩
def G5(l:List Wt)(a:Bool):Bool:=decide (AY l) && !l.any (fun x=>x.val !=0) && (a||l.length==0)
def Cw(l:List Wt)(q:Int):Bool:=decide (0≤q) && !l.any (fun x=>decide (x.proc=q))
def QK(b o:Nat)(v:aI)(l:List Wt)(m:Bool)(w:aB)(k:w.cell? ⟨b,o,O⟩=Z v)(h:Al w 0 v l)(A:Ck l)(y:l.length≤100000):
  bh prog 184 #[G (Z ⟨b,o,O⟩),.bool m] w fun e w'=>e=.returned (.bool (G5 l m))∧Bl w w':=by
 have f:=HH (Li v l w h A y);have t:b<w.heap.size:=bk _ _ k;have j:Hq (∀ a,Bl w a→bh prog 185 #[G (Z ⟨b,o,O⟩),.func (.func 201) #[] #[]] a fun e w'=>e=.returned (.bool (l.any (fun x=>x.val !=0)))∧Bl a w'):=fun a c=>
  NY b o v l _ #[] _ (Gn func201 (by kernel_rfl) rfl) a ((c.cell (p:=⟨b,o,O⟩) t).trans k) (h.below c) y (fun W x D=>Zh x a W D)
 obtain⟨C,cap,rfl,_,_,_,_⟩:=h;clear A;cases g:decide (AY l) with
 |false=>
  rw[g] at f;have i:G5 l m=false:=by simp[G5,g]
  rw[i];clear g i j;go_enter func184,ntmps184;go_wp2_with fail;refine f.o.mono ?_;rintro e a ⟨rfl,c⟩;have d:=HH c;clear c f;go_wp2_with fail;go_ret;exact⟨rfl,d.o⟩
 |true=>
  rw[g] at f;have i:Hq (G5 l m=(!l.any (fun x=>x.val !=0) && (m||l.length==0))):=by show _=_;simp[G5,g]
  rw[i.o];clear g i;generalize l.any (fun x=>x.val !=0)=q at j ⊢;have z:((l.length:Int)==0)=(l.length==0):=by rw[Bool.eq_iff_iff];simp
  have B:=HH z;clear z;have u:∀ a,Bl w a→a.cell? ⟨b,o,O⟩=Z (Y C l.length cap):=fun a c=>(c.cell (p:=⟨b,o,O⟩) t).trans k;have r:=HH u;clear u;cases q<;>cases m
  all_goals
   go_enter func184,ntmps184;go_wp2_with fail;refine f.o.mono ?_;rintro e a ⟨rfl,c⟩;have d:=HH c;clear c f;go_wp2_with fail;refine(j.o a d.o).mono ?_;rintro e E ⟨rfl,s⟩;have n:=HH (d.o.trans (s.mono d.o.size));have F:=r.o E n.o;clear s j r d;go_wp2_with fail;go_ret;exact⟨A8 (by first|rfl|(rw[←B.o];rfl)),n.o⟩
def Jf(b o:Nat)(v:aI)(l:List Wt)(q:Int)(w:aB)(s:w.cell? ⟨b,o,O⟩=Z v)(h:Al w 0 v l)(A:l.length≤100000):
  bh prog 153 #[G (Z ⟨b,o,O⟩),I J q] w fun e w'=>e=.returned (.bool (Cw l q))∧Bl w w':=by
 have z:b<w.heap.size:=bk _ _ s;obtain⟨a,c⟩:=ex (w.alloc (T #[I J q] 3));have C:a.heap.size=w.heap.size+1:=by subst c;simp
 have k:a.heap[w.heap.size]? =Z (T #[I J q] 3 (0,0)):=by subst c;exact be w _
 have g:Bl w a:=by subst c;exact(a5 _ _).alloc (a1 _) _
 have m:a.cell? ⟨w.heap.size,0,O⟩=Z (I J q):=by rw[a7 a _ _ _ _ _ k];rfl
 obtain⟨f,i,j⟩:=H3 (NY b o v l _ #[G (Z ⟨w.heap.size,0,O⟩)] _ (Gn func186 (by kernel_rfl) rfl) a ((g.cell (p:=⟨b,o,O⟩) z).trans s) (h.below g) A (fun W x y=>Xl x w.heap.size q a W m (by omega) y)) g c;have B:w.heap.size≤a.heap.size:=by omega
 clear g c C k m h;by_cases t:0≤q
 ·have d:Hq (Cw l q=!l.any (fun x=>decide (x.proc=q))):=by show _=_;simp[Cw,t]
  rw[d.o];clear d;generalize l.any (fun x=>decide (x.proc=q))=r at f ⊢;go_enter func153,ntmps153;go_wp2_with fail;rw[←j.o];refine f.o.mono ?_;rintro e D ⟨rfl,n⟩;have u:=HH (i.o.trans (n.mono B));clear n f j i;go_wp2_with fail;go_ret;exact⟨rfl,u.o⟩
 ·have d:Hq (Cw l q=false):=by show _=_;simp[Cw,t]
  rw[d.o];clear d f;go_enter func153,ntmps153;go_wp2_with fail;go_ret;refine⟨rfl,?_⟩;rw[←j.o];exact i.o
def QY(w:aB)(b:Nat)(t:bl)(c:aI)(l:List Wt)(e:bE)(w':aB):Prop:=
 ∃ a,e=.returned (.tuple #[])∧w'.heap[b]? =Z (T #[a,c] t (0,0))∧Aq w' w.heap.size a l∧w.grownBy w' (Z b)
def O3(b:Nat)(t:bl)(v c:aI)(l:List Wt)(q r:Int)(w:aB)(j:w.heap[b]? =Z (T #[v,c] t (0,0)))(h:Al w 0 v l)(N:l.length≤100000):
  bh prog 155 #[G (Z ⟨b,0,O⟩),I J q,I J r] w (QY w b t c (Cl l ⟨q,r,0⟩)):=by
 have A:b<w.heap.size:=(bb.1 j).1;have L:w.cell? ⟨b,0,O⟩=Z v:=by rw[a7 w _ _ _ _ _ j];rfl
 have s:=HH (JV v l ⟨q,r,0⟩ w h N);obtain⟨K,cap,rfl,_,_,_,_⟩:=h;have u:Hq (∀ d f,d.ownsRow w.heap.size 161 3 f (Cl l ⟨q,r,0⟩).length (cellsW (Cl l ⟨q,r,0⟩))→Bl w d→d.cell? ⟨b,0,O⟩=Z (Y K l.length cap)∧d.frozen? ⟨b,0,O⟩=false∧
   (d.setCell ⟨b,0,O⟩ f).heap[b]? =Z (T #[f,c] t (0,0))∧Aq (d.setCell ⟨b,0,O⟩ f) w.heap.size f (Cl l ⟨q,r,0⟩)∧w.grownBy (d.setCell ⟨b,0,O⟩ f) (Z b)∧∃ a n z,f=Y a n z):=by
  intro d f y i;have B:=(i.block b A).trans j;have M:d.grownBy (d.setCell ⟨b,0,O⟩ f) (Z b):=⟨rfl,rfl,rfl,by simp[bj],fun k _ x=>a8 _ _ _ _ (fun e=>x (by rw[e]))⟩;refine⟨(i.cell (p:=⟨b,0,O⟩) A).trans L,by simp[bp,B],?_,(Aq.Bw y).JW M ?_,?_,?_⟩
  ·have:=ba d b 0 _ _ f B;simpa using this
  ·intro a n z Q V;subst Q;have:=(y.lt a.block rfl).1;omega
  ·exact⟨i.os,i.tape,i.output,by simpa[bj] using i.size,fun k x P=>(a8 _ _ _ _ (fun e=>P (by rw[e]))).trans (i.block k x)⟩
  ·rcases y.2 with ⟨rfl,_⟩|⟨g,S,_,rfl,_⟩
   ·exact⟨_,_,_,rfl⟩
   ·exact⟨_,_,_,rfl⟩
 clear j;generalize Cl l ⟨q,r,0⟩=m at s u ⊢;go_enter func155,ntmps155;go_wp2_with fail;refine s.o.mono ?_;rintro e d ⟨f,rfl,C,i⟩;obtain⟨W,X,D,E,F,R,n1,c1,rfl⟩:=u.o d f C i;have H:Hq (_∧_∧_):=⟨D,E,F⟩;clear C i s u D E F;go_wp2_with fail
 go_end0
 exact⟨_,rfl,H.o⟩
def Bq{w:aB}{base:Nat}{e:bl}{d:Nat}{v:aI}{n:Nat}{f:List aI}(h:w.ownsRow base e d v n f):∃ a c,v=Y a n c:=by
 rcases h.2 with ⟨rfl,b⟩|⟨g,i,_,rfl,_⟩
 ·exact⟨_,_,by rw[b]⟩
 ·exact⟨_,_,rfl⟩
def LG(w:aB)(t:bl)(c:aI)(l:List Wt)(e:bE)(w':aB):Prop:=
 ∃ g b,e=.returned (G (Z ⟨g,0,O⟩))∧w.heap.size≤g∧w'.heap[g]? =Z (T #[b,c] t (0,0))∧Aq w' w.heap.size b l∧Bl w w'∧(∀ a n d,b=Y (Z a) n d→0<n→a.block≠g)
def PC{w b:aB}{o:Obj}{e c:aI}{t:bl}{l:List Wt}(f:Hq (b.ownsRow (w.alloc o).drew.heap.size 161 3 e l.length (cellsW l)))(g:Hq (bI (w.alloc o).drew.heap.size (w.alloc o).drew b)):
  LG w t c l (.returned (G (Z ⟨b.heap.size,0,O⟩))) (b.alloc (T #[e,c] t)):=by
 have k:(w.alloc o).drew.heap.size=w.heap.size+1:=by simp
 have d:Bl w b:=((a5 _ w).alloc (a1 _) o).drew.trans (g.o.mono (by omega));refine⟨b.heap.size,e,rfl,d.size,be b _,((Aq.Bw f.o).mono (by omega)).alloc _,d.alloc d.size _,fun a n i h j=>?_⟩;subst h;exact bY (f.o.lt a.block rfl).2
def MO(n:Int)(v:aI)(l:List Wt)(w:aB)(h:Al w 0 v l)(m:l.length≤100000):
  bh prog 151 #[.agg #[I J n,v]] w (LG w 248 (I J n) l):=by
 obtain⟨g,cap,rfl,q,r,_⟩:=h.open_;have f:=HH (h.alloc (T #[I J n,Y g l.length cap] 95)).drew;clear h;go_enter func151,ntmps151;go_wp2_with fail
 go_region_with (go_at_call 112;refine(GK _ l _ f.o (by omega)).mono ?_;rintro e i ⟨s,rfl,b,a⟩;obtain⟨j,c1,rfl⟩:=Bq b;have d:=HH b;have c:=HH a;have k:i.cell? ⟨w.heap.size,0,O⟩=Z (I J n):=((a.cell (p:=⟨w.heap.size,0,O⟩) (by simp)).trans (by go_simp));clear b a)
 all_goals
  go_wp2;go_ret;exact PC d c
def Lf(n:Bool)(v:aI)(l:List Wt)(w:aB)(h:Al w 0 v l)(m:l.length≤100000):
  bh prog 156 #[.agg #[.bool n,v]] w (LG w 256 (.bool n) l):=by
 obtain⟨g,cap,rfl,q,r,_⟩:=h.open_;have f:=HH (h.alloc (T #[.bool n,Y g l.length cap] 99)).drew;clear h;go_enter func156,ntmps156;go_wp2_with fail
 go_region_with (go_at_call 112;refine(GK _ l _ f.o (by omega)).mono ?_;rintro e i ⟨s,rfl,b,a⟩;obtain⟨j,c1,rfl⟩:=Bq b;have d:=HH b;have c:=HH a;have k:i.cell? ⟨w.heap.size,0,O⟩=Z (.bool n):=((a.cell (p:=⟨w.heap.size,0,O⟩) (by simp)).trans (by go_simp));clear b a)
 all_goals
  go_wp2;go_ret;exact PC d c
def GL(g:Nat)(n:Int)(a:Option Addr)(m c:Nat)(w:aB)(b:w.heap[g]? =Z (T #[Y a m c,I J n] 248 (0,0))):
  bh prog 154 #[G (Z ⟨g,0,O⟩)] w fun e w'=>e=.returned (.agg #[I J n,Y a m c])∧Bl w w':=by
 have f:g<w.heap.size:=(bb.1 b).1;have d:w.cell? ⟨g,0,O⟩=Z (Y a m c):=by rw[a7 w _ _ _ _ _ b];rfl
 have c1:w.cell? ⟨g,1,O⟩=Z (I J n):=by rw[a7 w _ _ _ _ _ b];rfl
 clear b;go_enter func154,ntmps154;go_wp2_with fail
 go_region
 all_goals
  go_wp2;refine a6 (v:=.agg #[I J n,Y a m c]) (by simp[bg,results154,go_sem]) rfl ⟨rfl,?_⟩;exact((a5 _ w).alloc (a1 _) _).drew
def Is(g:Nat)(n:Bool)(a:Option Addr)(m c:Nat)(w:aB)(b:w.heap[g]? =Z (T #[Y a m c,.bool n] 256 (0,0))):
  bh prog 158 #[G (Z ⟨g,0,O⟩)] w fun e w'=>e=.returned (.agg #[.bool n,Y a m c])∧Bl w w':=by
 have f:g<w.heap.size:=(bb.1 b).1;have d:w.cell? ⟨g,0,O⟩=Z (Y a m c):=by rw[a7 w _ _ _ _ _ b];rfl
 have c1:w.cell? ⟨g,1,O⟩=Z (.bool n):=by rw[a7 w _ _ _ _ _ b];rfl
 clear b;go_enter func158,ntmps158;go_wp2_with fail
 go_region
 all_goals
  go_wp2;refine a6 (v:=.agg #[.bool n,Y a m c]) (by simp[bg,results158,go_sem]) rfl ⟨rfl,?_⟩;exact((a5 _ w).alloc (a1 _) _).drew
def JO{B:Nat}{a w:aB}(h:bI B a w)(n:Nat):bI B a (w.drewN n):=⟨h.os,h.tape,h.output,h.size,h.block⟩
def Dq(n:Int)(l:List Wt):Bool:=decide (0≤n) && decide (n≤255) && G5 l (n==0)
def Ih(n:Int)(v:aI)(l:List Wt)(w:aB)(h:Al w 0 v l)(z:Ck l)(x:l.length≤100000):
  bh prog 152 #[.agg #[I J n,v]] w fun e w'=>e=.returned (.bool (Dq n l))∧Bl w w':=by
 obtain⟨f,cap,rfl,N,P,_⟩:=h.open_;have c:=HH (h.alloc (T #[I J n,Y f l.length cap] 95)).drew;have d:=HH z;clear h z;by_cases b:0≤n
 ·by_cases i:n≤255
  ·have a:Hq (Dq n l=G5 l (n==0)):=by show _=_;simp[Dq,b,i]
   rw[a.o];clear a;have d0:decide (0≤n)=true:=decide_eq_true b;have d1:decide (n≤255)=true:=decide_eq_true i;have E:Hq (Bl w (w.alloc (T #[I J n,Y f l.length cap] 95)).drew):=((a5 _ w).alloc (a1 _) _).drew;have F:Hq (w.heap.size≤(w.alloc (T #[I J n,Y f l.length cap] 95)).drew.heap.size):=by show _≤_;simp
   generalize y:G5 l (n==0)=q;have D:=HH y;clear y;go_enter func152,ntmps152;go_wp2_with fail
   go_region_with (first
    |(go_at_call 151;refine(MO n _ l _ c.o x).mono ?_;rintro e L ⟨g,K,rfl,H,u,t,j,_⟩;have C:=HH u;have B:=HH t;have r:=HH (E.o.trans (j.mono F.o));have M:L.cell? ⟨w.heap.size,0,O⟩=Z (I J n):=((j.cell (p:=⟨w.heap.size,0,O⟩) (by simp)).trans (by go_simp));clear H u t j)
    |(go_at_call 184;refine(QK g 0 K l (n==0) _ (by rw[a7 _ _ _ _ _ _ C.o];rfl) B.o.rd d.o x).mono ?_;rintro e Q ⟨rfl,s⟩;rw[D.o];have A:=HH (r.o.trans (s.mono r.o.size));clear s))
   all_goals
    go_wp2;go_ret;exact⟨rfl,A.o⟩
  ·have a:Hq (Dq n l=false):=by show _=_;simp[Dq];omega
   rw[a.o];clear a c d;have d0:decide (0≤n)=true:=decide_eq_true b;have d1:decide (n≤255)=false:=decide_eq_false i;go_enter func152,ntmps152;go_wp2_with fail;refine bV (by kernel_rfl) (by kernel_rfl) ?_
   iterate 19 (first|go_big_quiet_step (fail)|quiet_step (fail))
   refine wpQuiet_nil ?_;intro _ k;obtain⟨nq,m⟩:=k;subst m;go_wp2;go_ret;exact⟨rfl,JO ((a5 _ w).alloc (a1 _) _) _⟩
 ·have a:Hq (Dq n l=false):=by show _=_;simp[Dq];omega
  rw[a.o];clear a c d;have d0:decide (0≤n)=false:=decide_eq_false b;go_enter func152,ntmps152;go_wp2_with fail;refine bV (by kernel_rfl) (by kernel_rfl) ?_
  iterate 19 (first|go_big_quiet_step (fail)|quiet_step (fail))
  refine wpQuiet_nil ?_;intro _ k;obtain⟨nq,m⟩:=k;subst m;go_wp2;go_ret;exact⟨rfl,JO ((a5 _ w).alloc (a1 _) _) _⟩
def Ea(a:Bool)(l:List Wt):Bool:=G5 l (!a)
def Ig(n:Bool)(v:aI)(l:List Wt)(w:aB)(h:Al w 0 v l)(m:Ck l)(j:l.length≤100000):
  bh prog 157 #[.agg #[.bool n,v]] w fun e w'=>e=.returned (.bool (Ea n l))∧Bl w w':=by
 obtain⟨a,cap,rfl,F,H,_⟩:=h.open_;have x:=HH (h.alloc (T #[.bool n,Y a l.length cap] 99)).drew;have y:=HH m;clear h m;have z:Hq (Bl w (w.alloc (T #[.bool n,Y a l.length cap] 99)).drew):=((a5 _ w).alloc (a1 _) _).drew;have A:Hq (w.heap.size≤(w.alloc (T #[.bool n,Y a l.length cap] 99)).drew.heap.size):=by show _≤_;simp
 generalize k:Ea n l=q;have u:=HH k;clear k;go_enter func157,ntmps157;go_wp2_with fail
 go_region_with (first
  |(go_at_call 156;refine(Lf n _ l _ x.o j).mono ?_;rintro e D ⟨g,C,rfl,B,i,f,b,_⟩;have t:=HH i;have s:=HH f;have c:=HH (z.o.trans (b.mono A.o));have E:D.cell? ⟨w.heap.size,0,O⟩=Z (.bool n):=((b.cell (p:=⟨w.heap.size,0,O⟩) (by simp)).trans (by go_simp));clear B i f b)
  |(go_at_call 184;refine(QK g 0 C l (!n) _ (by rw[a7 _ _ _ _ _ _ t.o];rfl) s.o.rd y.o j).mono ?_;rintro e K ⟨rfl,d⟩;rw[show G5 l (!n)=q from u.o];have r:=HH (c.o.trans (d.mono c.o.size));clear d))
 all_goals
  go_wp2;go_ret;exact⟨rfl,r.o⟩
def OV:(prog.info? 3).map (fun i=>(i.zero,i.size,i.bytes))=Z (Z (I J 0),1,8):=by kernel_rfl
def OwnI(w:aB)(B:Nat)(v:aI)(l:List Int):Prop:=w.ownsRow B 3 1 v l.length (l.map (bz J))
def Ri(w:aB)(l:List Int)(e:bE)(w':aB):Prop:=∃ v,e=.returned v∧OwnI w' w.heap.size v l∧Bl w w'
def Yf(b o:Nat)(v:aI)(l:List Wt)(w:aB)(E:w.cell? ⟨b,o,O⟩=Z v)(h:Al w 0 v l)(X:l.length≤100000):
  bh prog 159 #[G (Z ⟨b,o,O⟩)] w (Ri w (l.map (·.proc))):=by
 obtain⟨S,d,rfl,V,aa,t⟩:=h.open_;obtain⟨P,F,L,M,N⟩:=bL OV;clear h;go_enter func159,ntmps159;go_wp2;clear E
 go_loopg [3,5,11] l.length (fun C R _ Q wr=>∃ k:Nat,k≤l.length∧l.length-k≤C∧Q=I J k∧Hq (Bl w wr∧OwnI wr w.heap.size R ((l.take k).map (·.proc))))
 case atStart=>exact⟨0,bi _,by omega,rfl,a5 _ w,bm _ _ _ _⟩
 case round=>
  obtain⟨k,W,i,rfl,A⟩:=hrel;by_cases q:k<l.length
  ·have H:(k:Int)<(l.length:Int):=by omega
   obtain⟨z,ab,rfl,_,D,d⟩:=t (by omega);obtain⟨B,c1,c2⟩:=d k q;rw[←A.o.1.cell (p:=⟨z,_,O⟩) D] at B c1 c2;clear t d;have n:((l.take k).map (·.proc)).length=k:=by simp;omega
   have e:=HH n;clear n;have c:=A.o.2;unfold OwnI at c;rw[e.o] at c;have f:=HH c;have K:w.heap.size≤wr.heap.size:=A.o.1.size;clear c;go_wp2_with (at_builtin;refine bF _ rfl _ _ 22 rfl w.heap.size 3 P (I J 0) 1 8 underlying22 F L M N rfl (by decide) _ _ _ rfl ((f.o.alloc _).alloc _) ⟨wr.heap.size+1,0,O⟩ 1 1 [I J l[k].proc] rfl rfl ?c1 ?c2 ?c3 ?c4 ?c5 ?_)
   case c1=>
    intro j u a
    match j,a with
    |0,a=>simp at a;subst a;rw[Cu];go_simp
   case c2=>intro u s;simp at s;subst s;rfl
   case c3=>unfold maxLen;omega
   case c4=>omega
   case c5=>simp;omega
   intro v' w1 r m _;obtain⟨y,x⟩:=H2 r m;clear r m;go_wp2
   go_roundg (l.length-(k+1))
   case measure=>omega
   case rel=>
    refine⟨k+1,by omega,by omega,by go_num,((A.o.1.alloc K _).alloc (by simp;omega) _).grown x.o (by simp;omega) (fun g i=>(f.o.lt g i).1),?_⟩;unfold OwnI;rw[bc q,bU,bd,e.o,bU];simpa[List.map_take] using y.o
  ·have H:¬(k:Int)<(l.length:Int):=by omega
   go_wp2;go_ret;refine⟨_,rfl,?_,A.o.1⟩;have:=A.o.2;rwa [bK (by omega)] at this
def AJ{W:aB}{g:Nat}{x y:aI}{t:bl}(h:W.heap[g]? =Z (T #[x,y] t (0,0))):
  W.cell? ⟨g,0,O⟩=Z x∧W.cell? ⟨g,1,O⟩=Z y∧W.frozen? ⟨g,0,O⟩=false∧W.frozen? ⟨g,1,O⟩=false:=
 ⟨by rw[a7 W _ _ _ _ _ h];rfl,by rw[a7 W _ _ _ _ _ h];rfl,by simp[bp,h],by simp[bp,h]⟩
structure BI(w W:aB)(t t':bl)(c z v0:aI)(g:Nat)(v1 c1:aI)(l:List Wt):Prop where
 arg:W.heap[w.heap.size]? =Z (T #[c,v0] t (0,0))
 res:W.heap[w.heap.size+1]? =Z (T #[z,Y O 0 0] t (0,0))
 ge:w.heap.size+2≤g
 obj:W.heap[g]? =Z (T #[v1,c1] t' (0,0))
 fr:Aq W (w.heap.size+2) v1 l
 below:Bl w W
 apart:∀ a n cc,v1=Y (Z a) n cc→0<n→a.block≠g
section
variable {w W W':aB} {t t':bl} {c z v0:aI} {g:Nat} {v1 c1:aI} {l:List Wt}
def Aa{W:aB}{g:Nat}{o:Obj}(h:W.heap[g]? =Z o):g<W.heap.size:=(bb.1 h).1
def BI.next(h:BI w W t t' c z v0 g v1 c1 l)(a:Bl W W'):BI w W' t t' c z v0 g v1 c1 l:=
 ⟨(a.block _ (Aa h.arg)).trans h.arg,(a.block _ (Aa h.res)).trans h.res,h.ge,(a.block _ (Aa h.obj)).trans h.obj,h.fr.below a,h.below.trans (a.mono h.below.size),h.apart⟩
def BI.open_{b:aB}{e:aI}(d:b=((w.alloc (T #[c,e] t)).alloc (T #[z,Y O 0 0] t)))(q:b.heap.size≤g)(p:W.heap[g]? =Z (T #[v1,c1] t' (0,0)))(o:Aq W b.heap.size v1 l)(f:Bl b W)
  (k:∀ a n h,v1=Y (Z a) n h→0<n→a.block≠g):BI w W t t' c z e g v1 c1 l:=by
 have r:b.heap.size=w.heap.size+2:=by subst d;simp
 have i:b.heap[w.heap.size]? =Z (T #[c,e] t (0,0)):=by subst d;rw[bR _ _ _ (by simp)];exact be w _
 have j:b.heap[w.heap.size+1]? =Z (T #[z,Y O 0 0] t (0,0)):=by
  subst d;have:=be (w.alloc (T #[c,e] t)) (T #[z,Y O 0 0] t);simpa using this
 have m:Bl w b:=by subst d;exact((a5 _ w).alloc (a1 _) _).alloc (by simp) _
 exact⟨(f.block _ (by omega)).trans i,(f.block _ (by omega)).trans j,by omega,p,o.mono (by omega),m.trans (f.mono (by omega)),k⟩
def Aq.low{w:aB}{B:Nat}{v:aI}{l:List Wt}{g o:Nat}{u:aI}(h:Aq w B v l)(s:g<B):Aq (w.setCell ⟨g,o,O⟩ u) B v l:=by
 refine h.JW (g:=g) ⟨rfl,rfl,rfl,by simp[bj],fun k _ j=>a8 _ _ _ _ (fun e=>j (by rw[e]))⟩ (fun a n c p x=>?_);obtain⟨q,cap,f,_,_,_,m⟩:=h.1;subst p;simp only[a9] at f;obtain⟨d,y,_⟩:=f;obtain⟨b,A,i,r,_,_⟩:=m (by omega);rw[i] at d;simp only[a2] at d;subst d;show b≠g;omega
def BI.Hy(h:BI w W t t' c z v0 g v1 c1 l)(u:aI):BI w (W.setCell ⟨g,1,O⟩ u) t t' c z v0 g v1 u l:=by
 have b:=h.ge;refine⟨(a8 _ _ _ _ (by show _≠g;omega)).trans h.arg,(a8 _ _ _ _ (by show _≠g;omega)).trans h.res,h.ge,?_,?_,h.below.setCell (p:=⟨g,1,O⟩) (by show _≤g;omega) _,h.apart⟩
 ·have:=ba W g 1 _ _ u h.obj;simpa using this
 ·exact h.fr.JW (g:=g) ⟨rfl,rfl,rfl,by simp[bj],fun k _ a=>a8 _ _ _ _ (fun e=>a (by rw[e]))⟩ h.apart
def BI.MY(h:BI w W t t' c z v0 g v1 c1 l)(u:aI){m:List Wt}(i:Aq W (w.heap.size+2) u m)(b:∀ a n d,u=Y (Z a) n d→0<n→a.block≠g):BI w (W.setCell ⟨g,0,O⟩ u) t t' c z v0 g u c1 m:=by
 have j:=h.ge;refine⟨(a8 _ _ _ _ (by show _≠g;omega)).trans h.arg,(a8 _ _ _ _ (by show _≠g;omega)).trans h.res,h.ge,?_,?_,h.below.setCell (p:=⟨g,0,O⟩) (by show _≤g;omega) _,b⟩
 ·have:=ba W g 0 _ _ u h.obj;simpa using this
 ·exact i.JW (g:=g) ⟨rfl,rfl,rfl,by simp[bj],fun k _ f=>a8 _ _ _ _ (fun e=>f (by rw[e]))⟩ b
def BI.last(h:BI w W t t' c z v0 g v1 c1 l)(x y:aI):Aq ((W.setCell ⟨w.heap.size+1,0,O⟩ x).setCell ⟨w.heap.size+1,1,O⟩ y) w.heap.size v1 l∧Bl w ((W.setCell ⟨w.heap.size+1,0,O⟩ x).setCell ⟨w.heap.size+1,1,O⟩ y):=
 ⟨((h.fr.low (by omega)).low (by omega)).mono (by omega),(h.below.setCell (p:=⟨w.heap.size+1,0,O⟩) (by simp) _).setCell (p:=⟨w.heap.size+1,1,O⟩) (by simp) _⟩
def BI.enter(h:BI w W t t' c z v0 g v1 c1 l){m:List Wt}{f:aI}(q:W'.heap[g]? =Z (T #[f,c1] t' (0,0)))(i:Aq W' W.heap.size f m)(e:W.grownBy W' (Z g)):BI w W' t t' c z v0 g f c1 m:=by
 have y:=h.ge;have A:=Aa h.obj;refine⟨(e.block _ (Aa h.arg) (by simp;omega)).trans h.arg,(e.block _ (Aa h.res) (by simp;omega)).trans h.res,h.ge,q,i.mono (by omega),?_,?_⟩
 ·exact h.below.grown e h.below.size (fun k p=>by simp at p;omega)
 ·intro a n v s B;obtain⟨u,cap,j,_,_,_,r⟩:=i.1;subst s;simp only[a9] at j;obtain⟨d,C,_⟩:=j;obtain⟨b,D,o,x,_,_⟩:=r (by omega);rw[o] at d;simp only[a2] at d;subst d;show b≠g;omega
end
def IK(w:aB)(c:aI)(l:List Wt)(x y:aI)(e:bE)(w':aB):Prop:=∃ v,e=.returned (.tuple #[.agg #[c,v],x,y])∧Aq w' w.heap.size v l∧Bl w w'
def NL(w:aB)(c:aI)(l:List Wt)(y:aI)(e:bE)(w':aB):Prop:=∃ v,e=.returned (.tuple #[.agg #[c,v],y])∧Aq w' w.heap.size v l∧Bl w w'
def Bc{w:aB}{B:Nat}{v:aI}{l:List Wt}(h:Aq w B v l):∃ a c,v=Y a l.length c:=by
 obtain⟨⟨a,c,b,_⟩,_⟩:=h;exact⟨a,c,b⟩
def Eb(n:Int)(l:List Wt)(p r:Int):Int×List Wt×Bool×Int:=
 if Dq n l=false∨Cw l p=false then(n,l,false,2) else if 0<n then(n-1,l,true,0) else(n,Cl l ⟨p,r,0⟩,false,0)
def Iz(n:Bool)(l:List Wt):Bool×Int:=if Ea n l=false then(n,2) else(false,0)
def Es(n:Bool)(l:List Wt)(p r:Int):List Wt×Bool×Int:=
 if Ea n l=false∨Cw l p=false then(l,false,2) else if n=true then(l,true,0) else(Cl l ⟨p,r,0⟩,false,0)
def DC(n:Bool)(l:List Wt):Bool×List Wt×List Int×Int:=if Ea n l=false then(n,l,[],2) else(true,[],l.map (·.proc),0)
def Nz{n:Int}{l:List Wt}(h:Dq n l=true):0≤n∧n≤255:=by
 simp only[Dq,Bool.and_eq_true,decide_eq_true_eq] at h;exact⟨h.1.1,h.1.2⟩
def Z2(n:Int)(p r:Int)(v:aI)(l:List Wt)(w:aB)(h:Al w 0 v l)(au:Ck l)(hl:l.length≤90000):
  bh prog 118 #[.agg #[I J n,v],I J p,I J r] w (IK w (I J (Eb n l p r).1) (Eb n l p r).2.1 (.bool (Eb n l p r).2.2.1) (I J (Eb n l p r).2.2.2)):=by
 obtain⟨ao,cap,rfl,aE,aF,_⟩:=h.open_;obtain⟨W0,ae⟩:=ex ((w.alloc (T #[I J n,Y ao l.length cap] 95)).alloc (T #[I J 0,Y O 0 0] 95));have ad:Al W0 0 (Y ao l.length cap) l:=by subst ae;exact(h.alloc _).alloc _
 obtain⟨H,s,K,L⟩:=H4 (MO n _ l W0 ad (by omega)) ae ad au;clear h ae ad au;have ay:(Dq n l=false∧Eb n l p r=(n,l,false,2))∨(Dq n l=true∧Cw l p=false∧Eb n l p r=(n,l,false,2))∨(Dq n l=true∧Cw l p=true∧0<n∧Eb n l p r=(n-1,l,true,0))∨
   (Dq n l=true∧Cw l p=true∧n=0∧Eb n l p r=(n,Cl l ⟨p,r,0⟩,false,0)):=by
  unfold Eb;cases h1:Dq n l
  ·simp
  ·have hn:=Nz h1;cases h2:Cw l p
   ·simp
   ·by_cases h3:0<n
    ·simp[h3]
    ·have:n=0:=by omega
     simp[this]
 rcases ay with ⟨D,E⟩|⟨D,E,k3⟩|⟨D,E,k3,k4⟩|⟨D,E,rfl,k4⟩
 ·rw[E];clear E;have M:=HH D;clear D;go_enter func118,ntmps118;go_wp2_with fail;rw[←s.o];refine H.o.mono ?_;rintro e N ⟨g,v1,rfl,A,B,i,f,x⟩;have d:=HH (BI.open_ s.o A B i f x);obtain⟨F,d1,rfl⟩:=Bc i;have t:=HH (K.o.below f);obtain⟨P,Q,_,_⟩:=AJ d.o.arg;clear A B i f x H K s;go_wp2_with fail;have j:=Ih n _ l N t.o L.o (by omega);rw[M.o] at j;refine j.mono ?_;clear j;rintro e V ⟨rfl,y⟩;have a:=HH (d.o.next y);obtain⟨b,k,m,q⟩:=AJ a.o.obj;have os:=Aa a.o.obj;clear y d P Q t L;go_wp2_with fail;refine(GL g n F _ d1 _ (a.o).obj).mono ?_;rintro e w3 ⟨rfl,z⟩;have c:=HH ((a.o).next z);obtain⟨R,S,y2,y3⟩:=AJ c.o.res;have ys:=Aa c.o.res;clear z b k m q;go_wp2_with fail;refine a6 (v:=.tuple #[.agg #[I J n,Y F l.length d1],.bool false,I J 2]) (by simp[bg,results118,go_sem,R,S]) rfl ?_;exact⟨_,rfl,c.o.last _ _⟩
 ·rw[k3];clear k3;obtain⟨M,W⟩:=H2 D E;clear D E;go_enter func118,ntmps118;go_wp2_with fail;rw[←s.o];refine H.o.mono ?_;rintro e N ⟨g,v1,rfl,A,B,i,f,x⟩;have d:=HH (BI.open_ s.o A B i f x);obtain⟨F,d1,rfl⟩:=Bc i;have t:=HH (K.o.below f);obtain⟨P,Q,_,_⟩:=AJ d.o.arg;clear A B i f x H K s;go_wp2_with fail;have j:=Ih n _ l N t.o L.o (by omega);rw[M.o] at j;refine j.mono ?_;clear j;rintro e V ⟨rfl,y⟩;have a:=HH (d.o.next y);obtain⟨b,k,m,q⟩:=AJ a.o.obj;have os:=Aa a.o.obj;clear y d P Q t L;go_wp2_with fail;have C:=Jf g 0 _ l p V b a.o.fr.rd (by omega);rw[W.o] at C;refine C.mono ?_;clear C b k m q;rintro e w3 ⟨rfl,z⟩;have c:=HH (a.o.next z);obtain⟨b,k,m,q⟩:=AJ c.o.obj;clear z a;go_wp2_with fail;refine(GL g n F _ d1 _ (c.o).obj).mono ?_;rintro e w4 ⟨rfl,X⟩;have u:=HH ((c.o).next X);obtain⟨R,S,y2,y3⟩:=AJ u.o.res;have ys:=Aa u.o.res;clear X b k m q;go_wp2_with fail;refine a6 (v:=.tuple #[.agg #[I J n,Y F l.length d1],.bool false,I J 2]) (by simp[bg,results118,go_sem,R,S]) rfl ?_;exact⟨_,rfl,u.o.last _ _⟩
 ·rw[k4];clear k4;obtain⟨M,W⟩:=H2 D E;clear D E;have ag:=Nz M.o;have aC:0≤n:=ag.1;have aD:n≤255:=ag.2;clear ag;go_enter func118,ntmps118;go_wp2_with fail;rw[←s.o];refine H.o.mono ?_;rintro e N ⟨g,v1,rfl,A,B,i,f,x⟩;have d:=HH (BI.open_ s.o A B i f x);obtain⟨F,d1,rfl⟩:=Bc i;have t:=HH (K.o.below f);obtain⟨P,Q,_,_⟩:=AJ d.o.arg;clear A B i f x H K s;go_wp2_with fail;have j:=Ih n _ l N t.o L.o (by omega);rw[M.o] at j;refine j.mono ?_;clear j;rintro e V ⟨rfl,y⟩;have a:=HH (d.o.next y);obtain⟨b,k,m,q⟩:=AJ a.o.obj;have os:=Aa a.o.obj;clear y d P Q t L;go_wp2_with fail;have C:=Jf g 0 _ l p V b a.o.fr.rd (by omega);rw[W.o] at C;refine C.mono ?_;clear C b k m q;rintro e w3 ⟨rfl,z⟩;have c:=HH (a.o.next z);obtain⟨b,k,m,q⟩:=AJ c.o.obj;clear z a;go_wp2_with fail;refine(GL g (n-1) F _ d1 _ (c.o.Hy (I J (n-1))).obj).mono ?_;rintro e w4 ⟨rfl,X⟩;have u:=HH ((c.o.Hy (I J (n-1))).next X);obtain⟨R,S,y2,y3⟩:=AJ u.o.res;have ys:=Aa u.o.res;clear X b k m q;go_wp2_with fail;refine a6 (v:=.tuple #[.agg #[I J (n-1),Y F l.length d1],.bool true,I J 0]) (by simp[bg,results118,go_sem,R,S]) rfl ?_;exact⟨_,rfl,u.o.last _ _⟩
 ·rw[k4];clear k4;obtain⟨M,W⟩:=H2 D E;clear D E;go_enter func118,ntmps118;go_wp2_with fail;rw[←s.o];refine H.o.mono ?_;rintro e N ⟨g,v1,rfl,A,B,i,f,x⟩;have d:=HH (BI.open_ s.o A B i f x);obtain⟨F,d1,rfl⟩:=Bc i;have t:=HH (K.o.below f);obtain⟨P,Q,_,_⟩:=AJ d.o.arg;clear A B i f x H K s;go_wp2_with fail;have j:=Ih 0 _ l N t.o L.o (by omega);rw[M.o] at j;refine j.mono ?_;clear j;rintro e V ⟨rfl,y⟩;have a:=HH (d.o.next y);obtain⟨b,k,m,q⟩:=AJ a.o.obj;have os:=Aa a.o.obj;clear y d P Q t L;go_wp2_with fail;have C:=Jf g 0 _ l p V b a.o.fr.rd (by omega);rw[W.o] at C;refine C.mono ?_;clear C b k m q;rintro e w3 ⟨rfl,z⟩;have c:=HH (a.o.next z);obtain⟨b,k,m,q⟩:=AJ c.o.obj;clear z a;go_wp2_with fail;refine(O3 g 248 _ (I J 0) l p r w3 c.o.obj c.o.fr.rd (by omega)).mono ?_;clear b k m q;rintro e w4 ⟨v4,rfl,ar,af,aq⟩;obtain⟨a4,d4,rfl⟩:=Bc af;have u:=HH (c.o.enter ar af aq);obtain⟨b,k,m,q⟩:=AJ u.o.obj;clear ar af aq c;go_wp2_with fail;refine(GL g 0 a4 _ d4 _ (u.o).obj).mono ?_;rintro e w5 ⟨rfl,ap⟩;have M5:=HH ((u.o).next ap);obtain⟨R,S,y2,y3⟩:=AJ M5.o.res;have ys:=Aa M5.o.res;clear ap b k m q;go_wp2_with fail;refine a6 (v:=.tuple #[.agg #[I J 0,Y a4 (Cl l ⟨p,r,0⟩).length d4],.bool false,I J 0]) (by simp[bg,results118,go_sem,R,S]) rfl ?_;exact⟨_,rfl,M5.o.last _ _⟩
def Zf(n:Bool)(p r:Int)(v:aI)(l:List Wt)(w:aB)(h:Al w 0 v l)(aq:Ck l)(hl:l.length≤90000):
  bh prog 122 #[.agg #[.bool n,v],I J p,I J r] w (IK w (.bool n) (Es n l p r).1 (.bool (Es n l p r).2.1) (I J (Es n l p r).2.2)):=by
 obtain⟨ao,cap,rfl,az,aA,_⟩:=h.open_;obtain⟨W0,ae⟩:=ex ((w.alloc (T #[.bool n,Y ao l.length cap] 99)).alloc (T #[.bool false,Y O 0 0] 99));have ad:Al W0 0 (Y ao l.length cap) l:=by subst ae;exact(h.alloc _).alloc _
 obtain⟨H,s,K,L⟩:=H4 (Lf n _ l W0 ad (by omega)) ae ad aq;clear h ae ad aq;have av:(Ea n l=false∧Es n l p r=(l,false,2))∨(Ea n l=true∧Cw l p=false∧Es n l p r=(l,false,2))∨(Ea n l=true∧Cw l p=true∧n=true∧Es n l p r=(l,true,0))∨
   (Ea n l=true∧Cw l p=true∧n=false∧Es n l p r=(Cl l ⟨p,r,0⟩,false,0)):=by
  unfold Es;cases h1:Ea n l
  ·simp
  ·cases h2:Cw l p
   ·simp
   ·cases n<;>simp
 rcases av with ⟨D,E⟩|⟨D,E,k3⟩|⟨D,E,rfl,k4⟩|⟨D,E,rfl,k4⟩
 ·rw[E];clear E;have M:=HH D;clear D;go_enter func122,ntmps122;go_wp2_with fail;rw[←s.o];refine H.o.mono ?_;rintro e N ⟨g,v1,rfl,A,B,i,f,x⟩;have d:=HH (BI.open_ s.o A B i f x);obtain⟨F,d1,rfl⟩:=Bc i;have t:=HH (K.o.below f);obtain⟨P,Q,_,_⟩:=AJ d.o.arg;clear A B i f x H K s;go_wp2_with fail;have j:=Ig n _ l N t.o L.o (by omega);rw[M.o] at j;refine j.mono ?_;clear j;rintro e V ⟨rfl,y⟩;have a:=HH (d.o.next y);obtain⟨b,k,m,q⟩:=AJ a.o.obj;have os:=Aa a.o.obj;clear y d P Q t L;go_wp2_with fail;refine(Is g n F _ d1 _ (a.o).obj).mono ?_;rintro e w3 ⟨rfl,z⟩;have c:=HH ((a.o).next z);obtain⟨R,S,y2,y3⟩:=AJ c.o.res;have ys:=Aa c.o.res;clear z b k m q;go_wp2_with fail;refine a6 (v:=.tuple #[.agg #[.bool n,Y F l.length d1],.bool false,I J 2]) (by simp[bg,results122,go_sem,R,S]) rfl ?_;exact⟨_,rfl,c.o.last _ _⟩
 ·rw[k3];clear k3;obtain⟨M,W⟩:=H2 D E;clear D E;go_enter func122,ntmps122;go_wp2_with fail;rw[←s.o];refine H.o.mono ?_;rintro e N ⟨g,v1,rfl,A,B,i,f,x⟩;have d:=HH (BI.open_ s.o A B i f x);obtain⟨F,d1,rfl⟩:=Bc i;have t:=HH (K.o.below f);obtain⟨P,Q,_,_⟩:=AJ d.o.arg;clear A B i f x H K s;go_wp2_with fail;have j:=Ig n _ l N t.o L.o (by omega);rw[M.o] at j;refine j.mono ?_;clear j;rintro e V ⟨rfl,y⟩;have a:=HH (d.o.next y);obtain⟨b,k,m,q⟩:=AJ a.o.obj;have os:=Aa a.o.obj;clear y d P Q t L;go_wp2_with fail;have C:=Jf g 0 _ l p V b a.o.fr.rd (by omega);rw[W.o] at C;refine C.mono ?_;clear C b k m q;rintro e w3 ⟨rfl,z⟩;have c:=HH (a.o.next z);obtain⟨b,k,m,q⟩:=AJ c.o.obj;clear z a;go_wp2_with fail;refine(Is g n F _ d1 _ (c.o).obj).mono ?_;rintro e w4 ⟨rfl,X⟩;have u:=HH ((c.o).next X);obtain⟨R,S,y2,y3⟩:=AJ u.o.res;have ys:=Aa u.o.res;clear X b k m q;go_wp2_with fail;refine a6 (v:=.tuple #[.agg #[.bool n,Y F l.length d1],.bool false,I J 2]) (by simp[bg,results122,go_sem,R,S]) rfl ?_;exact⟨_,rfl,u.o.last _ _⟩
 ·rw[k4];clear k4;obtain⟨M,W⟩:=H2 D E;clear D E;go_enter func122,ntmps122;go_wp2_with fail;rw[←s.o];refine H.o.mono ?_;rintro e N ⟨g,v1,rfl,A,B,i,f,x⟩;have d:=HH (BI.open_ s.o A B i f x);obtain⟨F,d1,rfl⟩:=Bc i;have t:=HH (K.o.below f);obtain⟨P,Q,_,_⟩:=AJ d.o.arg;clear A B i f x H K s;go_wp2_with fail;have j:=Ig true _ l N t.o L.o (by omega);rw[M.o] at j;refine j.mono ?_;clear j;rintro e V ⟨rfl,y⟩;have a:=HH (d.o.next y);obtain⟨b,k,m,q⟩:=AJ a.o.obj;have os:=Aa a.o.obj;clear y d P Q t L;go_wp2_with fail;have C:=Jf g 0 _ l p V b a.o.fr.rd (by omega);rw[W.o] at C;refine C.mono ?_;clear C b k m q;rintro e w3 ⟨rfl,z⟩;have c:=HH (a.o.next z);obtain⟨b,k,m,q⟩:=AJ c.o.obj;clear z a;go_wp2_with fail;refine(Is g true F _ d1 _ (c.o).obj).mono ?_;rintro e w4 ⟨rfl,X⟩;have u:=HH ((c.o).next X);obtain⟨R,S,y2,y3⟩:=AJ u.o.res;have ys:=Aa u.o.res;clear X b k m q;go_wp2_with fail;refine a6 (v:=.tuple #[.agg #[.bool true,Y F l.length d1],.bool true,I J 0]) (by simp[bg,results122,go_sem,R,S]) rfl ?_;exact⟨_,rfl,u.o.last _ _⟩
 ·rw[k4];clear k4;obtain⟨M,W⟩:=H2 D E;clear D E;go_enter func122,ntmps122;go_wp2_with fail;rw[←s.o];refine H.o.mono ?_;rintro e N ⟨g,v1,rfl,A,B,i,f,x⟩;have d:=HH (BI.open_ s.o A B i f x);obtain⟨F,d1,rfl⟩:=Bc i;have t:=HH (K.o.below f);obtain⟨P,Q,_,_⟩:=AJ d.o.arg;clear A B i f x H K s;go_wp2_with fail;have j:=Ig false _ l N t.o L.o (by omega);rw[M.o] at j;refine j.mono ?_;clear j;rintro e V ⟨rfl,y⟩;have a:=HH (d.o.next y);obtain⟨b,k,m,q⟩:=AJ a.o.obj;have os:=Aa a.o.obj;clear y d P Q t L;go_wp2_with fail;have C:=Jf g 0 _ l p V b a.o.fr.rd (by omega);rw[W.o] at C;refine C.mono ?_;clear C b k m q;rintro e w3 ⟨rfl,z⟩;have c:=HH (a.o.next z);obtain⟨b,k,m,q⟩:=AJ c.o.obj;clear z a;go_wp2_with fail;refine(O3 g 256 _ (.bool false) l p r w3 c.o.obj c.o.fr.rd (by omega)).mono ?_;clear b k m q;rintro e w4 ⟨v4,rfl,ap,af,an⟩;obtain⟨a4,d4,rfl⟩:=Bc af;have u:=HH (c.o.enter ap af an);obtain⟨b,k,m,q⟩:=AJ u.o.obj;clear ap af an c;go_wp2_with fail;refine(Is g false a4 _ d4 _ (u.o).obj).mono ?_;rintro e w5 ⟨rfl,am⟩;have M5:=HH ((u.o).next am);obtain⟨R,S,y2,y3⟩:=AJ M5.o.res;have ys:=Aa M5.o.res;clear am b k m q;go_wp2_with fail;refine a6 (v:=.tuple #[.agg #[.bool false,Y a4 (Cl l ⟨p,r,0⟩).length d4],.bool false,I J 0]) (by simp[bg,results122,go_sem,R,S]) rfl ?_;exact⟨_,rfl,M5.o.last _ _⟩
def Xk(n:Bool)(v:aI)(l:List Wt)(w:aB)(h:Al w 0 v l)(V:Ck l)(hl:l.length≤90000):
  bh prog 121 #[.agg #[.bool n,v]] w (NL w (.bool (Iz n l).1) l (I J (Iz n l).2)):=by
 obtain⟨S,cap,rfl,ag,ah,_⟩:=h.open_;obtain⟨R,D⟩:=ex ((w.alloc (T #[.bool n,Y S l.length cap] 99)).alloc (T #[.bool false,Y O 0 0] 99));have C:Al R 0 (Y S l.length cap) l:=by subst D;exact(h.alloc _).alloc _
 obtain⟨y,j,z,A⟩:=H4 (Lf n _ l R C (by omega)) D C V;clear h D C V;have W:(Ea n l=false∧Iz n l=(n,2))∨(Ea n l=true∧Iz n l=(false,0)):=by
  unfold Iz;cases h1:Ea n l<;>simp
 rcases W with ⟨u,x⟩|⟨u,x⟩
 ·rw[x];clear x;have B:=HH u;clear u;go_enter func121,ntmps121;go_wp2_with fail;rw[←j.o];refine y.o.mono ?_;rintro e L ⟨g,X,rfl,s,t,f,d,p⟩;have b:=HH (BI.open_ j.o s t f d p);obtain⟨m,d1,rfl⟩:=Bc f;have k:=HH (z.o.below d);obtain⟨M,N,_,_⟩:=AJ b.o.arg;clear s t f d p y z j;go_wp2_with fail;have i:=Ig n _ l L k.o A.o (by omega);rw[B.o] at i;refine i.mono ?_;clear i;rintro e w2 ⟨rfl,q⟩;have a:=HH (b.o.next q);obtain⟨E,F,H,K⟩:=AJ a.o.obj;have os:=Aa a.o.obj;clear q b M N k A;go_wp2_with fail;refine(Is g n m _ d1 _ (a.o).obj).mono ?_;rintro e w3 ⟨rfl,r⟩;have c:=HH ((a.o).next r);obtain⟨P,Q,y2,y3⟩:=AJ c.o.res;have ys:=Aa c.o.res;clear r E F H K;go_wp2_with fail;refine a6 (v:=.tuple #[.agg #[.bool n,Y m l.length d1],I J 2]) (by simp[bg,results121,go_sem,P,Q]) rfl ?_;exact⟨_,rfl,c.o.last _ _⟩
 ·rw[x];clear x;have B:=HH u;clear u;go_enter func121,ntmps121;go_wp2_with fail;rw[←j.o];refine y.o.mono ?_;rintro e L ⟨g,X,rfl,s,t,f,d,p⟩;have b:=HH (BI.open_ j.o s t f d p);obtain⟨m,d1,rfl⟩:=Bc f;have k:=HH (z.o.below d);obtain⟨M,N,_,_⟩:=AJ b.o.arg;clear s t f d p y z j;go_wp2_with fail;have i:=Ig n _ l L k.o A.o (by omega);rw[B.o] at i;refine i.mono ?_;clear i;rintro e w2 ⟨rfl,q⟩;have a:=HH (b.o.next q);obtain⟨E,F,H,K⟩:=AJ a.o.obj;have os:=Aa a.o.obj;clear q b M N k A;go_wp2_with fail;refine(Is g false m _ d1 _ (a.o.Hy (.bool false)).obj).mono ?_;rintro e w3 ⟨rfl,r⟩;have c:=HH ((a.o.Hy (.bool false)).next r);obtain⟨P,Q,y2,y3⟩:=AJ c.o.res;have ys:=Aa c.o.res;clear r E F H K;go_wp2_with fail;refine a6 (v:=.tuple #[.agg #[.bool false,Y m l.length d1],I J 0]) (by simp[bg,results121,go_sem,P,Q]) rfl ?_;exact⟨_,rfl,c.o.last _ _⟩
def NO(w:aB)(c:aI)(l:List Wt)(m:List Int)(y:aI)(e:bE)(w':aB):Prop:=∃ v u,e=.returned (.tuple #[.agg #[c,v],u,y])∧Aq w' w.heap.size v l∧OwnI w' w.heap.size u m∧Bl w w'
def Xo{w W b:aB}{t i:bl}{c z j:aI}{g:Nat}{k c1:aI}{l:List Wt}{m:List Int}{u:aI}(h:BI w W t i c z j g k c1 l)(f:OwnI b W.heap.size u m)(e:Bl W b)(x y:aI):
  Aq ((b.setCell ⟨w.heap.size+1,0,O⟩ x).setCell ⟨w.heap.size+1,1,O⟩ y) w.heap.size (Y O 0 0) []∧OwnI ((b.setCell ⟨w.heap.size+1,0,O⟩ x).setCell ⟨w.heap.size+1,1,O⟩ y) w.heap.size u m∧Bl w ((b.setCell ⟨w.heap.size+1,0,O⟩ x).setCell ⟨w.heap.size+1,1,O⟩ y):=by
 have d:=Aa h.res;exact⟨Aq.nil _ _,Cx (bS (bS f (a:=⟨w.heap.size+1,0,O⟩) d _) (a:=⟨w.heap.size+1,1,O⟩) d _) (by omega),((h.next e).last x y).2⟩
def Yp(n:Bool)(v:aI)(l:List Wt)(w:aB)(h:Al w 0 v l)(W:Ck l)(hl:l.length≤90000):
  bh prog 120 #[.agg #[.bool n,v]] w (NO w (.bool (DC n l).1) (DC n l).2.1 (DC n l).2.2.1 (I J (DC n l).2.2.2)):=by
 obtain⟨V,cap,rfl,aj,ak,_⟩:=h.open_;obtain⟨S,E⟩:=ex ((w.alloc (T #[.bool n,Y V l.length cap] 99)).alloc (T #[.bool false,Y O 0 0] 99));have D:Al S 0 (Y V l.length cap) l:=by subst E;exact(h.alloc _).alloc _
 obtain⟨u,j,x,y⟩:=H4 (Lf n _ l S D (by omega)) E D W;clear h E D W;have ac:(Ea n l=false∧DC n l=(n,l,[],2))∨(Ea n l=true∧DC n l=(true,[],l.map (·.proc),0)):=by
  unfold DC;cases h1:Ea n l<;>simp
 rcases ac with ⟨s,t⟩|⟨s,t⟩
 ·rw[t];clear t;have B:=HH s;clear s;go_enter func120,ntmps120;go_wp2_with fail;rw[←j.o];refine u.o.mono ?_;rintro e M ⟨g,v1,rfl,q,r,f,c,m⟩;have b:=HH (BI.open_ j.o q r f c m);obtain⟨C,d1,rfl⟩:=Bc f;have k:=HH (x.o.below c);obtain⟨N,P,_,_⟩:=AJ b.o.arg;clear q r f c m u x j;go_wp2_with fail;have i:=Ig n _ l M k.o y.o (by omega);rw[B.o] at i;refine i.mono ?_;clear i;rintro e X ⟨rfl,p⟩;have a:=HH (b.o.next p);obtain⟨A,H,K,L⟩:=AJ a.o.obj;have os:=Aa a.o.obj;clear p b N P k y;go_wp2_with fail;refine(Is g n C _ d1 _ (a.o).obj).mono ?_;rintro e w3 ⟨rfl,d⟩;have z:=HH ((a.o).next d);obtain⟨Q,R,y2,y3⟩:=AJ z.o.res;have ys:=Aa z.o.res;clear d A H K L;go_wp2_with fail;refine a6 (v:=.tuple #[.agg #[.bool n,Y C l.length d1],Y O 0 0,I J 2]) (by simp[bg,results120,go_sem,Q,R]) rfl ?_;exact⟨_,_,rfl,(z.o.last _ _).1,bm _ _ _ _,(z.o.last _ _).2⟩
 ·rw[t];clear t;have B:=HH s;clear s;go_enter func120,ntmps120;go_wp2_with fail;rw[←j.o];refine u.o.mono ?_;rintro e M ⟨g,v1,rfl,q,r,f,c,m⟩;have b:=HH (BI.open_ j.o q r f c m);obtain⟨C,d1,rfl⟩:=Bc f;have k:=HH (x.o.below c);obtain⟨N,P,_,_⟩:=AJ b.o.arg;clear q r f c m u x j;go_wp2_with fail;have i:=Ig n _ l M k.o y.o (by omega);rw[B.o] at i;refine i.mono ?_;clear i;rintro e X ⟨rfl,p⟩;have a:=HH (b.o.next p);obtain⟨A,H,K,L⟩:=AJ a.o.obj;have os:=Aa a.o.obj;clear p b N P k y;go_wp2_with fail;refine(Yf g 0 _ l X A a.o.fr.rd (by omega)).mono ?_;rintro e w3 ⟨u3,rfl,F,d⟩;obtain⟨a3,d3,rfl⟩:=Bq F;have HF:=HH (Xo a.o F d (.bool true) (Y O 0 0));clear A H K L;obtain⟨Q,R,y2,y3⟩:=AJ (a.o.next d).res;have ys:=Aa (a.o.next d).res;clear F d a;go_wp2_with fail;refine a6 (v:=.tuple #[.agg #[.bool true,Y O 0 0],Y a3 (l.map (·.proc)).length d3,I J 0]) (by simp[bg,results120,go_sem,Q,R]) rfl ?_;exact⟨_,_,rfl,HF.o⟩
def Dm(n:Int)(l:List Wt):Int×List Wt×Int×Int:=
 if Dq n l=false then(n,l,-1,2) else match l with
  |x::m=>(n,m,x.proc,0)
  | []=>if n=255 then(n,[],-1,4) else(n+1,[],-1,0)
def Aq.tail{w:aB}{B b f m d:Nat}{x:Wt}{l k:List Wt}(h:Aq w B (Y (Z ⟨b,f,O⟩) m d) k)(y:k=x::l):Aq w B (Y (if d=1 then Z ⟨b,f,O⟩ else Z ⟨b,f+3,O⟩) (m-1) (d-1)) l:=by
 subst y;obtain⟨⟨A,cap,e,q,E,r,p⟩,o⟩:=h;simp only[a9,br] at e;obtain⟨rfl,rfl,rfl⟩:=e;simp only[br] at q r p o;obtain⟨C,L,i,s,t,v⟩:=p (by omega);simp only[a2,Addr.mk.injEq,and_true] at i;obtain⟨rfl,rfl⟩:=i;rw[Nat.add_sub_cancel];refine⟨⟨_,_,rfl,by omega,?_,DI l,fun D=>?_⟩,?_⟩
 ·intro h;split at h<;>cases h
 ·rw[if_neg (by omega)];refine⟨b,f+3,rfl,s,t,fun j u z=>?_⟩;have:=v (3+j) u (by rw[Gi,bJ (by rw[JU];omega),JU];simpa using z);rwa [←Nat.add_assoc] at this
 ·intro a n c e K j;simp only[a9] at e;obtain⟨g,F,H⟩:=e;have:a.block=b:=by split at g<;>(simp only[a2] at g;subst g;rfl)
  rw[this];exact o ⟨b,f,O⟩ _ _ rfl (by omega) j
def Aq.head{w:aB}{B m d:Nat}{a:Option Addr}{x:Wt}{l k:List Wt}(h:Aq w B (Y a m d) k)(p:k=x::l):m=l.length+1∧1≤d∧∃ b c,a=Z ⟨b,c,O⟩∧B≤b∧b<w.heap.size∧
  w.cell? ⟨b,c,O⟩=Z (I J x.proc)∧w.cell? ⟨b,c+1,O⟩=Z (I J x.prio)∧w.cell? ⟨b,c+2,O⟩=Z (I U x.val):=by
 subst p;obtain⟨⟨r,cap,g,j,s,t,f⟩,u⟩:=h;simp only[a9,br] at g;obtain⟨rfl,rfl,rfl⟩:=g;simp only[br] at j f;obtain⟨i,q,rfl,n,o,e⟩:=f (by omega);exact⟨rfl,by omega,i,q,rfl,n,o,e 0 _ rfl,e 1 _ rfl,e 2 _ rfl⟩
def YS(n:Int)(v:aI)(l:List Wt)(w:aB)(h:Al w 0 v l)(ax:Ck l)(hl:l.length≤90000):
  bh prog 119 #[.agg #[I J n,v]] w (IK w (I J (Dm n l).1) (Dm n l).2.1 (I J (Dm n l).2.2.1) (I J (Dm n l).2.2.2)):=by
 obtain⟨ao,cap,rfl,aQ,aT,_⟩:=h.open_;obtain⟨W0,am⟩:=ex ((w.alloc (T #[I J n,Y ao l.length cap] 95)).alloc (T #[I J 0,Y O 0 0] 95));have al:Al W0 0 (Y ao l.length cap) l:=by subst am;exact(h.alloc _).alloc _
 obtain⟨L,r,M,N⟩:=H4 (MO n _ l W0 al (by omega)) am al ax;clear h am al ax;have aF:(Dq n l=false∧Dm n l=(n,l,-1,2))∨(Dq n l=true∧∃ x m,l=x::m∧Dm n l=(n,m,x.proc,0))∨(Dq n l=true∧l=[]∧n=255∧Dm n l=(n,l,-1,4))∨
   (Dq n l=true∧l=[]∧n≠255∧Dm n l=(n+1,l,-1,0)):=by
  unfold Dm;cases Q:Dq n l
  ·simp
  ·cases l with
   |cons x m=>exact .inr (.inl ⟨rfl,x,m,rfl,rfl⟩)
   |nil=>by_cases h3:n=255<;>simp[h3]
 rcases aF with ⟨A,B⟩|⟨A,x,m,E,B⟩|⟨A,E,rfl,B⟩|⟨A,E,k3,B⟩
 ·rw[B];clear B;have P:=HH A;clear A;go_enter func119,ntmps119;go_wp2_with fail;rw[←r.o];refine L.o.mono ?_;rintro e S ⟨g,v1,rfl,y,z,p,k,t⟩;have j:=HH (BI.open_ r.o y z p k t);obtain⟨D,d1,rfl⟩:=Bc p;have s:=HH (M.o.below k);obtain⟨V,W,_,_⟩:=AJ j.o.arg;clear y z p k t L M r;go_wp2_with fail;have d:=Ih n _ l S s.o N.o (by omega);rw[P.o] at d;refine d.mono ?_;clear d;rintro e q ⟨rfl,u⟩;have c:=HH (j.o.next u);obtain⟨X,o1,o2,o3⟩:=AJ c.o.obj;have os:=Aa c.o.obj;clear u j V W s N;go_wp2_with fail;refine(GL g n D _ d1 _ (c.o).obj).mono ?_;rintro e R ⟨rfl,i⟩;have f:=HH ((c.o).next i);obtain⟨H,K,y2,y3⟩:=AJ f.o.res;have ys:=Aa f.o.res;clear i X o1 o2 o3;go_wp2_with fail;refine a6 (v:=.tuple #[.agg #[I J n,Y D l.length d1],I J (-1),I J 2]) (by simp[bg,results119,go_sem,H,K]) rfl ?_;exact⟨_,rfl,f.o.last _ _⟩
 ·rw[B];clear B;have P:=HH A;clear A;have KL:=HH E;have aU:0<l.length:=by rw[E];simp
  have aV:(0:Int)<(l.length:Int):=by omega
  clear E;go_enter func119,ntmps119;go_wp2_with fail;rw[←r.o];refine L.o.mono ?_;rintro e S ⟨g,v1,rfl,y,z,p,k,t⟩;have j:=HH (BI.open_ r.o y z p k t);obtain⟨D,d1,rfl⟩:=Bc p;have s:=HH (M.o.below k);obtain⟨V,W,_,_⟩:=AJ j.o.arg;clear y z p k t L M r;go_wp2_with fail;have d:=Ih n _ l S s.o N.o (by omega);rw[P.o] at d;refine d.mono ?_;clear d;rintro e q ⟨rfl,u⟩;have c:=HH (j.o.next u);obtain⟨X,o1,o2,o3⟩:=AJ c.o.obj;have os:=Aa c.o.obj;clear u j V W s N;obtain⟨aD,aL,b,ag,rfl,aJ,aK,c0,c1,c2⟩:=c.o.fr.head KL.o;have au:=c.o.apart _ _ _ rfl (by omega);have aw:Hq (b≠g):=au;clear au aD;have T2:=HH (c.o.fr.tail KL.o);have af:Hq (∀ (F:aI),Aq q (w.heap.size+2) F m→(∀ a n cc,F=Y (Z a) n cc→0<n→a.block≠g)→BI w (((q.setCell ⟨g,0,O⟩ F).alloc (T #[I J x.proc,I J x.prio,I U x.val] 161)).drew) 95 248 (I J n) (I J 0) (Y ao l.length cap) g F (I J n) m∧
    ((q.setCell ⟨g,0,O⟩ F).alloc (T #[I J x.proc,I J x.prio,I U x.val] 161)).drew.heap[q.heap.size]? =Z (T #[I J x.proc,I J x.prio,I U x.val] 161 (0,0))):=by
   intro F hf ha;have Q:=(c.o.MY F hf ha).next ((a5 _ _).alloc (a1 _) (T #[I J x.proc,I J x.prio,I U x.val] 161));refine⟨⟨Q.arg,Q.res,Q.ge,Q.obj,Q.fr,Q.below.drew,Q.apart⟩,?_⟩;have:=be (q.setCell ⟨g,0,O⟩ F) (T #[I J x.proc,I J x.prio,I U x.val] 161);rw[show (q.setCell ⟨g,0,O⟩ F).heap.size=q.heap.size by simp[bj]] at this;exact this
  have aE:¬(q.heap.size=w.heap.size+1):=by have:=Aa c.o.res;omega
  have aS:¬(w.heap.size+1=q.heap.size):=fun e=>aE e.symm
  by_cases hd:d1=1
  ·subst hd;have C:=HH (af.o (Y (Z ⟨b,ag,O⟩) (l.length-1) 0) (by have:=T2.o;rwa [if_pos rfl] at this) (by intro a n cc d _;simp only[a9,a2] at d;rw[←d.1];exact aw.o));clear af T2 c;go_wp2_with fail
   go_region_with (go_at_call 154;refine(GL g n _ _ _ _ C.o.1.obj).mono ?_;rintro e R ⟨rfl,i⟩;have f:=HH (C.o.1.next i);obtain⟨H,K,y2,y3⟩:=AJ f.o.res;have ys:=Aa f.o.res;have hX:=(i.block _ (Aa C.o.2)).trans C.o.2;have e0:R.cell? ⟨q.heap.size,0,O⟩=Z (I J x.proc):=(by rw[a7 R _ _ _ _ _ hX];rfl);clear i hX)
   all_goals
    go_wp2_with fail;refine a6 (v:=.tuple #[.agg #[I J n,Y (Z ⟨b,ag,O⟩) (l.length-1) 0],I J x.proc,I J 0]) (by simp[bg,results119,go_sem,H,K]) rfl ?_;exact⟨_,rfl,f.o.last _ _⟩
  ·skip;have C:=HH (af.o (Y (Z ⟨b,ag+3,O⟩) (l.length-1) (d1-1)) (by have:=T2.o;rwa [if_neg hd] at this) (by intro a n cc d _;simp only[a9,a2] at d;rw[←d.1];exact aw.o));clear af T2 c;go_wp2_with fail
   go_region_with (go_at_call 154;refine(GL g n _ _ _ _ C.o.1.obj).mono ?_;rintro e R ⟨rfl,i⟩;have f:=HH (C.o.1.next i);obtain⟨H,K,y2,y3⟩:=AJ f.o.res;have ys:=Aa f.o.res;have hX:=(i.block _ (Aa C.o.2)).trans C.o.2;have e0:R.cell? ⟨q.heap.size,0,O⟩=Z (I J x.proc):=(by rw[a7 R _ _ _ _ _ hX];rfl);clear i hX)
   all_goals
    go_wp2_with fail;refine a6 (v:=.tuple #[.agg #[I J n,Y (Z ⟨b,ag+3,O⟩) (l.length-1) (d1-1)],I J x.proc,I J 0]) (by simp[bg,results119,go_sem,H,K]) rfl ?_;exact⟨_,rfl,f.o.last _ _⟩
 ·rw[B];clear B;have P:=HH A;clear A;have hz:¬(0<l.length):=by rw[E];simp
  have aH:¬((0:Int)<(l.length:Int)):=by omega
  clear E;go_enter func119,ntmps119;go_wp2_with fail;rw[←r.o];refine L.o.mono ?_;rintro e S ⟨g,v1,rfl,y,z,p,k,t⟩;have j:=HH (BI.open_ r.o y z p k t);obtain⟨D,d1,rfl⟩:=Bc p;have s:=HH (M.o.below k);obtain⟨V,W,_,_⟩:=AJ j.o.arg;clear y z p k t L M r;go_wp2_with fail;have d:=Ih 255 _ l S s.o N.o (by omega);rw[P.o] at d;refine d.mono ?_;clear d;rintro e q ⟨rfl,u⟩;have c:=HH (j.o.next u);obtain⟨X,o1,o2,o3⟩:=AJ c.o.obj;have os:=Aa c.o.obj;clear u j V W s N;go_wp2_with fail;refine(GL g 255 D _ d1 _ (c.o).obj).mono ?_;rintro e R ⟨rfl,i⟩;have f:=HH ((c.o).next i);obtain⟨H,K,y2,y3⟩:=AJ f.o.res;have ys:=Aa f.o.res;clear i X o1 o2 o3;go_wp2_with fail;refine a6 (v:=.tuple #[.agg #[I J 255,Y D l.length d1],I J (-1),I J 4]) (by simp[bg,results119,go_sem,H,K]) rfl ?_;exact⟨_,rfl,f.o.last _ _⟩
 ·rw[B];clear B;have P:=HH A;clear A;have an:=Nz P.o;have aO:0≤n:=an.1;have aP:n≤255:=an.2;clear an;have aR:(n==255)=false:=by simp;exact k3
  have aN:n<255:=by omega
  clear k3;have hz:¬(0<l.length):=by rw[E];simp
  have aH:¬((0:Int)<(l.length:Int)):=by omega
  clear E;go_enter func119,ntmps119;go_wp2_with fail;rw[←r.o];refine L.o.mono ?_;rintro e S ⟨g,v1,rfl,y,z,p,k,t⟩;have j:=HH (BI.open_ r.o y z p k t);obtain⟨D,d1,rfl⟩:=Bc p;have s:=HH (M.o.below k);obtain⟨V,W,_,_⟩:=AJ j.o.arg;clear y z p k t L M r;go_wp2_with fail;have d:=Ih n _ l S s.o N.o (by omega);rw[P.o] at d;refine d.mono ?_;clear d;rintro e q ⟨rfl,u⟩;have c:=HH (j.o.next u);obtain⟨X,o1,o2,o3⟩:=AJ c.o.obj;have os:=Aa c.o.obj;clear u j V W s N;go_wp2_with fail;refine(GL g (n+1) D _ d1 _ (c.o.Hy (I J (n+1))).obj).mono ?_;rintro e R ⟨rfl,i⟩;have f:=HH ((c.o.Hy (I J (n+1))).next i);obtain⟨H,K,y2,y3⟩:=AJ f.o.res;have ys:=Aa f.o.res;clear i X o1 o2 o3;go_wp2_with fail;refine a6 (v:=.tuple #[.agg #[I J (n+1),Y D l.length d1],I J (-1),I J 0]) (by simp[bg,results119,go_sem,H,K]) rfl ?_;exact⟨_,rfl,f.o.last _ _⟩
structure LS(W:aB)(B g:Nat)(t:bl)(x y:aI)(l:List Wt):Prop where
 blk:W.heap[g]? =Z (T #[x,y] t (0,0))
 lt:g<B
 fr:Aq W B y l
section
variable {W W':aB} {B g g' o:Nat} {t:bl} {x y x' y' u:aI} {l l':List Wt}
def LS.next(h:LS W B g t x y l)(a:Bl W W'):LS W' B g t x y l:=⟨(a.block _ (Aa h.blk)).trans h.blk,h.lt,h.fr.below a⟩
def LS.drew(h:LS W B g t x y l):LS W.drew B g t x y l:=⟨h.blk,h.lt,h.fr⟩
def LS.drewN(h:LS W B g t x y l)(n:Nat):LS (W.drewN n) B g t x y l:=⟨h.blk,h.lt,h.fr⟩
def LS.alloc(h:LS W B g t x y l)(a:Obj):LS (W.alloc a) B g t x y l:=h.next ((a5 _ _).alloc (a1 _) _)
def LS.oth(h:LS W B g t x y l)(b:g'≠g)(a:g'<B):LS (W.setCell ⟨g',o,O⟩ u) B g t x y l:=
 ⟨(a8 _ _ _ _ (by exact fun e=>b e.symm)).trans h.blk,h.lt,h.fr.low a⟩
def LS.put(h:LS W B g t x y l)(c:Aq W B y' l'):LS ((W.setCell ⟨g,0,O⟩ x').setCell ⟨g,1,O⟩ y') B g t x' y' l':=by
 refine⟨?_,h.lt,(c.low h.lt).low h.lt⟩;have a:=ba W g 0 _ _ x' h.blk;have b:=ba _ g 1 _ _ y' a;simpa using b
def LS.cells(h:LS W B g t x y l):W.cell? ⟨g,0,O⟩=Z x∧W.cell? ⟨g,1,O⟩=Z y∧W.frozen? ⟨g,0,O⟩=false∧W.frozen? ⟨g,1,O⟩=false:=AJ h.blk
end
structure LV(W:aB)(g:Nat)(t:bl)(x y:aI)(l:List Wt):Prop where
 blk:W.heap[g]? =Z (T #[x,y] t (0,0))
 fr:Aq W 0 y l
 ap:∀ a n c,y=Y (Z a) n c→0<n→a.block≠g
def Mp{W:aB}{B:Nat}{y:aI}{l:List Wt}(h:Aq W B y l){a:Addr}{n c:Nat}(k:y=Y (Z a) n c)(o:0<n):B≤a.block∧a.block<W.heap.size:=by
 obtain⟨m,cap,e,_,_,_,j⟩:=h.1;subst k;simp only[a9] at e;obtain⟨d,p,_⟩:=e;obtain⟨b,q,g,f,i,_⟩:=j (by omega);rw[g] at d;simp only[a2] at d;subst d;exact⟨f,i⟩
section
variable {W W':aB} {B g:Nat} {t:bl} {x y x' y':aI} {l l':List Wt}
def LV.next(h:LV W g t x y l)(a:Bl W W'):LV W' g t x y l:=⟨(a.block _ (Aa h.blk)).trans h.blk,h.fr.below a,h.ap⟩
def LV.drewN(h:LV W g t x y l)(n:Nat):LV (W.drewN n) g t x y l:=⟨h.blk,h.fr,h.ap⟩
def LV.new(a:Aq W B y l):LV (W.alloc (T #[x,y] t)) W.heap.size t x y l:=
 ⟨be W _,(a.mono (bi _)).alloc _,fun _ _ _ c b=>bY (Mp a c b).2⟩
def LV.put(h:LV W g t x y l)(b:Aq W B y' l')(a:g<B)(x':aI):LV ((W.setCell ⟨g,0,O⟩ x').setCell ⟨g,1,O⟩ y') g t x' y' l':=by
 refine⟨?_,((b.low a).low a).mono (bi _),fun _ _ _ f e=>?_⟩
 ·have c:=ba W g 0 _ _ x' h.blk;have d:=ba _ g 1 _ _ y' c;simpa using d
 ·have:=(Mp b f e).1;omega
def LV.cells(h:LV W g t x y l):W.cell? ⟨g,0,O⟩=Z x∧W.cell? ⟨g,1,O⟩=Z y∧W.frozen? ⟨g,0,O⟩=false∧W.frozen? ⟨g,1,O⟩=false:=AJ h.blk
end
def MS{w:aB}{B:Nat}{v:aI}{l:List Int}(h:OwnI w B v l):∃ a m c,v=Y a m c∧m=l.length:=by
 obtain⟨a,c,b⟩:=Bq h;exact⟨a,_,c,b,rfl⟩
def Af(k:bt)(w:aB)(B:Nat)(v:aI)(l:List Int):Prop:=Sl w B 1 v l.length (l.map (bz k))
def Af.below{k:bt}{w w':aB}{B:Nat}{v:aI}{l:List Int}(h:Af k w B v l)(a:Bl w w'):Af k w' B v l:=Sl.below h a
def Af.open_{k:bt}{w:aB}{B:Nat}{v:aI}{l:List Int}(h:Af k w B v l):∃ (a:Option Addr) (cap:Nat),v=Y a l.length cap∧l.length≤cap∧(a=O→cap=0)∧
  (0<l.length→∃ b c,a=Z ⟨b,c,O⟩∧B≤b∧b<w.heap.size∧∀ j (d:j<l.length),w.cell? ⟨b,c+j,O⟩=Z (I k l[j])):=by
 obtain⟨a,cap,q,n,o,_,p⟩:=h;refine⟨a,cap,q,n,o,fun e=>?_⟩;obtain⟨b,c,g,f,i,m⟩:=p e;exact⟨b,c,g,f,i,fun j d=>m j _ (by simp[d])⟩
def NW{w:aB}{x:Addr}{v:aI}(h:w.cell? x=Z v):x=⟨x.block,x.off,O⟩:=by
 obtain⟨b,o,s⟩:=x;unfold World.cell? at h;split at h
 ·split at h
  ·cases h
  ·rename_i a;cases s with
   |none=>rfl
   |some q=>simp at a
 ·cases h
def Af.nil(k:bt)(w:aB)(B:Nat):Af k w B (Y O 0 0) []:=Sl.nil w B 1
def OwnI.rd{w:aB}{B:Nat}{v:aI}{l:List Int}(h:OwnI w B v l):Af J w B v l:=by
 have:=Sl.Bw h;exact this
def Af.mono{k:bt}{w:aB}{B a:Nat}{v:aI}{l:List Int}(h:Af k w B v l)(b:a≤B):Af k w a v l:=Sl.mono h b
def Af.low{k:bt}{w:aB}{B g o:Nat}{v u:aI}{l:List Int}(h:Af k w B v l)(x:g<B):Af k (w.setCell ⟨g,o,O⟩ u) B v l:=by
 obtain⟨a,cap,s,n,p,m,q⟩:=h;refine⟨a,cap,s,n,p,m,fun c=>?_⟩;obtain⟨b,t,e,d,f,i⟩:=q c;exact⟨b,t,e,d,by simpa[bj] using f,fun j u r=>(World.cell?_of_block (a8 _ _ _ _ (by show b≠g;omega))).trans (i j u r)⟩
def Af.drewN{k:bt}{w:aB}{B:Nat}{v:aI}{l:List Int}(h:Af k w B v l)(n:Nat):Af k (w.drewN n) B v l:=h
def Af.alloc{k:bt}{w:aB}{B:Nat}{v:aI}{l:List Int}(h:Af k w B v l)(o:Obj):Af k (w.alloc o) B v l:=Sl.alloc h o
def Af.one{k:bt}(w:aB)(t:bl)(n:Int):Af k (w.alloc (T #[I k n] t)) 0 (Y (Z ⟨w.heap.size,0,O⟩) 1 1) [n]:=by
 refine⟨_,_,rfl,a1 _,(by intro h;cases h),rfl,fun _=>⟨_,_,rfl,bi _,by simp,fun j u a=>?_⟩⟩;rw[a7 _ _ _ _ _ _ (be w _)];simpa using a
def Mz:(prog.info? 34).map (fun i=>(i.zero,i.size,i.bytes))=Z (Z (Y O 0 0),1,24):=by kernel_rfl
def C5(w:aB)(B:Nat)(v:aI)(l:List Int):Prop:=w.ownsRow B 5 1 v l.length (l.map (bz U))
def A6(w:aB)(B:Nat)(v:aI)(q:List (List Int)):Prop:=
 ∃ vs:List aI,Sl w B 1 v q.length vs∧∀ (i:Nat) u x,vs[i]? =Z u→q[i]? =Z x→Af U w B u x
def Bk(w:aB)(B:Nat)(v:aI)(q:List (List Int)):Prop:=
 ∃ vs:List aI,w.ownsRow B 34 1 v q.length vs∧∀ (i:Nat) u x,vs[i]? =Z u→q[i]? =Z x→C5 w B u x
def PH{w:aB}{B f e c s m n l:Nat}{v b:aI}{o p:List aI}(h:w.ownsRow B e s v n o)(i:w.ownsRow f c m b l p)(k:e≠c):b.ownBlock=O∨b.ownBlock≠v.ownBlock:=by
 rcases i.2 with ⟨rfl,_⟩|⟨t,q,r,rfl,_,a,_⟩
 ·exact .inl rfl
 ·right;rcases h.2 with ⟨rfl,_⟩|⟨g,cap,cur,rfl,_,j,_⟩
  ·simp[bH]
  ·intro d;simp only[bH,a2] at d;subst d;rw[j] at a;simp only[a2,Obj.cells.injEq] at a;exact k a.2.1
def UM{w w':aB}(h:Bl w w'):w.grownBy w' O:=⟨h.os,h.tape,h.output,h.size,fun k a _=>h.block k a⟩
def CA{w w':aB}{B e s n:Nat}{v:aI}{a:List aI}(h:w.ownsRow B e s v n a)(b:Bl w w'):w'.ownsRow B e s v n a:=by
 refine h.kept (UM b) ?_;cases c:v.ownBlock with
 |none=>exact .inl rfl
 |some k=>exact .inr (by simp)
section
variable {w w':aB} {B B':Nat} {v:aI} {q:List (List Int)} {l:List Int}
def C5.rd(h:C5 w B v l):Af U w B v l:=Sl.Bw h
def C5.below(h:C5 w B v l)(a:Bl w w'):C5 w' B v l:=CA h a
def C5.mono(h:C5 w B v l)(a:B'≤B):C5 w B' v l:=Cx h a
def A6.below(h:A6 w B v q)(a:Bl w w'):A6 w' B v q:=by
 obtain⟨vs,b,c⟩:=h;exact⟨vs,b.below a,fun i u x d e=>(c i u x d e).below a⟩
def A6.mono(h:A6 w B v q)(a:B'≤B):A6 w B' v q:=by
 obtain⟨vs,b,c⟩:=h;exact⟨vs,b.mono a,fun i u x d e=>(c i u x d e).mono a⟩
def A6.drew(h:A6 w B v q):A6 w.drew B v q:=h
def A6.drewN(h:A6 w B v q)(k:Nat):A6 (w.drewN k) B v q:=h
def A6.alloc(h:A6 w B v q)(o:Obj):A6 (w.alloc o) B v q:=h.below ((a5 _ _).alloc (a1 _) _)
def A6.nil(w:aB)(B:Nat):A6 w B (Y O 0 0) []:=⟨[],Sl.nil w B 1,fun i u x a=>by simp at a⟩
def A6.shape(h:A6 w B v q):∃ a m c,v=Y a m c∧m=q.length:=by
 obtain⟨vs,⟨b,cap,d,_⟩,_⟩:=h;exact⟨b,_,cap,d,rfl⟩
def Bk.rd(h:Bk w B v q):A6 w B v q:=by
 obtain⟨vs,a,b⟩:=h;exact⟨vs,Sl.Bw a,fun i u x c d=>(b i u x c d).rd⟩
def Bk.below(h:Bk w B v q)(a:Bl w w'):Bk w' B v q:=by
 obtain⟨vs,b,c⟩:=h;exact⟨vs,CA b a,fun i u x d e=>(c i u x d e).below a⟩
def Bk.mono(h:Bk w B v q)(a:B'≤B):Bk w B' v q:=by
 obtain⟨vs,b,c⟩:=h;exact⟨vs,Cx b a,fun i u x d e=>(c i u x d e).mono a⟩
def Bk.nil(w:aB)(B:Nat):Bk w B (Y O 0 0) []:=⟨[],bm _ _ _ _,fun i u x a=>by simp at a⟩
def Bk.snoc{vs:List aI}{u g:aI}{x:List Int}(h:w.ownsRow B 34 1 v q.length vs)(d:∀ (i:Nat) u x,vs[i]? =Z u→q[i]? =Z x→C5 w B u x)(e:C5 w B u x)
  (c:w.grownBy w' v.ownBlock) (k:w'.ownsRow B 34 1 g (q.length+1) (vs++ [u])):Bk w' B g (q++ [x]):=by
 have n:vs.length=q.length:=by have:=h.1;omega
 refine⟨vs++ [u],by simpa using k,fun i f j a b=>?_⟩;by_cases o:i<q.length
 ·rw[bo (by omega)] at a b;exact bG (d i f j a b) c (PH h (d i f j a b) (by decide))
 ·rw[bJ (by omega)] at a b;have m:i=q.length:=by
   have:=(bn.1 b).1;simp at this;omega
  subst m;rw[n] at a;simp only[Nat.sub_self,List.getElem?_cons_zero,a2] at a b;subst a b;exact bG e c (PH h e (by decide))
end
def LB(w:aB)(l:List Int)(e:bE)(w':aB):Prop:=∃ v,e=.returned v∧C5 w' w.heap.size v l∧Bl w w'
def Gj(v:aI)(l:List Int)(w:aB)(h:Af U w 0 v l)(Q:l.length≤1000000):
  bh prog 27 #[v] w (LB w l):=by
 obtain⟨s,cap,rfl,R,f,r,g⟩:=h;obtain⟨N,C,K,L,M⟩:=bL OT;have q:∀ (w:aB) (a:Option Addr) (n c i e:Nat),(binOp .eql 34 (Y a n c) (Y O i e)).run prog w=.ok (.bool a.isNone) w:=fun w a n c i e=>Lib.run_eql_slice_nil w _ _ a n c i e underlying34
 have H:=HH r;clear r;cases s with
 |none=>
  have t:l=[]:=bD (by have:=f rfl;omega);subst t;clear g f;go_enter func27,ntmps27;go_wp2;go_ret;exact⟨_,rfl,bm _ _ _ _,a5 _ _⟩
 |some m=>
  have A:Hq (∀ j u,(l.map (bz U))[j]? =Z u→w.cell? (m.add j)=Z u):=by
   intro j u d;have E:=(bn.1 d).1;obtain⟨b,V,x,_,_,y⟩:=g (by rw[List.length_map] at E;omega);cases x;rw[Cu];exact y j u d
  clear g f;go_enter func27,ntmps27;go_wp2_with (at_builtin;refine bF _ rfl _ _ 34 rfl w.heap.size 5 N (I U 0) 1 1 underlying34 C K L M rfl (by decide) _ _ _ rfl (World.ownsRow_made w #[] 0 (a1 _) (bi _) (by simp)) m l.length cap (l.map (bz U)) rfl ?qc1 ?qc2 ?qc3 ?qc4 ?qc5 ?qc6 ?_)
  case qc1=>exact H.o
  case qc2=>
   intro j u p;exact(World.cell?_alloc_lt _ _ _ (bk _ _ (A.o j u p))).trans (A.o j u p)
  case qc3=>intro u d;rw[bX] at d;obtain⟨z,_,rfl⟩:=d;rfl
  case qc4=>unfold maxLen;omega
  case qc5=>omega
  case qc6=>simp
  intro P W F B S;go_wp2;go_ret;exact⟨P,rfl,by simpa[C5] using F,((a5 _ w).alloc (a1 _) _).grown B (by simp) (by intro k D;simp[bH] at D;omega)⟩
def QX(w:aB)(q:List (List Int))(e:bE)(w':aB):Prop:=∃ v,e=.returned v∧Bk w' w.heap.size v q∧Bl w w'
def SW(v:aI)(q:List (List Int))(w:aB)(h:A6 w 0 v q)(hl:q.length≤100000)(M:∀ x∈q,x.length≤1000000):
  bh prog 129 #[v,.func (.func 27) #[] #[]] w (QX w q):=by
 obtain⟨vs,⟨ao,l,rfl,aG,aJ,V,pa⟩,L⟩:=h;obtain⟨i0,hi,av,aw,ax⟩:=bL Mz;obtain⟨ag,ad,ah,HM⟩:=H4 pa L V M;clear pa L V M;go_enter func129,ntmps129;go_wp2
 go_loopg [5,7,10] q.length (fun gg s5 _ az wr=>∃ k:Nat,k≤q.length∧q.length-k≤gg∧az=I J k∧Hq (Bl w wr∧Bk wr w.heap.size s5 (q.take k)))
 case atStart=>exact⟨0,bi _,by omega,rfl,a5 _ w,Bk.nil _ _⟩
 case round=>
  obtain⟨k,hk,H,rfl,A⟩:=hrel;by_cases s:k<q.length
  ·have an:(k:Int)<(q.length:Int):=by omega
   obtain⟨b,aL,rfl,_,F,l⟩:=ag.o (by omega);have al:k<vs.length:=by have:=ah.o;omega
   have a:vs[k]? =Z vs[k]:=bf al;have P:q[k]? =Z q[k]:=bf s;have f:=l k _ a;have R:=(ad.o k _ _ a P).below (A.o.1.mono (by omega:w.heap.size≤w.heap.size));rw[←A.o.1.cell (p:=⟨b,_,O⟩) F] at f;obtain⟨au,mu,S,_,_,_⟩:=R.open_;rw[S] at f R;obtain⟨C,am⟩:=H2 R (HM.o _ (bT s));have aF:b<wr.heap.size:=bx F A.o.1.size;clear l a P S R;generalize ap:q[k].length=nq at f C;clear ap;go_wp2_with fail;refine(Gj _ q[k] _ C.o am.o).mono ?_;rintro e w2 ⟨u2,rfl,y,n⟩;obtain⟨E,c2,rfl⟩:=Bq y;have m:=A.o.1.trans (n.mono A.o.1.size);obtain⟨ws,t,W⟩:=A.o.2.below n;have r:(q.take k).length=k:=by simp;omega
   rw[r] at t;obtain⟨d,HW,D,ac⟩:=H4 t W (y.mono A.o.1.size) m;have aq:w.heap.size≤w2.heap.size:=m.size;have B:=HH r;generalize Q:q[k].length=X at D ⊢;have aC:=HH Q;clear t W y n m r Q;go_wp2_with (at_builtin;refine bF _ rfl _ _ 35 rfl w.heap.size 34 i0 (Y O 0 0) 1 24 underlying35 hi av aw ax rfl (by decide) _ _ _ rfl (d.o.alloc _) ⟨w2.heap.size,0,O⟩ 1 1 [Y E X c2] rfl rfl ?c1 ?c2 ?c3 ?c4 ?c5 ?_)
   case c1=>
    intro j u c
    match j,c with
    |0,c=>simp at c;subst c;rw[Cu];go_simp
   case c2=>intro u a;simp at a;subst a;rfl
   case c3=>unfold maxLen;omega
   case c4=>omega
   case c5=>simp;omega
   intro v' w3 N K _;obtain⟨af,z⟩:=H2 N K;clear N K;go_wp2
   go_roundg (q.length-(k+1))
   case measure=>omega
   case rel=>
    refine⟨k+1,by omega,by omega,by go_num,(ac.o.alloc aq _).grown z.o (by simp;omega) (fun g H=>(d.o.lt g H).1),?_⟩;rw[bc s];refine Bk.snoc (q:=q.take k) (vs:=ws) (u:=Y E X c2) ?_ (fun i u x a hx=>(HW.o i u x a hx).below ((a5 _ _).alloc (a1 _) _)) (D.o.below ((a5 _ _).alloc (a1 _) _)) z.o ?_
    ·rw[B.o];exact d.o.alloc _
    ·rw[B.o];exact af.o
  ·have an:¬(k:Int)<(q.length:Int):=by omega
   go_wp2;go_ret;refine⟨_,rfl,?_,A.o.1⟩;have:=A.o.2;rwa [bK (by omega)] at this
end Go.Proofs.YtiepijihpgijbaaGreatDoor
