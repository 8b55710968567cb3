import Derived.Lib.SliceRun
import Derived.Test.YtiepijihpgijbaaGreatDoorQ17
set_option maxHeartbeats 8000000
set_option maxRecDepth 100000
set_option linter.all false
open Go.Value renaming int→I,slice→Y,pointer→G
open Go.IntKind renaming i64→J,u8→U
open Option renaming some→Z,none→O
open Go.Obj renaming cells→T
open Go.World renaming cell?_alloc_old→aB,setCell→db,frozen?→dc
open List renaming setIfInBounds_toArray→aV,replicate→a4,set_cons_zero→bD,set_cons_succ→bE,not_mem_nil→b2,mem_singleton→b5,mem_cons→ch,length_replicate→cy,take_succ_eq_append_getElem→cB,getElem?_eq_some_iff→dw,getElem?_eq_getElem→dC,getElem_replicate→dD,flatMap_append→dH,flatMap_cons→dJ,take_length→dL,flatMap_map→dM,mem_map→dP
open Go.RowKit.Below renaming refl→bl,heap_setCell→b4,heap_alloc→cj
open Go renaming World→bn,madeCells→bA,Value→b1,heap_alloc_new→b3,size_madeCells→cA,info_parts→cC,heap_setCell_same→cF,bodyPost_ret→c7,Calls→da,execOp→dE,TypeId→dI,run_make→dN,results→dO
open Go.Value.slice renaming injEq→bB
open Option.some renaming injEq→bC
open Int renaming toNat_natCast→bG,eq_ofNat_of_zero_le→ck,le_refl→cE
open Go.IntKind renaming wrap_i64→bL
open Nat renaming ne_of_lt→bY,lt_of_lt_of_le→bZ,le_refl→b0,mul_le_mul_right→cz,add_mul→cD,le_trans→dF,le_of_eq→dQ
open Go.Addr.mk renaming injEq→b6
open Go.Instr renaming makeSlice→cn
open Go.Lib renaming wpList_append_run→dG
open Go.Builtin renaming clear_→dK
namespace Go.Proofs.YtiepijihpgijbaaGreatDoor
open Go.RowKit Tryz
def FA(d:Ad)(h:Hd)(t0 t1 t2 t3 t4 t5 t6:b1)(f b:Int)(e:List Int):Array b1:=
 #[.string h.nm,I J h.per,I J h.len,I J d.mem,Y h.Bs.a d.semas.length h.Bs.c,I J d.events,I J d.boards,Y h.Bt.a d.bufs.length h.Bt.c,Y h.AB.a d.Ab.length h.AB.c,Y h.Ay.a d.procs.length h.Ay.c,
  t0,t1,t2,t3,t4,t5,t6,I U f,I J b,Y h.me.a e.length h.me.c,.bool true]
structure PB(w:bn)(D:Nat→Prop)(g:Nat)(d:Ad)(h:Hd)(t0 t1 t2 t3 t4 t5 t6:b1)(mode clock:Int)(mem:List Int):Prop where
 blk:w.heap[g]? =Z (T (FA d h t0 t1 t2 t3 t4 t5 t6 mode clock mem) 88 (0,0))
 nd:¬D g
 Bs:Am w D h.Bs.b 3 1 h.Bs.a h.Bs.c (fun w _ b o x=>Ii w b o x) d.semas
 Bt:Am w D h.Bt.b 3 1 h.Bt.a h.Bt.c (fun w _ b o x=>Ii w b o x) d.bufs
 AB:Am w D h.AB.b 62 6 h.AB.a h.AB.c (fun w _ b o x=>K4 w b o x) d.Ab
 Ay:Am w D h.Ay.b 68 5 h.Ay.a h.Ay.c K3 d.procs
 me:Am w D h.me.b 5 1 h.me.a h.me.c (fun w _ b o x=>ElB w b o x) mem
def PA.pb{w:bn}{D:Nat→Prop}{g:Nat}{d:Ad}{a:Hd}{s:Ae}(h:PA w D g d a s):∃ t0 t1 t2 t3 t4 t5 t6,PB w D g d a t0 t1 t2 t3 t4 t5 t6 s.mode s.clock s.mem:=⟨_,_,_,_,_,_,_,h.blk,h.nd,h.Bs,h.Bt,h.AB,h.Ay,h.me⟩
def Hf(g:Nat)(h:Hd):List Nat:=[g,h.Bs.b,h.Bt.b,h.AB.b,h.Ay.b,h.me.b]
section
variable {w w':bn} {D:Nat→Prop} {g:Nat} {d:Ad} {hd:Hd} {t0 t1 t2 t3 t4 t5 t6 u0 u1 u2 u3 u4 u5 u6:b1} {mode clock mode':Int} {mem:List Int}
def PB.Ga(h:PB w D g d hd t0 t1 t2 t3 t4 t5 t6 mode clock mem)(f:w.heap.size≤w'.heap.size)(i:∀ b,D b→b<w.heap.size)(c:w'.heap[g]? =Z (T (FA d hd u0 u1 u2 u3 u4 u5 u6 mode' clock mem) 88 (0,0)))(hoth:∀ b,b<w.heap.size→b≠g→w'.heap[b]? =w.heap[b]?):PB w' D g d hd u0 u1 u2 u3 u4 u5 u6 mode' clock mem:=by
 have a:Dv D g 88 w w':=⟨⟨f,fun b hd e=>hoth b e (by rintro rfl;exact h.nd hd)⟩,⟨_,_,h.blk⟩,hoth⟩;exact⟨c,h.nd,h.Bs.one C8 a (by decide),h.Bt.one C8 a (by decide),h.AB.one Fc a (by decide),h.Ay.one Fb a (by decide),h.me.one ED a (by decide)⟩
def PB.below(h:PB w D g d hd t0 t1 t2 t3 t4 t5 t6 mode clock mem)(a:Bl w w'):PB w' D g d hd t0 t1 t2 t3 t4 t5 t6 mode clock mem:=
 ⟨(a.block _ (Aa h.blk)).trans h.blk,h.nd,h.Bs.below C8 a,h.Bt.below C8 a,h.AB.below Fc a,h.Ay.below Fb a,h.me.below ED a⟩
def PB.lt(h:PB w D g d hd t0 t1 t2 t3 t4 t5 t6 mode clock mem):g<w.heap.size:=Aa h.blk
def PB.cell(h:PB w D g d hd t0 t1 t2 t3 t4 t5 t6 mode clock mem)(o:Nat):w.cell? ⟨g,o,O⟩=(FA d hd t0 t1 t2 t3 t4 t5 t6 mode clock mem)[o]?:=Cr h.blk
def PB.frozen(h:PB w D g d hd t0 t1 t2 t3 t4 t5 t6 mode clock mem)(o:Nat):w.frozen? ⟨g,o,O⟩=false:=by simp[dc,h.blk]
end
def Kd(z:Array b1)(n j:Nat)(a:j<n)(b:0<z.size):(bA z n)[j]? =z[j%z.size]?:=by
 unfold bA;rw[Array.getElem?_map,Array.getElem?_range,if_pos a];have:=Nat.mod_lt j b;simp[this]
def Am.rep{w:bn}{D:Nat→Prop}{q sz n:Nat}{t:dI}{α:Type}{El:bn→(Nat→Prop)→Nat→Nat→α→Prop}{x:α}{a:Array b1}{zc:List b1}(b:w.heap[q]? =Z (T a t (0,0)))(h:¬D q)(p:zc.length=sz)(m:0<sz)(i:n*sz≤a.size)
  (f:∀ j,j<n*sz→a[j]? =zc[j%sz]?) (e:∀ o,AN w q o zc→El w D q o x):Am w D q t sz (Z ⟨q,0,O⟩) n El (a4 n x):=
 ⟨by simp,by simp,fun _=>rfl,h,Aa b,fun _=>⟨a,b,by simpa using i⟩,fun k c=>by
  rw[cy] at c;rw[dD];refine e _ fun j u d=>?_
  have l:=(dw.1 d).1;have g:k*sz+j<n*sz:=by
   have:(k+1)*sz≤n*sz:=cz sz c;rw[cD] at this;omega
  rw[Cr b,f _ g,Nat.mul_comm,Nat.mul_add_mod,Nat.mod_eq_of_lt (by omega)];exact d⟩
def It{α:Type}{sz:Nat}{cells:α→List b1}(b:∀ x,(cells x).length=sz):∀ (l:List α) (k j:Nat) (a:k<l.length),j<sz→(l.flatMap cells)[k*sz+j]? =(cells l[k])[j]?
 | [],k,j,a,_=>by simp at a
 |x::l,0,j,_,c=>by
  rw[dJ,List.getElem?_append_left (by rw[b];omega)];simp
 |x::l,k+1,j,a,c=>by
  rw[dJ,List.getElem?_append_right (by rw[b,cD];omega),b];have:=It b l k j (by simpa using a) c;rw[show (k+1)*sz+j-sz=k*sz+j by rw[cD];omega];exact this
def Am.Bw{w:bn}{D:Nat→Prop}{B sz g0:Nat}{t:dI}{α:Type}{El:bn→(Nat→Prop)→Nat→Nat→α→Prop}{a:Option Addr}{n c:Nat}{cells:α→List b1}{l:List α}(h:w.ownsRow B t sz (Y a n c) n (l.flatMap cells))(F:l.length=n)(r:∀ x,(cells x).length=sz)(A:∀ b,B≤b→¬D b)(E:¬D g0)(m:g0<w.heap.size)
  (C:∀ b o x,x∈l→AN w b o (cells x)→El w D b o x):∃ b,(b=g0∨B≤b)∧b<w.heap.size∧Am w D b t sz a c El l:=by
 obtain⟨M,h⟩:=h;rcases h with ⟨d,L⟩|⟨q,cap,cur,d,i,e,v,_,y,z⟩
 ·simp only[bB] at d;obtain⟨rfl,_,rfl⟩:=d;refine⟨g0,.inl rfl,m,by omega,fun _=>rfl,fun h=>by omega,E,m,fun h=>by omega,fun k f=>by omega⟩
 ·simp only[bB] at d;obtain⟨rfl,_,rfl⟩:=d;have K:n*sz≤c*sz:=cz sz v;refine⟨q,.inr i,Aa e,by omega,fun h=>by(cases h),fun _=>rfl,A q i,Aa e,fun _=>⟨cur,e,by rw[F,y];exact K⟩,fun k f=>C _ _ _ (List.getElem_mem f) fun j u s=>?_⟩;have p:=(dw.1 s).1;rw[r] at p;have H:k*sz+j<n*sz:=by
   have:(k+1)*sz≤n*sz:=cz sz (by omega);rw[cD] at this;omega
  rw[Cr e];have g:=It r l k j f p;rw[←z,List.getElem?_take,if_pos H] at g;rw[←Array.getElem?_toList,g];exact s
def Gv{W:bn}{B q b bytes n:Nat}{t e:dI}{z:b1}{v:b1}{f new:List b1}(h:W.ownsRow B e b v n f)(w:prog.underlying t=Z (.slice e))(d:(prog.info? e).map (fun i=>(i.zero,i.size,i.bytes))=Z (Z z,b,bytes))(D:z.cells.size=b)(s:0<b)(l:B≤W.heap.size)(H:n≤1000)(m:bytes≤1000)
  (o:W.heap[q]? =Z (T new.toArray e (0,0))) (p:new.length=b) (k:∀ u∈new,u.oneCell'=true) (g:dI):
  ∃ a c w',(Builtin.append_ #[t,t] g #[v,Y (Z ⟨q,0,O⟩) 1 1]).run prog W=.ok (Y a (n+1) c) w'∧w'.ownsRow B e b (Y a (n+1) c) (n+1) (f++new)∧W.grownBy w' v.ownBlock:=by
 obtain⟨E,d,y,A,C⟩:=cC d;have r:∀ j u,new[j]? =Z u→W.cell? ((⟨q,0,O⟩:Addr).add j)=Z u:=by
  intro j u x;rw[Cu,cell_of_row W _ _ _ _ _ o];simpa using x
 obtain⟨K,w',F,r2,r3,_,_⟩:=run_append_own_at (P:=prog) W B t g e E z b bytes w d y A C D s v n f h ⟨q,0,O⟩ 1 1 new (by rw[p,Nat.one_mul]) r k (by unfold maxLen;omega) (by
  have:(n+1)*bytes≤1001*1000:=Nat.mul_le_mul (by omega) m;omega) l
 obtain⟨a,c,rfl⟩:=Bq r2;exact⟨a,c,w',F,r2,r3⟩
def Bp{w w':bn}{B d n:Nat}{e:dI}{v:b1}{f:List b1}(h:w.ownsRow B e d v n f)(i:∀ b,B≤b→b<w.heap.size→w'.heap[b]? =w.heap[b]?):w'.ownsRow B e d v n f:=by
 refine⟨h.1,?_⟩;rcases h.2 with g|⟨q,cap,cur,k,a,c,j⟩
 ·exact .inl g
 ·exact .inr ⟨q,cap,cur,k,a,(i q a (Aa c)).trans c,j⟩
def F8{w:bn}{B b f n:Nat}{e:dI}{v:b1}{g:List b1}(h:w.ownsRow B e f v n g)(a:v.ownBlock=Z b):B≤b∧b<w.heap.size:=by
 rcases h.2 with ⟨rfl,_⟩|⟨q,cap,cur,rfl,c,d,_⟩
 ·cases a
 ·injection a with a;have:=Aa d;show B≤b∧b<_;rw[←a];exact⟨c,this⟩
def SR:DR.toArray=#[I U 1,I J 0,I J 0,I U 0,I U 0,I U 0,I U 0,I J 0,I J (-1),I J (-1),I U 0,I J 0]:=rfl
def Vk:(prog.info? 114).map (fun i=>(i.zero,i.size,i.bytes))=Z (Z (.agg #[Y O 0 0,I J 0,.bool false]),3,40):=by kernel_rfl
def Xv(n:Nat)(f:n≤1000)(W:bn):(cn 79 (I J (n:Int)) (I J (n:Int))).run prog W=.ok (Y (Z ⟨W.heap.size,0,O⟩) n n) (W.alloc (T (bA #[Y O 0 0,I J 0,.bool false] (n*3)) 114)):=by
 obtain⟨e,a,b,c,d⟩:=cC Vk;have:=dN (P:=prog) W 79 114 e _ underlying79 a b J J n n (by omega) (cE _) (by rw[d];omega) (by omega);rw[c,bG] at this;exact this
def JC(B n:Nat)(v:b1)(w:bn):Prop:=∃ q,B≤q∧v=Y (Z ⟨q,0,O⟩) n n∧w.heap[q]? =Z (T (bA #[Y O 0 0,I J 0,.bool false] (n*3)) 114 (0,0))
def JC.AX{B n:Nat}:DO (JC B n):=fun _ _ _ ⟨q,b,c,a⟩ d=>⟨q,b,c,(d.block _ (Aa a)).trans a⟩
def Vj:(prog.info? 107).map (fun i=>(i.zero,i.size,i.bytes))=Z (Z (.agg #[Y O 0 0,Y O 0 0,I J 0]),3,56):=by kernel_rfl
def Xu(n:Nat)(f:n≤1000)(W:bn):(cn 80 (I J (n:Int)) (I J (n:Int))).run prog W=.ok (Y (Z ⟨W.heap.size,0,O⟩) n n) (W.alloc (T (bA #[Y O 0 0,Y O 0 0,I J 0] (n*3)) 107)):=by
 obtain⟨e,a,b,c,d⟩:=cC Vj;have:=dN (P:=prog) W 80 107 e _ underlying80 a b J J n n (by omega) (cE _) (by rw[d];omega) (by omega);rw[c,bG] at this;exact this
def JA(B n:Nat)(v:b1)(w:bn):Prop:=∃ q,B≤q∧v=Y (Z ⟨q,0,O⟩) n n∧w.heap[q]? =Z (T (bA #[Y O 0 0,Y O 0 0,I J 0] (n*3)) 107 (0,0))
def JA.AX{B n:Nat}:DO (JA B n):=fun _ _ _ ⟨q,b,c,a⟩ d=>⟨q,b,c,(d.block _ (Aa a)).trans a⟩
def Vf:(prog.info? 103).map (fun i=>(i.zero,i.size,i.bytes))=Z (Z (.agg #[.bool false,I U 0,Y O 0 0]),3,32):=by kernel_rfl
def Xr(n:Nat)(f:n≤1000)(W:bn):(cn 82 (I J (n:Int)) (I J (n:Int))).run prog W=.ok (Y (Z ⟨W.heap.size,0,O⟩) n n) (W.alloc (T (bA #[.bool false,I U 0,Y O 0 0] (n*3)) 103)):=by
 obtain⟨e,a,b,c,d⟩:=cC Vf;have:=dN (P:=prog) W 82 103 e _ underlying82 a b J J n n (by omega) (cE _) (by rw[d];omega) (by omega);rw[c,bG] at this;exact this
def J7(B n:Nat)(v:b1)(w:bn):Prop:=∃ q,B≤q∧v=Y (Z ⟨q,0,O⟩) n n∧w.heap[q]? =Z (T (bA #[.bool false,I U 0,Y O 0 0] (n*3)) 103 (0,0))
def J7.AX{B n:Nat}:DO (J7 B n):=fun _ _ _ ⟨q,b,c,a⟩ d=>⟨q,b,c,(d.block _ (Aa a)).trans a⟩
def Vi:(prog.info? 99).map (fun i=>(i.zero,i.size,i.bytes))=Z (Z (.agg #[.bool false,Y O 0 0]),2,32):=by kernel_rfl
def Xt(n:Nat)(f:n≤1000)(W:bn):(cn 84 (I J (n:Int)) (I J (n:Int))).run prog W=.ok (Y (Z ⟨W.heap.size,0,O⟩) n n) (W.alloc (T (bA #[.bool false,Y O 0 0] (n*2)) 99)):=by
 obtain⟨e,a,b,c,d⟩:=cC Vi;have:=dN (P:=prog) W 84 99 e _ underlying84 a b J J n n (by omega) (cE _) (by rw[d];omega) (by omega);rw[c,bG] at this;exact this
def J9(B n:Nat)(v:b1)(w:bn):Prop:=∃ q,B≤q∧v=Y (Z ⟨q,0,O⟩) n n∧w.heap[q]? =Z (T (bA #[.bool false,Y O 0 0] (n*2)) 99 (0,0))
def J9.AX{B n:Nat}:DO (J9 B n):=fun _ _ _ ⟨q,b,c,a⟩ d=>⟨q,b,c,(d.block _ (Aa a)).trans a⟩
def Vg:(prog.info? 111).map (fun i=>(i.zero,i.size,i.bytes))=Z (Z (.agg #[I J 0,Y O 0 0,Y O 0 0,Y O 0 0]),4,80):=by kernel_rfl
def Vl:(prog.info? 95).map (fun i=>(i.zero,i.size,i.bytes))=Z (Z (.agg #[I J 0,Y O 0 0]),2,32):=by kernel_rfl
def JH(B n:Nat)(v:b1)(w:bn):Prop:=∃ q cur,B≤q∧v=Y (Z ⟨q,0,O⟩) n n∧w.heap[q]? =Z (T cur.toArray 51 (0,0))∧cur.length=n*12∧G9 cur n
def JH.AX{B n:Nat}:DO (JH B n):=fun _ _ _ ⟨q,cur,b,c,a,d⟩ e=>⟨q,cur,b,c,(e.block _ (Aa a)).trans a,d⟩
def J6(B:Nat)(v:b1)(w:bn):Prop:=∃ q,B≤q∧v=Y (Z ⟨q,0,O⟩) 1 1∧w.heap[q]? =Z (T DR.toArray 51 (0,0))
def J6.AX{B:Nat}:DO (J6 B):=fun _ _ _ ⟨q,b,c,a⟩ d=>⟨q,b,c,(d.block _ (Aa a)).trans a⟩
def Ez(d:Ad)(c a:Int)(b:List Int):Ae:=Hm d c ⟨0,a,b,[],[],[],[],[],[],[]⟩
def RF(d:Ad)(a:Int)(s:Ae):Hm d a s=Ez d a s.clock s.mem:=rfl
def QT(w:bn)(D:Nat→Prop)(g:Nat)(d:Ad)(f:Hd)(i c:Int)(h:List Int)(e:Ending)(w':bn):Prop:=
 e=.returned (.tuple #[])∧(∃ a,PA w' D g d a (Ez d i c h)∧∀ b∈AL g a,b∈Hf g f∨(w.heap.size≤b∧b<w'.heap.size))∧Upd [g] w w'
def buC(n:Int):List b1:=[I J n,Y O 0 0,Y O 0 0,Y O 0 0]
def seC(n:Int):List b1:=[I J n,Y O 0 0]
def TB:EG 67:=fun _ _=>by kernel_rfl
def K9(B:Nat)(w:bn)(D:Nat→Prop)(g:Nat)(d:Ad)(s:Hd)(t0 t1 t2 t3 t4 t5 t6:b1)(bX aa:Int)(ad:List Int)(V:Int)(bm:Gl B w)(de:B≤g)(h:PB w D g d s t0 t1 t2 t3 t4 t5 t6 bX aa ad)(ok:Ik d)(hD:∀ b,D b→b<w.heap.size):
  da prog 25 #[G (Z ⟨g,0,O⟩),I U V] w (QT w D g d s V aa ad):=by
 obtain⟨m,bR⟩:∃ m:Nat,d.boards=(m:Int):=⟨d.boards.toNat,by have:=ok.boards;omega⟩;obtain⟨p,ah⟩:∃ p:Nat,d.events=(p:Int):=⟨d.events.toNat,by have:=ok.events;omega⟩;have dl:m≤8:=by have:=ok.boards;omega
 have dm:p≤8:=by have:=ok.events;omega
 have cs:=ok.procs;have dn:=ok.Ab;have dt:=ok.semas;have dv:=ok.bufs;have di:=h.lt;have c8:w.cell? ⟨g,8,O⟩=Z (Y s.AB.a d.Ab.length s.AB.c):=h.cell 8;have cg:w.cell? ⟨g,17,O⟩=Z (I U bX):=h.cell 17;have f17:w.frozen? ⟨g,17,O⟩=false:=h.frozen 17;obtain⟨H,HG,ax,bq,br,cY⟩:=H6 h bm hD bR ah ok;clear h bm hD bR ah ok;go_enter func25,ntmps25;go_upto_region 2 with (fail);clear c8 cg f17;obtain⟨r,aF⟩:=ex (w.setCell ⟨g,17,O⟩ (I U V));rw[←aF];have bk:r.heap.size=w.heap.size:=by rw[aF];simp[db]
 have bf:∀ b,b≠g→r.heap[b]? =w.heap[b]?:=fun b i=>by rw[aF];exact b4 _ _ _ _ i
 have h1:PB r D g d s t0 t1 t2 t3 t4 t5 t6 V aa ad:=H.o.Ga (dQ bk.symm) ax.o (by rw[aF,cF w g 17 _ _ _ H.o.blk];rfl) fun b _ i=>bf b i
 have bx:Hq (Upd [g] w r):=by rw[aF];exact Upd.Cc (M:=[g]) (by simp) 0 [(17,I U V)]
 have ac:Gl B r:=HG.o.BG bx.o (by intro q hq;simp only[b5] at hq;omega);have dd:=ac.hb;have df:=ac.hw;have aj:0<r.heap.size:=by omega
 have a8:g<r.heap.size:=by omega
 have c9:r.cell? ⟨g,9,O⟩=Z (Y s.Ay.a d.procs.length s.Ay.c):=h1.cell 9;have c6:r.cell? ⟨g,6,O⟩=Z (I J (m:Int)):=by rw[←bq.o];exact h1.cell 6
 have c5:r.cell? ⟨g,5,O⟩=Z (I J (p:Int)):=by rw[←br.o];exact h1.cell 5
 have cG:=qC (show r.cell? ⟨0,0,O⟩=_ from by have:=ac.BC 0 _ rfl;simpa using this) aj;have cH:=qC (show r.cell? ⟨0,1,O⟩=_ from by have:=ac.BC 1 _ rfl;simpa using this) aj;have cK:=qC (show r.cell? ⟨0,2,O⟩=_ from by have:=ac.BC 2 _ rfl;simpa using this) aj;have cL:=qC (show r.cell? ⟨0,3,O⟩=_ from by have:=ac.BC 3 _ rfl;simpa using this) aj;have cM:=qC (show r.cell? ⟨0,4,O⟩=_ from by have:=ac.BC 4 _ rfl;simpa using this) aj;have cN:=qC (show r.cell? ⟨0,5,O⟩=_ from by have:=ac.BC 5 _ rfl;simpa using this) aj;have cO:=qC (show r.cell? ⟨0,6,O⟩=_ from by have:=ac.BC 6 _ rfl;simpa using this) aj;have cP:=qC (show r.cell? ⟨0,7,O⟩=_ from by have:=ac.BC 7 _ rfl;simpa using this) aj;have cQ:=qC (show r.cell? ⟨0,8,O⟩=_ from by have:=ac.BC 8 _ rfl;simpa using this) aj;have cR:=qC (show r.cell? ⟨0,9,O⟩=_ from by have:=ac.BC 9 _ rfl;simpa using this) aj;have cI:=qC (show r.cell? ⟨0,10,O⟩=_ from by have:=ac.BC 10 _ rfl;simpa using this) aj;have cJ:=qC (show r.cell? ⟨0,11,O⟩=_ from by have:=ac.BC 11 _ rfl;simpa using this) aj;have cU:=qC c9 a8;have cT:=qC c6 a8;have cS:=qC c5 a8;obtain⟨H1,cX,bt⟩:=H3 h1 bf bk;clear h1 ac c9 c6 c5 bf bk aF HG;refine AS 30 [29] [] [(2,J6 r.heap.size),(9,JH r.heap.size d.procs.length),(11,JC r.heap.size d.Ab.length),(13,JA r.heap.size d.Ab.length),(19,J7 r.heap.size m),(25,J9 r.heap.size p)] ⟨J6.AX,JH.AX,JC.AX,JA.AX,J7.AX,J9.AX,trivial⟩ ?_
 iterate 2 (refine An rfl rfl rfl ?_;intro K hK;go_big_quiet_op;go_big_quiet_on)
 refine A9 rfl rfl (fun w' i hA=>?_) ?_
 ·exact Bn (v:=Y (Z ⟨w'.heap.size,0,O⟩) 1 1) (w':=w'.alloc (T DR.toArray 51)) (by rw[SR];simp[dE,go_sem]) ⟨(bl _ _).alloc (b0 _) _,⟨w'.heap.size,i.size,rfl,b3 _ _⟩⟩
 intro v w' i hv;obtain⟨qd,hq,rfl,an⟩:=hv;clear i hq an w';simp only[Au,aV,bE,bD]
 iterate 6 (refine An rfl rfl rfl ?_;intro K hK;go_big_quiet_op;go_big_quiet_on)
 refine A9 rfl rfl (fun w' i hA=>?_) ?_
 ·have s:=hA 2 _ rfl (.base (by kernel_rfl));obtain⟨q',_,bF,cl⟩:=(show J6 r.heap.size (Y (Z ⟨qd,0,O⟩) 1 1) w' from s);simp only[bB,bC,b6,and_true,true_and] at bF;subst bF;refine AD (f:=67) (al:=[Y (Z ⟨qd,0,O⟩) 1 1,I J d.procs.length]) rfl rfl rfl TB ?_;exact(Y0 qd d.procs.length w' cl cs).mono fun e w2 h=>by
   obtain⟨he,⟨cur,k1,k2,k3⟩,a6⟩:=h;exact⟨_,he,a6,_,cur,i.size,rfl,k1,k2,k3⟩
 intro v w' i hv;obtain⟨L,aK,hq,rfl,an⟩:=hv;clear i hq an aK w';simp only[Au,aV,bE,bD]
 iterate 1 (refine An rfl rfl rfl ?_;intro K hK;go_big_quiet_op;go_big_quiet_on)
 refine A9 rfl rfl (fun w' i hA=>?_) ?_
 ·exact Bn (v:=Y (Z ⟨w'.heap.size,0,O⟩) d.Ab.length d.Ab.length) (w':=w'.alloc (T (bA #[Y O 0 0,I J 0,.bool false] (d.Ab.length*3)) 114)) (by simp[dE,go_sem,Xv d.Ab.length (by omega) w']) ⟨(bl _ _).alloc (b0 _) _,⟨w'.heap.size,i.size,rfl,b3 _ _⟩⟩
 intro v w' i hv;obtain⟨P,hq,rfl,an⟩:=hv;clear i hq an w';simp only[Au,aV,bE,bD]
 iterate 1 (refine An rfl rfl rfl ?_;intro K hK;go_big_quiet_op;go_big_quiet_on)
 refine A9 rfl rfl (fun w' i hA=>?_) ?_
 ·exact Bn (v:=Y (Z ⟨w'.heap.size,0,O⟩) d.Ab.length d.Ab.length) (w':=w'.alloc (T (bA #[Y O 0 0,Y O 0 0,I J 0] (d.Ab.length*3)) 107)) (by simp[dE,go_sem,Xu d.Ab.length (by omega) w']) ⟨(bl _ _).alloc (b0 _) _,⟨w'.heap.size,i.size,rfl,b3 _ _⟩⟩
 intro v w' i hv;obtain⟨N,hq,rfl,an⟩:=hv;clear i hq an w';simp only[Au,aV,bE,bD]
 iterate 5 (refine An rfl rfl rfl ?_;intro K hK;go_big_quiet_op;go_big_quiet_on)
 refine A9 rfl rfl (fun w' i hA=>?_) ?_
 ·exact Bn (v:=Y (Z ⟨w'.heap.size,0,O⟩) m m) (w':=w'.alloc (T (bA #[.bool false,I U 0,Y O 0 0] (m*3)) 103)) (by simp[dE,go_sem,Xr m (by omega) w']) ⟨(bl _ _).alloc (b0 _) _,⟨w'.heap.size,i.size,rfl,b3 _ _⟩⟩
 intro v w' i hv;obtain⟨E,hq,rfl,an⟩:=hv;clear i hq an w';simp only[Au,aV,bE,bD]
 iterate 5 (refine An rfl rfl rfl ?_;intro K hK;go_big_quiet_op;go_big_quiet_on)
 refine A9 rfl rfl (fun w' i hA=>?_) ?_
 ·exact Bn (v:=Y (Z ⟨w'.heap.size,0,O⟩) p p) (w':=w'.alloc (T (bA #[.bool false,Y O 0 0] (p*2)) 99)) (by simp[dE,go_sem,Xt p (by omega) w']) ⟨(bl _ _).alloc (b0 _) _,⟨w'.heap.size,i.size,rfl,b3 _ _⟩⟩
 intro v w' i hv;obtain⟨F,hq,rfl,an⟩:=hv;clear i hq an w';simp only[Au,aV,bE,bD]
 iterate 3 (refine An rfl rfl rfl ?_;intro K hK;go_big_quiet_op;go_big_quiet_on)
 refine AH rfl ?_;refine AR ?_;intro Q aX aH;obtain⟨dB,be,e,bQ⟩:JC r.heap.size d.Ab.length (Y (Z ⟨P,0,O⟩) d.Ab.length d.Ab.length) Q:=aH 11 _ (by decide) rfl;simp only[bB,bC,b6,and_true,true_and] at e;subst e;obtain⟨dA,bd,e,bP⟩:JA r.heap.size d.Ab.length (Y (Z ⟨N,0,O⟩) d.Ab.length d.Ab.length) Q:=aH 13 _ (by decide) rfl;simp only[bB,bC,b6,and_true,true_and] at e;subst e;obtain⟨dx,a9,e,bM⟩:J7 r.heap.size m (Y (Z ⟨E,0,O⟩) m m) Q:=aH 19 _ (by decide) rfl;simp only[bB,bC,b6,and_true,true_and] at e;subst e;obtain⟨dy,ba,e,bN⟩:J9 r.heap.size p (Y (Z ⟨F,0,O⟩) p p) Q:=aH 25 _ (by decide) rfl;simp only[bB,bC,b6,and_true,true_and] at e;subst e;obtain⟨dz,aK,bc,e,bO,bH,bI⟩:JH r.heap.size d.procs.length (Y (Z ⟨L,0,O⟩) d.procs.length d.procs.length) Q:=aH 9 _ (by decide) rfl;simp only[bB,bC,b6,and_true,true_and] at e;subst e;have S:=H1.o.below aX;have z0:Q.cell? ⟨g,10,O⟩=Z t0:=S.cell 10;have f0:Q.frozen? ⟨g,10,O⟩=false:=S.frozen 10;have z1:Q.cell? ⟨g,11,O⟩=Z t1:=S.cell 11;have f1:Q.frozen? ⟨g,11,O⟩=false:=S.frozen 11;have z2:Q.cell? ⟨g,12,O⟩=Z t2:=S.cell 12;have f2:Q.frozen? ⟨g,12,O⟩=false:=S.frozen 12;have z3:Q.cell? ⟨g,13,O⟩=Z t3:=S.cell 13;have f3:Q.frozen? ⟨g,13,O⟩=false:=S.frozen 13;have z4:Q.cell? ⟨g,14,O⟩=Z t4:=S.cell 14;have f4:Q.frozen? ⟨g,14,O⟩=false:=S.frozen 14;have z5:Q.cell? ⟨g,15,O⟩=Z t5:=S.cell 15;have f5:Q.frozen? ⟨g,15,O⟩=false:=S.frozen 15;have z6:Q.cell? ⟨g,16,O⟩=Z t6:=S.cell 16;have f6:Q.frozen? ⟨g,16,O⟩=false:=S.frozen 16;obtain⟨z,a5⟩:=ex (((((((Q.setCell ⟨g,10,O⟩ (Y (Z ⟨L,0,O⟩) d.procs.length d.procs.length)).setCell ⟨g,11,O⟩ (Y (Z ⟨P,0,O⟩) d.Ab.length d.Ab.length)).setCell ⟨g,12,O⟩ (Y (Z ⟨N,0,O⟩) d.Ab.length d.Ab.length)).setCell ⟨g,13,O⟩ (Y O 0 0)).setCell ⟨g,14,O⟩ (Y (Z ⟨E,0,O⟩) m m)).setCell ⟨g,15,O⟩ (Y O 0 0)).setCell ⟨g,16,O⟩ (Y (Z ⟨F,0,O⟩) p p));refine AI (w':=z) (by rw[a5];simp[dE,go_sem,z0,f0,z1,f1,z2,f2,z3,f3,z4,f4,z5,f5,z6,f6]) ?_;unfold A7;have ay:z=setsAt Q g 0 [(10,Y (Z ⟨L,0,O⟩) d.procs.length d.procs.length),(11,Y (Z ⟨P,0,O⟩) d.Ab.length d.Ab.length),(12,Y (Z ⟨N,0,O⟩) d.Ab.length d.Ab.length),(13,Y O 0 0),(14,Y (Z ⟨E,0,O⟩) m m),(15,Y O 0 0),(16,Y (Z ⟨F,0,O⟩) p p)]:=a5;have aY:z.heap.size=Q.heap.size:=by rw[ay,BO]
 have aw:∀ b,b≠g→z.heap[b]? =Q.heap[b]?:=fun b i=>by rw[ay,AU i]
 have bJ:z.heap[g]? =Z (T (FA d s (Y (Z ⟨L,0,O⟩) d.procs.length d.procs.length) (Y (Z ⟨P,0,O⟩) d.Ab.length d.Ab.length) (Y (Z ⟨N,0,O⟩) d.Ab.length d.Ab.length) (Y O 0 0) (Y (Z ⟨E,0,O⟩) m m) (Y O 0 0) (Y (Z ⟨F,0,O⟩) p p) V aa ad) 88 (0,0)):=by
  rw[ay];have hh:=Di [(10,Y (Z ⟨L,0,O⟩) d.procs.length d.procs.length),(11,Y (Z ⟨P,0,O⟩) d.Ab.length d.Ab.length),(12,Y (Z ⟨N,0,O⟩) d.Ab.length d.Ab.length),(13,Y O 0 0),(14,Y (Z ⟨E,0,O⟩) m m),(15,Y O 0 0),(16,Y (Z ⟨F,0,O⟩) p p)] S.blk;simp only[Er,FA,aV,bE,bD] at hh;exact hh
 have cu:=aX.size;have aW:Hq (PB z D g d s (Y (Z ⟨L,0,O⟩) d.procs.length d.procs.length) (Y (Z ⟨P,0,O⟩) d.Ab.length d.Ab.length) (Y (Z ⟨N,0,O⟩) d.Ab.length d.Ab.length) (Y O 0 0) (Y (Z ⟨E,0,O⟩) m m) (Y O 0 0) (Y (Z ⟨F,0,O⟩) p p) V aa ad):=S.Ga (dQ aY.symm) (fun b i=>by have:=ax.o b i;have:=bt.o;omega) bJ fun b _ i=>aw b i
 have bz:Hq (Upd [g] w z):=by
  have y:=bx.o.trans (Upd.below aX);refine⟨?_,?_,?_,?_,fun j hj hn=>?_⟩
  ·rw[ay,(Be _ _).1];exact y.os
  ·rw[ay,(Be _ _).2.1];exact y.tape
  ·rw[ay,(Be _ _).2.2];exact y.output
  ·rw[aY];exact y.size
  ·rw[aw j (by simpa using hn)];exact y.block j hj hn
 have aP:∀ q,r.heap.size≤q→q≠g:=fun q hq=>by omega
 have HK:Hq (z.heap[L]? =Z (T aK.toArray 51 (0,0))∧aK.length=d.procs.length*12∧G9 aK d.procs.length∧r.heap.size≤L):=⟨(aw _ (aP _ bc)).trans bO,bH,bI,bc⟩;have ca:Hq (z.heap[P]? =Z (T (bA #[Y O 0 0,I J 0,.bool false] (d.Ab.length*3)) 114 (0,0))∧r.heap.size≤P):=⟨(aw _ (aP _ be)).trans bQ,be⟩;have b9:Hq (z.heap[N]? =Z (T (bA #[Y O 0 0,Y O 0 0,I J 0] (d.Ab.length*3)) 107 (0,0))∧r.heap.size≤N):=⟨(aw _ (aP _ bd)).trans bP,bd⟩;have b7:Hq (z.heap[E]? =Z (T (bA #[.bool false,I U 0,Y O 0 0] (m*3)) 103 (0,0))∧r.heap.size≤E):=⟨(aw _ (aP _ a9)).trans bM,a9⟩;have b8:Hq (z.heap[F]? =Z (T (bA #[.bool false,Y O 0 0] (p*2)) 99 (0,0))∧r.heap.size≤F):=⟨(aw _ (aP _ ba)).trans bN,ba⟩;have dj:g<z.heap.size:=by rw[aY];omega
 have aI:Hq (w.heap.size≤z.heap.size):=bz.o.size;clear a5 ay aY aw bJ S aX aH cu z0 f0 z1 f1 z2 f2 z3 f3 z4 f4 z5 f5 z6 f6 cG cH cK cL cM cN cO cP cQ cR cI cJ cU cT cS bc bO bH bI be bQ bd bP a9 bM ba bN;have cd:z.cell? ⟨g,7,O⟩=Z (Y s.Bt.a d.bufs.length s.Bt.c):=aW.o.cell 7;go_upto_region 4 with (fail);clear cd
 go_loopw [6,54] (fun _ v wr=>∃ k:Nat,k≤d.bufs.length∧v=I J k∧(∃ a c,Hq (wr.heap[g]? =Z (T (FA d s (Y (Z ⟨L,0,O⟩) d.procs.length d.procs.length) (Y (Z ⟨P,0,O⟩) d.Ab.length d.Ab.length) (Y (Z ⟨N,0,O⟩) d.Ab.length d.Ab.length) ((Y a k c)) (Y (Z ⟨E,0,O⟩) m m) (Y O 0 0) (Y (Z ⟨F,0,O⟩) p p) V aa ad) 88 (0,0))∧wr.ownsRow z.heap.size 111 4 (Y a k c) k ((d.bufs.take k).flatMap buC)∧Upd [g] z wr))) (fun _ v _=>d.bufs.length-(intOf v).toNat)
 case atStart=>exact⟨0,Nat.zero_le _,rfl,O,0,aW.o.blk,⟨by simp,.inl ⟨rfl,rfl⟩⟩,Upd.refl _ _⟩
 case round=>
  obtain⟨k,cq,rfl,a,c,A⟩:=hrel;by_cases hk:k<d.bufs.length
  ·have cr:(k:Int)<(d.bufs.length:Int):=by omega
   obtain⟨az,ho,y⟩:=A.o;have cw:=y.size;have C:PB wr D g d s (Y (Z ⟨L,0,O⟩) d.procs.length d.procs.length) (Y (Z ⟨P,0,O⟩) d.Ab.length d.Ab.length) (Y (Z ⟨N,0,O⟩) d.Ab.length d.Ab.length) ((Y a k c)) (Y (Z ⟨E,0,O⟩) m m) (Y O 0 0) (Y (Z ⟨F,0,O⟩) p p) V aa ad:=aW.o.Ga y.size (fun b i=>by have:=ax.o b i;have:=aI.o;omega) az fun b hl ah=>y.block b hl (by simp[ah]);have ci:=C.Bt.cap;have aR:=C.Bt.ptr (by omega);have ce:wr.cell? ⟨s.Bt.b,k,O⟩=Z (I J d.bufs[k]):=by
    have:=C.Bt.el k hk 0 _ rfl;simpa using this
   obtain⟨x,hx⟩:=ex (d.bufs[k]);rw[←hx] at ce;rw[aR];obtain⟨X,c2,R,aT,aQ,ag⟩:=Gv (W:=wr.alloc (T (buC x).toArray 111)) (q:=wr.heap.size) (new:=buC x) (Bp ho fun b _ i=>cj _ _ _ i) underlying81 Vg rfl (by decide) (by simp;omega) (by omega) (by decide) (b3 _ _) rfl (by intro u y;simp only[buC,ch,b2,or_false] at y;rcases y with rfl|rfl|rfl|rfl<;>rfl) 81;have cZ:wr.cell? ⟨g,13,O⟩=Z (Y a k c):=C.cell 13;have cx:∀ ob,(wr.alloc ob).cell? ⟨g,13,O⟩=Z (Y a k c):=fun ob=>by
    rw[aB _ _ _ (bY C.lt)];exact C.cell 13
   have aO:=fun b=>F8 (b:=b) ho;have cp:g<wr.heap.size:=C.lt;have aC:∀ b,b<z.heap.size→R.heap[b]? =wr.heap[b]?:=fun b i=>(ag.block b (by simp;omega) (fun e=>by have:=(aO b e.symm).1;omega)).trans (cj _ _ _ (by omega));have cv:wr.heap.size+1≤R.heap.size:=by have:=ag.size;simpa using this
   have ar:=(aC g (by omega)).trans az;have f13:R.frozen? ⟨g,13,O⟩=false:=by simp[dc,ar]
   have c1:R.cell? ⟨g,13,O⟩=Z (Y a k c):=(Cr ar).trans rfl;have aL:(d.bufs.take (k+1)).flatMap buC=(d.bufs.take k).flatMap buC++buC x:=by
    rw[cB hk,dH,hx];simp
   have aU:(R.setCell ⟨g,13,O⟩ (Y X (k+1) c2)).heap.size=R.heap.size:=by simp[db]
   have HN:Hq ((R.setCell ⟨g,13,O⟩ (Y X (k+1) c2)).heap[g]? =Z (T (FA d s (Y (Z ⟨L,0,O⟩) d.procs.length d.procs.length) (Y (Z ⟨P,0,O⟩) d.Ab.length d.Ab.length) (Y (Z ⟨N,0,O⟩) d.Ab.length d.Ab.length) ((Y X (k+1) c2)) (Y (Z ⟨E,0,O⟩) m m) (Y O 0 0) (Y (Z ⟨F,0,O⟩) p p) V aa ad) 88 (0,0))∧(R.setCell ⟨g,13,O⟩ (Y X (k+1) c2)).ownsRow z.heap.size 111 4 (Y X (k+1) c2) (k+1) ((d.bufs.take (k+1)).flatMap buC)∧Upd [g] z (R.setCell ⟨g,13,O⟩ (Y X (k+1) c2))):=by
    refine⟨by rw[cF R g 13 _ _ _ ar];rfl,?_,?_⟩
    ·rw[aL];exact Bp aQ fun b i _=>b4 _ _ _ _ (fun e=>by have e2:b=g:=e;omega)
    ·exact⟨ag.os.trans y.os,ag.tape.trans y.tape,ag.output.trans y.output,by rw[aU];omega,fun b i hn=>(b4 _ _ _ _ (by simpa using hn)).trans ((aC b i).trans (y.block b i hn))⟩
   have a0:=HH aT;clear C ho y az ar aQ ag aT A aO aC hx aL aR aU;go_wp2_with (at_builtin;refine dG _ rfl _ _ _ _ rfl _ _ rfl rfl _ _ a0.o ?_)
   go_roundw
   case rel=>exact⟨k+1,by omega,by go_num,X,c2,HN.o⟩
   case measure=>simp[intOf];omega
  ·obtain rfl:k=d.bufs.length:=by omega
   obtain⟨bK,bU,aG⟩:=A.o;obtain⟨W3,rfl⟩:=ex wr;obtain⟨ab,rfl⟩:=ex a;obtain⟨cb,rfl⟩:=ex c;have aD:Hq (PB W3 D g d s (Y (Z ⟨L,0,O⟩) d.procs.length d.procs.length) (Y (Z ⟨P,0,O⟩) d.Ab.length d.Ab.length) (Y (Z ⟨N,0,O⟩) d.Ab.length d.Ab.length) (Y ab d.bufs.length cb) (Y (Z ⟨E,0,O⟩) m m) (Y O 0 0) (Y (Z ⟨F,0,O⟩) p p) V aa ad):=aW.o.Ga aG.size (fun b i=>by have:=ax.o b i;have:=aI.o;omega) bK fun b hl ah=>aG.block b hl (by simp[ah]);obtain⟨cc,a1⟩:=H2 bU aG;have bw:=aI;replace aI:Hq (w.heap.size≤W3.heap.size):=dF bw.o aG.size;have dk:g<W3.heap.size:=aD.o.lt;have ds:z.heap.size≤W3.heap.size:=aG.size;have c4:W3.cell? ⟨g,4,O⟩=Z (Y s.Bs.a d.semas.length s.Bs.c):=aD.o.cell 4;clear bK bU aG A;go_upto_region 9 with (fail);clear c4;have cd:W3.cell? ⟨g,4,O⟩=Z (Y s.Bs.a d.semas.length s.Bs.c):=aD.o.cell 4;clear cd
   go_loopw [8,78] (fun _ v wr=>∃ k:Nat,k≤d.semas.length∧v=I J k∧(∃ a c,Hq (wr.heap[g]? =Z (T (FA d s (Y (Z ⟨L,0,O⟩) d.procs.length d.procs.length) (Y (Z ⟨P,0,O⟩) d.Ab.length d.Ab.length) (Y (Z ⟨N,0,O⟩) d.Ab.length d.Ab.length) (Y ab d.bufs.length cb) (Y (Z ⟨E,0,O⟩) m m) ((Y a k c)) (Y (Z ⟨F,0,O⟩) p p) V aa ad) 88 (0,0))∧wr.ownsRow W3.heap.size 95 2 (Y a k c) k ((d.semas.take k).flatMap seC)∧Upd [g] W3 wr))) (fun _ v _=>d.semas.length-(intOf v).toNat)
   case atStart=>exact⟨0,Nat.zero_le _,rfl,O,0,aD.o.blk,⟨by simp,.inl ⟨rfl,rfl⟩⟩,Upd.refl _ _⟩
   case round=>
    obtain⟨k,cq,rfl,a,c,A⟩:=hrel;by_cases hk:k<d.semas.length
    ·have cr:(k:Int)<(d.semas.length:Int):=by omega
     obtain⟨az,ho,y⟩:=A.o;have cw:=y.size;have C:PB wr D g d s (Y (Z ⟨L,0,O⟩) d.procs.length d.procs.length) (Y (Z ⟨P,0,O⟩) d.Ab.length d.Ab.length) (Y (Z ⟨N,0,O⟩) d.Ab.length d.Ab.length) (Y ab d.bufs.length cb) (Y (Z ⟨E,0,O⟩) m m) ((Y a k c)) (Y (Z ⟨F,0,O⟩) p p) V aa ad:=aD.o.Ga y.size (fun b i=>by have:=ax.o b i;have:=aI.o;omega) az fun b hl ah=>y.block b hl (by simp[ah]);have ci:=C.Bs.cap;have aR:=C.Bs.ptr (by omega);have ce:wr.cell? ⟨s.Bs.b,k,O⟩=Z (I J d.semas[k]):=by
      have:=C.Bs.el k hk 0 _ rfl;simpa using this
     obtain⟨x,hx⟩:=ex (d.semas[k]);rw[←hx] at ce;rw[aR];obtain⟨X,c2,R,aT,aQ,ag⟩:=Gv (W:=wr.alloc (T (seC x).toArray 95)) (q:=wr.heap.size) (new:=seC x) (Bp ho fun b _ i=>cj _ _ _ i) underlying83 Vl rfl (by decide) (by simp;omega) (by omega) (by decide) (b3 _ _) rfl (by intro u y;simp only[seC,ch,b2,or_false] at y;rcases y with rfl|rfl<;>rfl) 83;have c0:wr.cell? ⟨g,15,O⟩=Z (Y a k c):=C.cell 15;have cx:∀ ob,(wr.alloc ob).cell? ⟨g,15,O⟩=Z (Y a k c):=fun ob=>by
      rw[aB _ _ _ (bY C.lt)];exact C.cell 15
     have aO:=fun b=>F8 (b:=b) ho;have cp:g<wr.heap.size:=C.lt;have aC:∀ b,b<W3.heap.size→R.heap[b]? =wr.heap[b]?:=fun b i=>(ag.block b (by simp;omega) (fun e=>by have:=(aO b e.symm).1;omega)).trans (cj _ _ _ (by omega));have cv:wr.heap.size+1≤R.heap.size:=by have:=ag.size;simpa using this
     have ar:=(aC g (by omega)).trans az;have f15:R.frozen? ⟨g,15,O⟩=false:=by simp[dc,ar]
     have c3:R.cell? ⟨g,15,O⟩=Z (Y a k c):=(Cr ar).trans rfl;have aL:(d.semas.take (k+1)).flatMap seC=(d.semas.take k).flatMap seC++seC x:=by
      rw[cB hk,dH,hx];simp
     have aU:(R.setCell ⟨g,15,O⟩ (Y X (k+1) c2)).heap.size=R.heap.size:=by simp[db]
     have HN:Hq ((R.setCell ⟨g,15,O⟩ (Y X (k+1) c2)).heap[g]? =Z (T (FA d s (Y (Z ⟨L,0,O⟩) d.procs.length d.procs.length) (Y (Z ⟨P,0,O⟩) d.Ab.length d.Ab.length) (Y (Z ⟨N,0,O⟩) d.Ab.length d.Ab.length) (Y ab d.bufs.length cb) (Y (Z ⟨E,0,O⟩) m m) ((Y X (k+1) c2)) (Y (Z ⟨F,0,O⟩) p p) V aa ad) 88 (0,0))∧(R.setCell ⟨g,15,O⟩ (Y X (k+1) c2)).ownsRow W3.heap.size 95 2 (Y X (k+1) c2) (k+1) ((d.semas.take (k+1)).flatMap seC)∧Upd [g] W3 (R.setCell ⟨g,15,O⟩ (Y X (k+1) c2))):=by
      refine⟨by rw[cF R g 15 _ _ _ ar];rfl,?_,?_⟩
      ·rw[aL];exact Bp aQ fun b i _=>b4 _ _ _ _ (fun e=>by have e2:b=g:=e;omega)
      ·exact⟨ag.os.trans y.os,ag.tape.trans y.tape,ag.output.trans y.output,by rw[aU];omega,fun b i hn=>(b4 _ _ _ _ (by simpa using hn)).trans ((aC b i).trans (y.block b i hn))⟩
     have a0:=HH aT;clear C ho y az ar aQ ag aT A aO aC hx aL aR aU;go_wp2_with (at_builtin;refine dG _ rfl _ _ _ _ rfl _ _ rfl rfl _ _ a0.o ?_)
     go_roundw
     case rel=>exact⟨k+1,by omega,by go_num,X,c2,HN.o⟩
     case measure=>simp[intOf];omega
    ·obtain rfl:k=d.semas.length:=by omega
     obtain⟨aN,bV,bW⟩:=A.o;obtain⟨bp,cf,aJ⟩:=H3 aN bV bW;clear aN bV bW A;go_wp2_with fail
     go_end0
     have ct:=aJ.o.size;have dr:=a1.o.size;have dq:=bw.o;have dp:=bt.o;have bS:d.boards.toNat=m:=by rw[bq.o];rfl
     have bT:d.events.toNat=p:=by rw[br.o];rfl
     have aA:∀ b,w.heap.size≤b→¬D b:=fun b i s=>by have:=ax.o b s;omega
     have a7:¬D g:=H.o.nd;have aN:g<wr.heap.size:=by omega
     obtain⟨bb,a6,dh,cV⟩:=Am.Bw (w:=wr) (D:=D) (g0:=g) (El:=ElBu) (cells:=fun x:AT=>buC x.depth) (l:=d.bufs.map fun n=>⟨n,[],[],[]⟩) (B:=z.heap.size) (a:=ab) (n:=d.bufs.length) (c:=cb) (t:=111) (sz:=4) (by
      have h:=Bp (w':=wr) cc.o fun b i hl=>aJ.o.block b hl (by simp only[b5];omega);rw[dL] at h;rw[dM];exact h) (by simp) (fun _=>rfl) (fun b i=>aA b (by omega)) a7 aN (fun b o x hx hc=>by
      simp only[dP] at hx;obtain⟨n,_,rfl⟩:=hx;exact⟨_,_,_,hc,A4.nil,Bm.nil,Bm.nil⟩)
     obtain⟨bs,cm,du,cW⟩:=Am.Bw (w:=wr) (D:=D) (g0:=g) (El:=ElSe) (cells:=fun x:BU=>seC x.count) (l:=d.semas.map fun n=>⟨n,[]⟩) (B:=W3.heap.size) (a:=a) (n:=d.semas.length) (c:=c) (t:=95) (sz:=2) (by
      have h:=cf.o;rw[dL] at h;rw[dM];exact h) (by simp) (fun _=>rfl) (fun b i=>aA b (by omega)) a7 aN (fun b o x hx hc=>by
      simp only[dP] at hx;obtain⟨n,_,rfl⟩:=hx;exact⟨_,hc,Bm.nil⟩)
     have hk:∀ b,b<z.heap.size→b≠g→wr.heap[b]? =z.heap[b]?:=fun b i ah=>(aJ.o.block b (by omega) (by simpa using ah)).trans (a1.o.block b i (by simpa using ah));have C:PB wr D g d s (Y (Z ⟨L,0,O⟩) d.procs.length d.procs.length) (Y (Z ⟨P,0,O⟩) d.Ab.length d.Ab.length) (Y (Z ⟨N,0,O⟩) d.Ab.length d.Ab.length) (Y ab d.bufs.length cb) (Y (Z ⟨E,0,O⟩) m m) (Y a d.semas.length c) (Y (Z ⟨F,0,O⟩) p p) V aa ad:=aD.o.Ga ct (fun b i=>by have:=ax.o b i;omega) bp.o fun b hl ah=>aJ.o.block b hl (by simpa using ah);have ec:FA d s (Y (Z ⟨L,0,O⟩) d.procs.length d.procs.length) (Y (Z ⟨P,0,O⟩) d.Ab.length d.Ab.length) (Y (Z ⟨N,0,O⟩) d.Ab.length d.Ab.length) (Y ab d.bufs.length cb) (Y (Z ⟨E,0,O⟩) m m) (Y a d.semas.length c) (Y (Z ⟨F,0,O⟩) p p) V aa ad=CR d {s with pr:=⟨Z ⟨L,0,O⟩,d.procs.length,L⟩,sa:=⟨Z ⟨P,0,O⟩,d.Ab.length,P⟩,qu:=⟨Z ⟨N,0,O⟩,d.Ab.length,N⟩,bu:=⟨ab,cb,bb⟩,bo:=⟨Z ⟨E,0,O⟩,m,E⟩,se:=⟨a,c,bs⟩,ev:=⟨Z ⟨F,0,O⟩,p,F⟩} (Ez d V aa ad):=by
      simp only[FA,CR,Ez,Hm,cy,List.length_map,bS,bT]
     have aS:=HK.o;have bg:=ca.o;have bh:=b9.o;have bi:=b7.o;have bj:=b8.o;have e0:=aS.2.2.2;have e1:=bg.2;have e2:=bh.2;have e3:=bi.2;have e4:=bj.2;have l0:=Aa aS.1;have l1:=Aa bg.1;have l2:=Aa bh.1;have l3:=Aa bi.1;have l4:=Aa bj.1;refine⟨rfl,⟨{s with pr:=⟨Z ⟨L,0,O⟩,d.procs.length,L⟩,sa:=⟨Z ⟨P,0,O⟩,d.Ab.length,P⟩,qu:=⟨Z ⟨N,0,O⟩,d.Ab.length,N⟩,bu:=⟨ab,cb,bb⟩,bo:=⟨Z ⟨E,0,O⟩,m,E⟩,se:=⟨a,c,bs⟩,ev:=⟨Z ⟨F,0,O⟩,p,F⟩},⟨?_,a7,C.Bs,C.Bt,C.AB,C.Ay,?_,?_,?_,cV,?_,cW,?_,C.me⟩,?_⟩,bz.o.trans (a1.o.trans aJ.o)⟩
     ·rw[←ec];exact bp.o
     ·show Am wr D L 51 12 (Z ⟨L,0,O⟩) d.procs.length (fun w _ b o x=>ElPr w b o x) (a4 d.procs.length EU);refine Am.rep (zc:=DR) ((hk _ l0 (by omega)).trans aS.1) (aA _ (by omega)) rfl (by decide) (by simp[aS.2.1]) (fun j hj=>?_) fun o hc=>⟨0,0,0,0,rfl,hc⟩;simpa using aS.2.2.1 j hj
     ·show Am wr D P 114 3 (Z ⟨P,0,O⟩) d.Ab.length ElSa (a4 d.Ab.length ⟨[],0,false⟩);refine Am.rep (zc:=[Y O 0 0,I J 0,.bool false]) ((hk _ l1 (by omega)).trans bg.1) (aA _ (by omega)) rfl (by decide) (by simp[cA]) (fun j hj=>?_) fun o hc=>⟨_,hc,A4.nil⟩;rw[Kd _ _ _ hj (by decide)];simp
     ·show Am wr D N 107 3 (Z ⟨N,0,O⟩) d.Ab.length ElQu (a4 d.Ab.length ⟨[],[],0⟩);refine Am.rep (zc:=[Y O 0 0,Y O 0 0,I J 0]) ((hk _ l2 (by omega)).trans bh.1) (aA _ (by omega)) rfl (by decide) (by simp[cA]) (fun j hj=>?_) fun o hc=>⟨_,_,hc,BS.nil,Bm.nil⟩;rw[Kd _ _ _ hj (by decide)];simp
     ·show Am wr D E 103 3 (Z ⟨E,0,O⟩) m ElBo (a4 d.boards.toNat ⟨false,0,[]⟩);rw[bS];refine Am.rep (zc:=[.bool false,I U 0,Y O 0 0]) ((hk _ l3 (by omega)).trans bi.1) (aA _ (by omega)) rfl (by decide) (by simp[cA]) (fun j hj=>?_) fun o hc=>⟨_,hc,Bm.nil⟩;rw[Kd _ _ _ hj (by decide)];simp
     ·show Am wr D F 99 2 (Z ⟨F,0,O⟩) p ElEv (a4 d.events.toNat ⟨false,[]⟩);rw[bT];refine Am.rep (zc:=[.bool false,Y O 0 0]) ((hk _ l4 (by omega)).trans bj.1) (aA _ (by omega)) rfl (by decide) (by simp[cA]) (fun j hj=>?_) fun o hc=>⟨_,hc,Bm.nil⟩;rw[Kd _ _ _ hj (by decide)];simp
     ·intro b i;simp only[AL,ch,b2,or_false] at i;simp only[Hf,ch,b2,or_false];rcases i with rfl|rfl|rfl|rfl|rfl|rfl|rfl|rfl|rfl|rfl|rfl|rfl|rfl
      ·simp
      ·simp
      ·simp
      ·simp
      ·simp
      ·right;omega
      ·right;omega
      ·right;omega
      ·rcases a6 with h|h
       ·simp[h]
       ·right;omega
      ·right;omega
      ·rcases cm with h|h
       ·simp[h]
       ·right;omega
      ·right;omega
      ·simp
def PX(w:bn)(F:Nat→Prop)(g:Nat)(d:Ad)(s:Ae):Prop:=(∀ b,F b→b<w.heap.size)∧∃ a D,PA w D g d a s∧(∀ b,D b→F b)∧∀ b∈AL g a,F b
def Gr(w w':bn)(F:Nat→Prop)(b:Nat):Prop:=F b∨(w.heap.size≤b∧b<w'.heap.size)
structure Fr(F:Nat→Prop)(w w':bn):Prop where
 os:w'.os=w.os
 tape:w'.tape=w.tape
 output:w'.output=w.output
 size:w.heap.size≤w'.heap.size
 block:∀ b,b<w.heap.size→¬F b→w'.heap[b]? =w.heap[b]?
section
variable {w w':bn} {F:Nat→Prop} {D:Nat→Prop} {g:Nat} {d:Ad} {hd:Hd} {s s':Ae}
def Fr.F6{M:List Nat}(h:Upd M w w')(a:∀ b∈M,F b):Fr F w w':=⟨h.os,h.tape,h.output,h.size,fun b c f=>h.block b c fun e=>f (a b e)⟩
def Fr.below(h:Bl w w'):Fr F w w':=⟨h.os,h.tape,h.output,h.size,fun b a _=>h.block b a⟩
def PX.lt(h:PX w F g d s):g<w.heap.size∧F g:=by
 obtain⟨c,hd,D,b,_,a⟩:=h;exact⟨b.lt,a g (by simp[AL])⟩
def PX.Ag(h:PX w F g d s)(f:w.heap.size≤w'.heap.size)(a:∀ b,F b→w'.heap[b]? =w.heap[b]?):PX w' F g d s:=by
 obtain⟨i,hd,D,k,e,c⟩:=h;exact⟨fun b a=>bZ (i b a) f,hd,D,k.Ei ⟨f,fun b hd _=>a b (e b hd)⟩ fun b j=>a b (c b j),e,c⟩
def PX.below(h:PX w F g d s)(a:Bl w w'):PX w' F g d s:=h.Ag a.size fun b c=>a.block b (h.1 b c)
def PX.bad(h:PX w F g d s):PX w (Gr w w F) g d s:=by
 obtain⟨f,hd,D,i,e,c⟩:=h;exact⟨fun b a=>by rcases a with a|⟨_,a⟩;exact f b a;exact a,hd,D,i,fun b a=>.inl (e b a),fun b a=>.inl (c b a)⟩
def PX.Iw(h:PX w F g d s)(a:Bl w w'):PX w' (Gr w w' F) g d s:=by
 obtain⟨f,hd,D,i,e,c⟩:=h.below a;exact⟨fun b a=>by rcases a with a|⟨_,a⟩;exact f b a;exact a,hd,D,i,fun b a=>.inl (e b a),fun b a=>.inl (c b a)⟩
def Mo(w:bn)(D:Nat→Prop)(b:Nat):Prop:=D b∨w.heap.size≤b
def PA.mo(h:PA w D g d hd s):PA w (Mo w D) g d hd s:=h.more
def PX.F6(j:∀ b,F b→b<w.heap.size)(i:∀ b,D b→F b)(c:∀ b∈AL g hd,F b)(h:PA w' (Mo w D) g d hd s')(e:Upd (Mut g hd) w w'):PX w' (Gr w w' F) g d s'∧Fr F w w':=by
 refine⟨⟨fun b a=>?_,hd,_,h.cut,fun b a=>?_,fun b a=>.inl (c b a)⟩,Fr.F6 e fun b a=>c b (GQ b a)⟩
 ·rcases a with a|⟨_,a⟩
  ·exact bZ (j b a) e.size
  ·exact a
 ·rcases a with ⟨a|a,f⟩
  ·exact .inl (i b a)
  ·exact .inr ⟨a,f⟩
def PX.MK{i e:Int}{f:List Int}(m:∀ b,F b→b<w.heap.size)(k:∀ b,D b→F b)(j:∀ b∈AL g hd,F b)(h:∃ c,PA w' D g d c (Ez d i e f)∧∀ b∈AL g c,b∈Hf g hd∨(w.heap.size≤b∧b<w'.heap.size))(o:w.heap.size≤w'.heap.size):PX w' (Gr w w' F) g d (Ez d i e f):=by
 obtain⟨c,n,l⟩:=h;refine⟨fun b a=>?_,c,D,n,fun b a=>.inl (k b a),fun b a=>?_⟩
 ·rcases a with a|⟨_,a⟩
  ·exact bZ (m b a) o
  ·exact a
 ·rcases l b a with h|h
  ·refine .inl (j b ?_);simp only[Hf,ch,b2,or_false] at h;simp only[AL,ch,b2,or_false];rcases h with h|h|h|h|h|h<;>simp[h]
  ·exact .inr h
end
def Ni(b:Nat):∀ (vs:List b1) (o:Nat) (w:bn),w.setCells b o vs=EK w b o vs
 | [],_,_=>rfl
 |v::vs,o,w=>Ni b vs (o+1) (w.setCell ⟨b,o,O⟩ v)
def GA(w:bn)(F:Nat→Prop)(g:Nat)(d:Ad)(r:Ae×Int)(e:Ending)(w':bn):Prop:=e=.returned (I J r.2)∧PX w' (Gr w w' F) g d r.1∧Fr F w w'
def SF(B:Nat)(w:bn)(F:Nat→Prop)(g:Nat)(d:Ad)(s:Ae)(p:Int)(f:Gl B w)(n:∀ b,F b→B≤b)(h:PX w F g d s)(ok:Ah d s)(k:Int)(r:k<1∨6<k):
  da prog 16 #[G (Z ⟨g,0,O⟩),I U k,I J p] w (GA w F g d (Br d k p s)):=by
 have j:=HH h;obtain⟨t,q,D,e,m,l⟩:=h;have S:s.procs.length≤6:=by have:=ok.procs;have:=ok.ok.procs;omega
 have L:w.cell? ⟨g,20,O⟩=Z (.bool true):=e.cell 20;have H:w.cell? ⟨g,17,O⟩=Z (I U s.mode):=e.cell 17;have K:w.cell? ⟨g,18,O⟩=Z (I J s.clock):=e.cell 18;have E:w.cell? ⟨g,10,O⟩=Z (Y q.pr.a s.procs.length q.pr.c):=e.cell 10;obtain⟨z,A,v,u,y,x,C⟩:=H7 t e m l f n ok;have R:=e.lt;have V:IntKind.i64.wrap ((s.procs.length:Int)-1)=(s.procs.length:Int)-1:=by rw[bL];omega
 clear t e m l f n ok;have i:Hq (Br d k p s=(s,2)):=by
  show _=_;unfold Br;rw[if_pos (by omega)]
 have P:(k==2)=false:=by
  have:k≠2:=by omega
  simp[this]
 have Q:(k==3)=false:=by
  have:k≠3:=by omega
  simp[this]
 by_cases M:k<1
 ·clear r;go_enter func16,ntmps16;go_wp2;go_ret;rw[i.o];exact⟨rfl,j.o.bad,Fr.below (bl _ _)⟩
 ·have N:6<k:=by omega
  clear r;go_enter func16,ntmps16;go_wp2;go_ret;rw[i.o];exact⟨rfl,j.o.bad,Fr.below (bl _ _)⟩
def S9(B:Nat)(w:bn)(F:Nat→Prop)(g:Nat)(d:Ad)(s:Ae)(p:Int)(f:Gl B w)(k:∀ b,F b→B≤b)(h:PX w F g d s)(ok:Ah d s):
  da prog 16 #[G (Z ⟨g,0,O⟩),I U 1,I J p] w (GA w F g d (Br d 1 p s)):=by
 have q:=HH h;obtain⟨m,l,D,e,j,i⟩:=h;have L:s.procs.length≤6:=by have:=ok.procs;have:=ok.ok.procs;omega
 have H:w.cell? ⟨g,20,O⟩=Z (.bool true):=e.cell 20;have C:w.cell? ⟨g,17,O⟩=Z (I U s.mode):=e.cell 17;have E:w.cell? ⟨g,18,O⟩=Z (I J s.clock):=e.cell 18;have A:w.cell? ⟨g,10,O⟩=Z (Y l.pr.a s.procs.length l.pr.c):=e.cell 10;obtain⟨x,y,t,r,v,u,z⟩:=H7 m e j i f k ok;have K:=e.lt;have M:IntKind.i64.wrap ((s.procs.length:Int)-1)=(s.procs.length:Int)-1:=by rw[bL];omega
 clear m e j i f k ok;have n:Hq (Br d 1 p s=(s,0)):=by
  show _=_;unfold Br;simp
 go_enter func16,ntmps16;go_wp2;go_ret;rw[n.o];exact⟨rfl,q.o.bad,Fr.below (bl _ _)⟩
def SC(B:Nat)(w:bn)(F:Nat→Prop)(g:Nat)(d:Ad)(s:Ae)(p:Int)(n:Gl B w)(v:∀ b,F b→B≤b)(h:PX w F g d s)(ok:Ah d s):
  da prog 16 #[G (Z ⟨g,0,O⟩),I U 4,I J p] w (GA w F g d (Br d 4 p s)):=by
 have L:=HH h;obtain⟨x,l,D,f,u,t⟩:=h;have S:s.procs.length≤6:=by have:=ok.procs;have:=ok.ok.procs;omega
 have Q:w.cell? ⟨g,20,O⟩=Z (.bool true):=f.cell 20;have N:w.cell? ⟨g,17,O⟩=Z (I U s.mode):=f.cell 17;have P:w.cell? ⟨g,18,O⟩=Z (I J s.clock):=f.cell 18;have M:w.cell? ⟨g,10,O⟩=Z (Y l.pr.a s.procs.length l.pr.c):=f.cell 10;obtain⟨r,H,q,k,E,C,K⟩:=H7 x f u t n v ok;have R:=f.lt;have V:IntKind.i64.wrap ((s.procs.length:Int)-1)=(s.procs.length:Int)-1:=by rw[bL];omega
 clear x f u t n v ok;obtain⟨t0,t1,t2,t3,t4,t5,t6,y⟩:=H.o.pb;have z:=HH (K9 B w D g d l t0 t1 t2 t3 t4 t5 t6 s.mode s.clock s.mem 2 E.o (C.o g (k.o g (by simp[AL]))) y K.o.ok (fun b i=>r.o b (q.o b i)));clear y;have A:Hq (Br d 4 p s=(Ez d 2 s.clock s.mem,0)):=by
  show _=_;unfold Br;simp;rfl
 go_enter func16,ntmps16;go_wp2_with (first|(go_at_call 25;refine z.o.mono ?_;rintro e W ⟨rfl,m,j⟩;replace m:=HH m;replace j:=HH j)|go_in);go_ret;rw[A.o];exact⟨rfl,PX.MK r.o q.o k.o m.o j.o.size,Fr.F6 j.o (by intro b i;simp only[b5] at i;subst i;exact k.o b (by simp[AL]))⟩
def SE(B:Nat)(w:bn)(F:Nat→Prop)(g:Nat)(d:Ad)(s:Ae)(p:Int)(n:Gl B w)(v:∀ b,F b→B≤b)(h:PX w F g d s)(ok:Ah d s):
  da prog 16 #[G (Z ⟨g,0,O⟩),I U 6,I J p] w (GA w F g d (Br d 6 p s)):=by
 have L:=HH h;obtain⟨x,l,D,f,u,t⟩:=h;have S:s.procs.length≤6:=by have:=ok.procs;have:=ok.ok.procs;omega
 have Q:w.cell? ⟨g,20,O⟩=Z (.bool true):=f.cell 20;have N:w.cell? ⟨g,17,O⟩=Z (I U s.mode):=f.cell 17;have P:w.cell? ⟨g,18,O⟩=Z (I J s.clock):=f.cell 18;have M:w.cell? ⟨g,10,O⟩=Z (Y l.pr.a s.procs.length l.pr.c):=f.cell 10;obtain⟨r,H,q,k,E,C,K⟩:=H7 x f u t n v ok;have R:=f.lt;have V:IntKind.i64.wrap ((s.procs.length:Int)-1)=(s.procs.length:Int)-1:=by rw[bL];omega
 clear x f u t n v ok;obtain⟨t0,t1,t2,t3,t4,t5,t6,y⟩:=H.o.pb;have z:=HH (K9 B w D g d l t0 t1 t2 t3 t4 t5 t6 s.mode s.clock s.mem 4 E.o (C.o g (k.o g (by simp[AL]))) y K.o.ok (fun b i=>r.o b (q.o b i)));clear y;have A:Hq (Br d 6 p s=(Ez d 4 s.clock s.mem,0)):=by
  show _=_;unfold Br;simp;rfl
 go_enter func16,ntmps16;go_wp2_with (first|(go_at_call 25;refine z.o.mono ?_;rintro e W ⟨rfl,m,j⟩;replace m:=HH m;replace j:=HH j)|go_in);go_ret;rw[A.o];exact⟨rfl,PX.MK r.o q.o k.o m.o j.o.size,Fr.F6 j.o (by intro b i;simp only[b5] at i;subst i;exact k.o b (by simp[AL]))⟩
def ZR(w:bn):(zeroValue 5).run prog w=.ok (I U 0) w:=by kernel_rfl
def Sb(w:bn)(D:Nat→Prop)(g:Nat)(d:Ad)(f:Hd)(s:Ae)(h:PA w D g d f s):∃ o,(∀ n,(dK #[34] n #[Y f.me.a s.mem.length f.me.c]).run prog w=.ok (.tuple #[]) o)∧PA o D g d f {s with mem:=a4 s.mem.length 0}∧Upd (Mut g f) w o:=by
 rcases Nat.eq_zero_or_pos s.mem.length with i|i
 ·have e:s.mem=[]:=List.eq_nil_of_length_eq_zero i;refine⟨w,fun n=>?_,by
   have v:a4 s.mem.length (0:Int)=s.mem:=by rw[i,e];rfl
   rw[v];exact h,Upd.refl _ _⟩
  rw[i];cases f.me.a<;>simp[dK,run_underlying underlying34]
 ·have z:=h.me.ptr i;obtain⟨r,A,E⟩:=h.me.blk i;have B:∀ j,j<s.mem.length→w.cell? ⟨f.me.b,0+j,O⟩=Z (I U s.mem[j]!):=fun j l=>by
   have:=h.me.el j l 0 _ rfl;simp only[Nat.mul_one,Nat.add_zero] at this;rw[Nat.zero_add,this];simp[l]
  refine⟨w.setCells f.me.b 0 (a4 s.mem.length (I U 0)),fun n=>?_,?_,?_⟩
  ·rw[z];exact Lib.run_clear_slice w 34 5 n (I U 0) underlying34 ZR rfl rfl f.me.b 0 s.mem.length f.me.c i (fun j l=>by rw[B j l];rfl) fun j l=>h.me.frozen i _
  ·rw[Ni];obtain⟨t,p,x,F,y⟩:=Nt (a4 s.mem.length (I U 0)) w 0 r A;refine h.Qo (h.P9 i (KeepD.Jy h.me.nd _ _) fun b _ C=>L2 C _ _ _) (by simp) ⟨by simpa using h.me.cap,h.me.nil,by simpa using h.me.ptr,h.me.nd,by rw[L3];exact h.me.lt,fun _=>⟨t,p,by rw[x];simpa using E⟩,fun k q=>?_⟩;rw[cy] at q;intro j u m
   match j,m with
   |0,m=>
    simp only[dD,List.getElem?_cons_zero,bC] at m;subst m;rw[Cr p];have:=y k (I U 0) (by simp[q]) (by omega);simpa using this
  ·rw[Ni];exact Upd.Jy (by simp[Mut]) _ _
def SD(B:Nat)(w:bn)(F:Nat→Prop)(g:Nat)(d:Ad)(s:Ae)(p:Int)(v:Gl B w)(H:∀ b,F b→B≤b)(h:PX w F g d s)(ok:Ah d s):
  da prog 16 #[G (Z ⟨g,0,O⟩),I U 5,I J p] w (GA w F g d (Br d 5 p s)):=by
 have HX:=HH h;obtain⟨L,j,D,k,E,C⟩:=h;have aq:s.procs.length≤6:=by have:=ok.procs;have:=ok.ok.procs;omega
 have am:w.cell? ⟨g,20,O⟩=Z (.bool true):=k.cell 20;have aj:w.cell? ⟨g,17,O⟩=Z (I U s.mode):=k.cell 17;have ak:w.cell? ⟨g,18,O⟩=Z (I J s.clock):=k.cell 18;have ai:w.cell? ⟨g,10,O⟩=Z (Y j.pr.a s.procs.length j.pr.c):=k.cell 10;obtain⟨r,z,x,m,S,y,V⟩:=H7 L k E C v H ok;have ap:=k.lt;have ar:IntKind.i64.wrap ((s.procs.length:Int)-1)=(s.procs.length:Int)-1:=by rw[bL];omega
 clear L k E C v H ok;obtain⟨n,ao,N,q⟩:=Sb w D g d j s z.o;obtain⟨t0,t1,t2,t3,t4,t5,t6,P⟩:=N.pb;obtain⟨Q,A⟩:=H2 (K9 B n D g d j t0 t1 t2 t3 t4 t5 t6 s.mode s.clock (a4 s.mem.length 0) 1 (S.o.BG q fun b f=>y.o b (m.o b (GQ b f))) (y.o g (m.o g (by simp[AL]))) P V.o.ok (fun b f=>bZ (r.o b (x.o b f)) q.size)) q;have al:w.cell? ⟨g,19,O⟩=Z (Y j.me.a s.mem.length j.me.c):=z.o.cell 19;clear P N q;have R:Hq (Br d 5 p s=(Ez d 1 s.clock (a4 s.mem.length 0),0)):=by
  show _=_;unfold Br;simp;rfl
 go_enter func16,ntmps16;go_wp2_with (first|(go_at_call 25;refine Q.o.mono ?_;rintro e l ⟨rfl,u,i⟩;replace u:=HH u;replace i:=HH i)|go_in);go_ret;rw[R.o];have t:=A.o.size;have f:PX l (Gr n l (fun b=>F b)) g d (Ez d 1 s.clock (a4 s.mem.length 0)):=PX.MK (fun b f=>bZ (r.o b f) t) x.o m.o u.o i.o.size;refine⟨rfl,?_,?_⟩
 ·obtain⟨h1,ad,D',W,X,h4⟩:=f;have K:∀ b,Gr n l (fun b=>F b) b→Gr w l F b:=fun b f=>by
   rcases f with f|⟨ab,ac⟩
   ·exact .inl f
   ·exact .inr ⟨dF t ab,ac⟩
  have af:=i.o.size;exact⟨fun b f=>by rcases f with f|⟨_,f⟩;exact bZ (r.o b f) (dF t af);exact f,ad,D',W,fun b f=>K b (X b f),fun b f=>K b (h4 b f)⟩
 ·have ag:Upd (Mut g j) n l:=⟨i.o.os,i.o.tape,i.o.output,i.o.size,fun b f hn=>i.o.block b f fun M=>hn (by simp only[b5] at M;subst M;simp[Mut])⟩;exact Fr.F6 (A.o.trans ag) fun b f=>m.o b (GQ b f)
def SB(B:Nat)(w:bn)(F:Nat→Prop)(g:Nat)(d:Ad)(s:Ae)(p:Int)(t:Gl B w)(y:∀ b,F b→B≤b)(h:PX w F g d s)(ok:Ah d s):
  da prog 16 #[G (Z ⟨g,0,O⟩),I U 3,I J p] w (GA w F g d (Br d 3 p s)):=by
 have l:=HH h;obtain⟨A,m,D,j,x,v⟩:=h;have ae:s.procs.length≤6:=by have:=ok.procs;have:=ok.ok.procs;omega
 have aa:w.cell? ⟨g,20,O⟩=Z (.bool true):=j.cell 20;have W:w.cell? ⟨g,17,O⟩=Z (I U s.mode):=j.cell 17;have X:w.cell? ⟨g,18,O⟩=Z (I J s.clock):=j.cell 18;have V:w.cell? ⟨g,10,O⟩=Z (Y m.pr.a s.procs.length m.pr.c):=j.cell 10;obtain⟨K,L,H,C,S,R,u⟩:=H7 A j x v t y ok;have ac:=j.lt;have af:IntKind.i64.wrap ((s.procs.length:Int)-1)=(s.procs.length:Int)-1:=by rw[bL];omega
 clear A j x v t y ok;by_cases M:0≤p
 ·by_cases h1:p≤(s.procs.length:Int)-1
  ·by_cases k:s.mode=3
   ·have N:(s.mode==3)=true:=by simp[k]
    obtain⟨i,rfl⟩:=ck M;have P:i<s.procs.length:=by omega
    have ad:(i:Int)<(s.procs.length:Int):=by omega
    have f:Hq (Br d 3 i s=(FD d i s.clock s,0)):=by
     show _=_;unfold Br;rw[if_neg (by simp;omega),if_neg (by simp[k])];simp
    have z:=u.o.clock;have E:=HH (Nr w (Mo w D) g d m s i s.clock L.o.mo u.o (fun q Q=>.inr Q) z.1 (by omega) P);clear k z;go_enter func16,ntmps16;go_wp2_with (first|(go_at_call 42;refine E.o.mono ?_;rintro e w1 ⟨rfl,r,n⟩;replace r:=HH r;replace n:=HH n)|go_in);go_ret;rw[f.o];exact⟨rfl,PX.F6 K.o H.o C.o r.o n.o⟩
   ·have N:(s.mode==3)=false:=by simp[k]
    have f:Hq (Br d 3 p s=(s,0)):=by
     show _=_;unfold Br;rw[if_neg (by simp;omega),if_pos (by simp[k])]
    clear k;go_enter func16,ntmps16;go_wp2;go_ret;rw[f.o];exact⟨rfl,l.o.bad,Fr.below (bl _ _)⟩
  ·have f:Hq (Br d 3 p s=(s,2)):=by
    show _=_;unfold Br;rw[if_pos (by simp;omega)]
   go_enter func16,ntmps16;go_wp2;go_ret;rw[f.o];exact⟨rfl,l.o.bad,Fr.below (bl _ _)⟩
 ·have f:Hq (Br d 3 p s=(s,2)):=by
   show _=_;unfold Br;rw[if_pos (by simp;omega)]
  go_enter func16,ntmps16;go_wp2;go_ret;rw[f.o];exact⟨rfl,l.o.bad,Fr.below (bl _ _)⟩
def SA(B:Nat)(w:bn)(F:Nat→Prop)(g:Nat)(d:Ad)(s:Ae)(p:Int)(M:Gl B w)(V:∀ b,F b→B≤b)(h:PX w F g d s)(ok:Ah d s):
  da prog 16 #[G (Z ⟨g,0,O⟩),I U 2,I J p] w (GA w F g d (Br d 2 p s)):=by
 have E:=HH h;obtain⟨X,f,D,u,S,R⟩:=h;have a2:s.procs.length≤6:=by have:=ok.procs;have:=ok.ok.procs;omega
 have aA:w.cell? ⟨g,20,O⟩=Z (.bool true):=u.cell 20;have ay:w.cell? ⟨g,17,O⟩=Z (I U s.mode):=u.cell 17;have az:w.cell? ⟨g,18,O⟩=Z (I J s.clock):=u.cell 18;have ax:w.cell? ⟨g,10,O⟩=Z (Y f.pr.a s.procs.length f.pr.c):=u.cell 10;obtain⟨HL,HP,an,N,HG,ao,OK⟩:=H7 X u S R M V ok;have aZ:=u.lt;have a3:IntKind.i64.wrap ((s.procs.length:Int)-1)=(s.procs.length:Int)-1:=by rw[bL];omega
 clear X u S R M V ok;by_cases h0:0≤p
 ·by_cases h1:p≤(s.procs.length:Int)-1
  ·by_cases v:s.mode=3
   ·have aD:(s.mode==3)=true:=by simp[v]
    obtain⟨i,rfl⟩:=ck h0;have W:i<s.procs.length:=by omega
    have a0:(i:Int)<(s.procs.length:Int):=by omega
    have t:Hq (Br d 2 i s=(stopA i (CX i s),0)):=by
     show _=_;unfold Br;rw[if_neg (by simp;omega),if_neg (by simp[v])];simp
    have P:=HH (Ph w (Mo w D) g d f s i HP.o.mo OK.o (fun q hq=>.inr hq));clear v;go_enter func16,ntmps16;go_upto_region 11 with (first|(go_at_call 41;refine P.o.mono ?_;rintro e j ⟨rfl,y,C⟩;replace y:=HH y;replace C:=HH C)|go_in);have k:Gl B j:=HG.o.BG C.o fun b hb=>ao.o b (N.o b (GQ b hb));have aX:=k.hb;have aY:=k.hw;have r:0<j.heap.size:=by omega
    have aF:g<j.heap.size:=y.o.lt;have aa:j.cell? ⟨g,10,O⟩=Z (Y (Z ⟨f.pr.b,0,O⟩) s.procs.length f.pr.c):=y.o.FC (by show 0<s.procs.length;omega);have cap:s.procs.length≤f.pr.c:=y.o.pr.cap;have aJ:=qC (show j.cell? ⟨0,0,O⟩=_ from by have:=k.BC 0 _ rfl;simpa using this) r;have aK:=qC (show j.cell? ⟨0,1,O⟩=_ from by have:=k.BC 1 _ rfl;simpa using this) r;have aN:=qC (show j.cell? ⟨0,2,O⟩=_ from by have:=k.BC 2 _ rfl;simpa using this) r;have aO:=qC (show j.cell? ⟨0,3,O⟩=_ from by have:=k.BC 3 _ rfl;simpa using this) r;have aP:=qC (show j.cell? ⟨0,4,O⟩=_ from by have:=k.BC 4 _ rfl;simpa using this) r;have aQ:=qC (show j.cell? ⟨0,5,O⟩=_ from by have:=k.BC 5 _ rfl;simpa using this) r;have aR:=qC (show j.cell? ⟨0,6,O⟩=_ from by have:=k.BC 6 _ rfl;simpa using this) r;have aS:=qC (show j.cell? ⟨0,7,O⟩=_ from by have:=k.BC 7 _ rfl;simpa using this) r;have aT:=qC (show j.cell? ⟨0,8,O⟩=_ from by have:=k.BC 8 _ rfl;simpa using this) r;have aU:=qC (show j.cell? ⟨0,9,O⟩=_ from by have:=k.BC 9 _ rfl;simpa using this) r;have aL:=qC (show j.cell? ⟨0,10,O⟩=_ from by have:=k.BC 10 _ rfl;simpa using this) r;have aM:=qC (show j.cell? ⟨0,11,O⟩=_ from by have:=k.BC 11 _ rfl;simpa using this) r;have qg:=qC aa aF;clear k aa aA ay az ax P;refine AS 9 [8] [] [] trivial ?_
    iterate 8 (refine An rfl rfl rfl ?_;intro K hK;go_big_quiet_op;go_big_quiet_on)
    refine AH rfl ?_;refine AR ?_;intro l L aI;clear aI qg aJ aK aN aO aP aQ aR aS aT aU aL aM;have z:=y.o.below L;have n:∀ o,l.frozen? ⟨f.pr.b,o,O⟩=false:=z.pr.frozen (by show 0<s.procs.length;omega);obtain⟨r0,r1,r2,r3,aH,m⟩:=z.pr.el i W;have z0:l.cell? ⟨f.pr.b,i*12,O⟩=Z _:=m 0 _ rfl;have f0:=n (i*12);have z1:l.cell? ⟨f.pr.b,i*12+1,O⟩=Z _:=m 1 _ rfl;have f1:=n (i*12+1);have z2:l.cell? ⟨f.pr.b,i*12+2,O⟩=Z _:=m 2 _ rfl;have f2:=n (i*12+2);have z3:l.cell? ⟨f.pr.b,i*12+3,O⟩=Z _:=m 3 _ rfl;have f3:=n (i*12+3);have z4:l.cell? ⟨f.pr.b,i*12+4,O⟩=Z _:=m 4 _ rfl;have f4:=n (i*12+4);have z5:l.cell? ⟨f.pr.b,i*12+5,O⟩=Z _:=m 5 _ rfl;have f5:=n (i*12+5);have z6:l.cell? ⟨f.pr.b,i*12+6,O⟩=Z _:=m 6 _ rfl;have f6:=n (i*12+6);have z7:l.cell? ⟨f.pr.b,i*12+7,O⟩=Z _:=m 7 _ rfl;have f7:=n (i*12+7);have z8:l.cell? ⟨f.pr.b,i*12+8,O⟩=Z _:=m 8 _ rfl;have f8:=n (i*12+8);have z9:l.cell? ⟨f.pr.b,i*12+9,O⟩=Z _:=m 9 _ rfl;have f9:=n (i*12+9);have ad:l.cell? ⟨f.pr.b,i*12+10,O⟩=Z _:=m 10 _ rfl;have f10:=n (i*12+10);have ae:l.cell? ⟨f.pr.b,i*12+11,O⟩=Z _:=m 11 _ rfl;have f11:=n (i*12+11);have A:=z.FY W [(0,I U 1),(1,I J 0),(2,I J 0),(3,I U 0),(4,I U 0),(5,I U 0),(6,I U 0),(7,I J 0),(8,I J (-1)),(9,I J (-1)),(10,I U 0),(11,I J 0)] rfl m (x:=EU) fun w' aE a1=>⟨0,0,0,0,rfl,aE⟩;obtain⟨W3,H⟩:=ex ((((((((((((l.setCell ⟨f.pr.b,i*12,O⟩ (I U 1)).setCell ⟨f.pr.b,i*12+1,O⟩ (I J 0)).setCell ⟨f.pr.b,i*12+2,O⟩ (I J 0)).setCell ⟨f.pr.b,i*12+3,O⟩ (I U 0)).setCell ⟨f.pr.b,i*12+4,O⟩ (I U 0)).setCell ⟨f.pr.b,i*12+5,O⟩ (I U 0)).setCell ⟨f.pr.b,i*12+6,O⟩ (I U 0)).setCell ⟨f.pr.b,i*12+7,O⟩ (I J 0)).setCell ⟨f.pr.b,i*12+8,O⟩ (I J (-1))).setCell ⟨f.pr.b,i*12+9,O⟩ (I J (-1))).setCell ⟨f.pr.b,i*12+10,O⟩ (I U 0)).setCell ⟨f.pr.b,i*12+11,O⟩ (I J 0));refine AI (w':=W3) (by rw[H];simp[dE,go_sem,z0,f0,z1,f1,z2,f2,z3,f3,z4,f4,z5,f5,z6,f6,z7,f7,z8,f8,z9,f9,ad,f10,ae,f11]) ?_;unfold A7;have Q:W3=setsAt l f.pr.b (i*12) [(0,I U 1),(1,I J 0),(2,I J 0),(3,I U 0),(4,I U 0),(5,I U 0),(6,I U 0),(7,I J 0),(8,I J (-1)),(9,I J (-1)),(10,I U 0),(11,I J 0)]:=H;rw[←Q] at A;have au:Hq (PA W3 (Mo w D) g d f (stopA i (CX i s))):=A.1;have av:Hq (Upd (Mut g f) w W3):=(C.o.trans (Upd.below L)).trans A.2;clear H Q A m aH n z L z0 f0 z1 f1 z2 f2 z3 f3 z4 f4 z5 f5 z6 f6 z7 f7 z8 f8 z9 f9 ad f10 ae f11;go_wp2_with fail;go_ret;rw[t.o];exact⟨rfl,PX.F6 HL.o an.o N.o au.o av.o⟩
   ·have aD:(s.mode==3)=false:=by simp[v]
    have t:Hq (Br d 2 p s=(s,0)):=by
     show _=_;unfold Br;rw[if_neg (by simp;omega),if_pos (by simp[v])]
    clear v;go_enter func16,ntmps16;go_wp2;go_ret;rw[t.o];exact⟨rfl,E.o.bad,Fr.below (bl _ _)⟩
  ·have t:Hq (Br d 2 p s=(s,2)):=by
    show _=_;unfold Br;rw[if_pos (by simp;omega)]
   go_enter func16,ntmps16;go_wp2;go_ret;rw[t.o];exact⟨rfl,E.o.bad,Fr.below (bl _ _)⟩
 ·have t:Hq (Br d 2 p s=(s,2)):=by
   show _=_;unfold Br;rw[if_pos (by simp;omega)]
  go_enter func16,ntmps16;go_wp2;go_ret;rw[t.o];exact⟨rfl,E.o.bad,Fr.below (bl _ _)⟩
def SG(B:Nat)(w:bn)(F:Nat→Prop)(g:Nat)(d:Ad)(s:Ae)(k p:Int)(a:Gl B w)(c:∀ b,F b→B≤b)(h:PX w F g d s)(ok:Ah d s):
  da prog 16 #[G (Z ⟨g,0,O⟩),I U k,I J p] w (GA w F g d (Br d k p s)):=by
 rcases(show(k<1∨6<k)∨k=1∨k=2∨k=3∨k=4∨k=5∨k=6 by omega) with e|rfl|rfl|rfl|rfl|rfl|rfl
 ·exact SF B w F g d s p a c h ok k e
 ·exact S9 B w F g d s p a c h ok
 ·exact SA B w F g d s p a c h ok
 ·exact SB B w F g d s p a c h ok
 ·exact SC B w F g d s p a c h ok
 ·exact SD B w F g d s p a c h ok
 ·exact SE B w F g d s p a c h ok
def Rq(w:bn)(F:Nat→Prop)(g:Nat)(d:Ad)(r:Ae×Im)(e:Ending)(w':bn):Prop:=
 ∃ c f,e=.returned (.tuple #[.agg #[I J r.2.ran,I U r.2.act.kind,I J r.2.act.a,I J r.2.act.b,c,f],I J r.2.e])∧Af U w' w.heap.size c r.2.act.data∧BJ w' w.heap.size f r.2.faults∧PX w' (Gr w w' F) g d r.1∧Fr F w w'
def Ze(B:Nat)(w:bn)(F:Nat→Prop)(g:Nat)(d:Ad)(s:Ae)(now:Int)(c:Gl B w)(n:∀ b,F b→B≤b)(h:PX w F g d s)(ok:Ah d s)(r:K0 d)(p:∀ x∈s.boards,0≤x.val∧x.val≤255)(A:∀ i,i<s.procs.length→Ed (d.procs.getD i default).code.length (s.procs.getD i default).s):
  da prog 17 #[G (Z ⟨g,0,O⟩),I J now] w (Rq w F g d (A3 d now s)):=by
 obtain⟨v,t,D,y,m,a⟩:=h;refine(Zb B w (Mo w D) g d t s now c (fun b o=>n b (a b (GQ b o))) y.mo ok r p A (fun q z=>.inr z)).mono ?_;rintro e w' ⟨C,E,u,f,j,k,l⟩;have:=PX.F6 v m a k l;exact⟨C,E,u,f,j,this.1,this.2⟩
def Rh(w:bn)(r:Option CV)(e:Ending)(w':bn):Prop:=
 (match r with
 |none=>e=.returned (.tuple #[.agg #[.string ⟨#[]⟩,I U 0,.bool false,I J 0,I J 0,I J 0],.bool false])
 |some p=>∃ nm,e=.returned (.tuple #[.agg #[.string nm,I U p.kind,.bool p.o,I J p.size,I J p.depth,I J p.At],.bool true]))∧Bl w w'
def PR(w:bn)(D:Nat→Prop)(g:Nat)(d:Ad)(f:Hd)(s:Ae)(i:Int)(j:Bool)(h:PA w D g d f s):
  da prog 47 #[G (Z ⟨g,0,O⟩),I J i,.bool j] w (Rh w (Ek d i j)):=by
 have t:∀ e,(w.alloc e).cell? ⟨g,8,O⟩=Z (Y f.AB.a d.Ab.length f.AB.c):=fun e=>by
  rw[aB _ _ _ (bY h.lt)];exact h.cell 8
 have y:=h.lt;have H:=HH h;by_cases p:i<0
 ·have m:Hq (Ek d i j=O):=by
   show _=_;unfold Ek;rw[if_pos p]
  clear h;go_enter func47,ntmps47;go_wp2_with fail;refine c7 (v:=.tuple #[.agg #[.string ⟨#[]⟩,I U 0,.bool false,I J 0,I J 0,I J 0],.bool false]) (by simp[dO,results47,go_sem]) rfl ?_;rw[m.o];exact⟨rfl,(bl _ w).alloc (b0 _) _⟩
 ·obtain⟨k,rfl⟩:=ck (show 0≤i by omega);by_cases q:k<d.Ab.length
  ·have x:(k:Int)<(d.Ab.length:Int):=by omega
   obtain⟨nm,l⟩:=h.AB.el k q;have r:=h.AB.ptr (by omega);have cap:=h.AB.cap;rw[r] at t;have z:∀ e,(w.alloc e).cell? ⟨f.AB.b,k*6,O⟩=Z (.string nm):=fun e=>by
    rw[aB _ _ _ (bY h.AB.lt)];exact l 0 _ rfl
   have A:∀ e,(w.alloc e).cell? ⟨f.AB.b,k*6+1,O⟩=Z (I U d.Ab[k].kind):=fun e=>by
    rw[aB _ _ _ (bY h.AB.lt)];exact l 1 _ rfl
   have B:∀ e,(w.alloc e).cell? ⟨f.AB.b,k*6+2,O⟩=Z (.bool d.Ab[k].o):=fun e=>by
    rw[aB _ _ _ (bY h.AB.lt)];exact l 2 _ rfl
   have C:∀ e,(w.alloc e).cell? ⟨f.AB.b,k*6+3,O⟩=Z (I J d.Ab[k].size):=fun e=>by
    rw[aB _ _ _ (bY h.AB.lt)];exact l 3 _ rfl
   have E:∀ e,(w.alloc e).cell? ⟨f.AB.b,k*6+4,O⟩=Z (I J d.Ab[k].depth):=fun e=>by
    rw[aB _ _ _ (bY h.AB.lt)];exact l 4 _ rfl
   have F:∀ e,(w.alloc e).cell? ⟨f.AB.b,k*6+5,O⟩=Z (I J d.Ab[k].At):=fun e=>by
    rw[aB _ _ _ (bY h.AB.lt)];exact l 5 _ rfl
   by_cases n:d.Ab[k].o=j
   ·have m:Hq (Ek d k j=Z d.Ab[k]):=by
     show _=_;unfold Ek;rw[if_neg (by omega),bG,dC q];simp[n]
    have u:(d.Ab[k].o==j)=true:=by simp[n]
    clear h l r n p;go_enter func47,ntmps47;go_wp2_with fail;refine c7 (v:=.tuple #[.agg #[.string nm,I U d.Ab[k].kind,.bool d.Ab[k].o,I J d.Ab[k].size,I J d.Ab[k].depth,I J d.Ab[k].At],.bool true]) (by simp[dO,results47,go_sem]) rfl ?_;rw[m.o];exact⟨⟨nm,rfl⟩,(bl _ w).alloc (b0 _) _⟩
   ·have m:Hq (Ek d k j=O):=by
     show _=_;unfold Ek;rw[if_neg (by omega),bG,dC q];simp[n]
    have u:(d.Ab[k].o==j)=false:=by simp[n]
    clear h l r n p;go_enter func47,ntmps47;go_wp2_with fail;refine c7 (v:=.tuple #[.agg #[.string ⟨#[]⟩,I U 0,.bool false,I J 0,I J 0,I J 0],.bool false]) (by simp[dO,results47,go_sem]) rfl ?_;rw[m.o];exact⟨rfl,(bl _ w).alloc (b0 _) _⟩
  ·have m:Hq (Ek d k j=O):=by
    show _=_;unfold Ek;rw[if_neg (by omega),bG,List.getElem?_eq_none (by omega)]
   have x:¬((k:Int)<(d.Ab.length:Int)):=by omega
   clear h p;go_enter func47,ntmps47;go_wp2_with fail;refine c7 (v:=.tuple #[.agg #[.string ⟨#[]⟩,I U 0,.bool false,I J 0,I J 0,I J 0],.bool false]) (by simp[dO,results47,go_sem]) rfl ?_;rw[m.o];exact⟨rfl,(bl _ w).alloc (b0 _) _⟩
end Go.Proofs.YtiepijihpgijbaaGreatDoor
