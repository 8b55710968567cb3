import Derived.Laws.BytesArg
import Derived.OwnWalk
import Derived.Laws.AppendOwnNone
import Derived.ArgAppend
import Derived.RegionTactic
import Derived.Test.YtiepijihpgijbaaGreatDoorQ2
set_option maxHeartbeats 4000000
set_option maxRecDepth 100000
set_option linter.all false
open Option renaming some→Z,none→O
open Go.Obj renaming cells→T
open Go.Value renaming int→I,slice→Y,pointer→G
open Go.IntKind renaming u8→U,i64→J
open Go renaming Value→ax,World→aG,bodyPost_ret→aJ,heap_alloc_new→aV,cell_of_row→aY,heap_setCell_same→bc,results→bh,Calls→bq,TypeId→br,maxLen→bJ,info_parts→bK,Ending→bP,wpList_append_own→bS
open Go.RowKit.Below renaming heap_alloc→aA,refl→aW,heap_setCell→bg
open Nat renaming le_refl→aH,zero_le→a4,lt_of_lt_of_le→bE,lt_succ_of_lt→bQ,le_trans→bV
open List renaming length_append→aZ,getElem?_eq_getElem→bi,map_append→bx,getElem?_eq_some_iff→bA,take_succ_eq_append_getElem→bF,eq_nil_of_length_eq_zero→bG,flatten_append→bN,take_length→bR
open Option.some renaming injEq→bf
open Go.World renaming ownsRow_nil→bz,frozen?→bC,setCell→bH,cell?→bT
open Go.Value.slice renaming injEq→bB
open Go.Obj.cells renaming injEq→bD
open Go.Value renaming int→bI,cells→bU
open Go.Lib renaming wpList_append_run→bL
open Go.Builtin renaming zeroCells→bM,append_→bO
namespace Go.Proofs.YtiepijihpgijbaaGreatDoor
open Go.RowKit Tryz
structure V3(w W:aG)(nm:ByteArray)(k:Int)(o:Bool)(s d r:Int)(vq0 vw0:ax)(n0:Int):Prop where
 Bj:W.heap[w.heap.size]? =Z (T #[.string nm,I U k,.bool o,I J s,I J d,I J r] 62 (0,0))
 arg:W.heap[w.heap.size+1]? =Z (T #[vq0,vw0,I J n0] 107 (0,0))
 res:W.heap[w.heap.size+1+1]? =Z (T #[Y O 0 0,Y O 0 0,I J 0] 107 (0,0))
 bel:Bl w W
section
variable {w W W':aG} {nm:ByteArray} {k:Int} {o:Bool} {s d r:Int} {vq0 vw0:ax} {n0:Int} {B:Nat} {vq vw:ax} {q:List (List Int)} {l:List Wt}
def V3.next(h:V3 w W nm k o s d r vq0 vw0 n0)(a:Bl W W'):V3 w W' nm k o s d r vq0 vw0 n0:=
 ⟨(a.block _ (Aa h.Bj)).trans h.Bj,(a.block _ (Aa h.arg)).trans h.arg,(a.block _ (Aa h.res)).trans h.res,h.bel.trans (a.mono h.bel.size)⟩
def V3.first(a:Below (W3 w nm k o s d r vq0 vw0 n0).heap.size (W3 w nm k o s d r vq0 vw0 n0) W):V3 w W nm k o s d r vq0 vw0 n0:=
 (V3.mk FG FF QP Cd).next a
def JX(e:A6 W B vq q)(c:Aq W B vw l)(a:w.heap.size+1+1<B)(b:Bl w W)(x y z:ax):A6 (DK w W x y z) w.heap.size vq q∧Aq (DK w W x y z) w.heap.size vw l∧Bl w (DK w W x y z):=
 ⟨(((e.low a).low a).low a).mono (by omega),(((c.low a).low a).low a).mono (by omega),LY b x y z⟩
def Uw{v:ax}{m:List Int}(h:Af U W B v m)(a:w.heap.size+1+1<B)(x y z:ax):Af U (DK w W x y z) w.heap.size v m:=(((h.low a).low a).low a).mono (by omega)
def A6.empty{a:Nat}(h:A6 W B vq q)(j:q=[]):A6 W' a vq q:=by
 subst j;obtain⟨vs,⟨b,cap,m,e,f,g,_⟩,_⟩:=h;exact⟨vs,⟨b,cap,m,e,f,g,fun c=>absurd c (by simp)⟩,fun i u x p n=>by simp at n⟩
end
def Yu(nm:ByteArray)(k:Int)(o:Bool)(s d r n:Int)(p u:Int)(vq vw:ax)(q:List (List Int))(l:List Wt)(w:aG)(hq:A6 w 0 vq q)(hw:Al w 0 vw l)(bb:Ck l)(hl:l.length≤90000)(bt:q.length≤90000)(hm:∀ x∈q,x.length≤1000000):
  bq prog 115 #[.agg #[.string nm,I U k,.bool o,I J s,I J d,I J r],.agg #[vq,vw,I J n],I J p,I J u] w (NN w (recvQ k s d r q l n p u).1 (recvQ k s d r q l n p u).2.1 n (recvQ k s d r q l n p u).2.2.1 (.bool (recvQ k s d r q l n p u).2.2.2.1) (I J (recvQ k s d r q l n p u).2.2.2.2)):=by
 obtain⟨aq,cq,rfl⟩:=hq.C2;obtain⟨aw,cw,rfl,bj,bk,bl⟩:=hw.open_;clear bj bk bl;obtain⟨ah,X,ay,HM⟩:=H4 hq hw bb hm;have a6:W3 w nm k o s d r (Y aq q.length cq) (Y aw l.length cw) n=((w.alloc (T #[.string nm,I U k,.bool o,I J s,I J d,I J r] 62)).alloc (T #[Y aq q.length cq,Y aw l.length cw,I J n] 107)).alloc (T #[Y O 0 0,Y O 0 0,I J 0] 107):=rfl;have ai:=HH a6;clear hq hw bb hm a6;have bn:(BP k s d r q l n=false∧recvQ k s d r q l n p u=(q,l,[],false,2))∨(BP k s d r q l n=true∧p<0∧recvQ k s d r q l n p u=(q,l,[],false,2))∨(BP k s d r q l n=true∧0≤p∧l.any (fun x=>decide (x.proc=p))=true∧recvQ k s d r q l n p u=(q,l,[],false,2))∨
   (BP k s d r q l n=true∧0≤p∧l.any (fun x=>decide (x.proc=p))=false∧q=[]∧recvQ k s d r q l n p u=(q,Cl l ⟨p,u,0⟩,[],false,0))∨(BP k s d r q l n=true∧0≤p∧l.any (fun x=>decide (x.proc=p))=false∧∃ x t,q=x::t∧recvQ k s d r q l n p u=(t,l,x,true,0)):=by
  unfold recvQ Cw;cases BP k s d r q l n
  ·simp
  ·by_cases hp:0≤p
   ·cases ha:l.any (fun x=>decide (x.proc=p))
    ·cases q with
     |nil=>exact .inr (.inr (.inr (.inl ⟨rfl,hp,rfl,rfl,by simp[hp]⟩)))
     |cons x t=>exact .inr (.inr (.inr (.inr ⟨rfl,hp,rfl,x,t,rfl,by simp[hp]⟩)))
    ·exact .inr (.inr (.inl ⟨rfl,hp,rfl,by simp⟩))
   ·exact .inr (.inl ⟨rfl,by omega,by simp[hp]⟩)
 rcases bn with ⟨V,W⟩|⟨V,kp,W⟩|⟨V,kp,ka,W⟩|⟨V,kp,ka,kq,W⟩|⟨V,kp,ka,x,t,kq,W⟩
 ·rw[W];clear W;have K1:=HH V;clear V;go_enter func115,ntmps115;go_wp2_with fail;rw[←ai.o];have f:=DY nm k o s d r n _ _ q l (W3 w nm k o s d r (Y aq q.length cq) (Y aw l.length cw) n) (ah.o.below Cd) (X.o.below Cd) ay.o (by omega) (by omega);rw[K1.o] at f;refine f.mono ?_;clear f ai;rintro e w1 ⟨rfl,S⟩;have b:=HH (V3.first S);clear S;obtain⟨K,L,M,N,P,Q⟩:=Cy b.o.Bj;obtain⟨g0,A,C,D,E,F⟩:=Aj b.o.arg;obtain⟨i,j,r2,r3,r4,r5⟩:=Aj b.o.res;have am:=Aa b.o.Bj;have al:=Aa b.o.arg;have H:=Aa b.o.res;go_wp2_with fail;refine(Fe _ _ q l n w1 (ah.o.below b.o.bel) (X.o.below b.o.bel) (by omega) (by omega) HM.o).mono ?_;rintro e w7 ⟨bd,be,rfl,af,ae,b7⟩;obtain⟨R,c1,rfl⟩:=af.rd.C2;obtain⟨a2,c2,rfl⟩:=Bc ae;have X7:=HH (b.o.next b7);have F7:=HH (fun x y z=>JX (w:=w) af.rd ae H X7.o.bel x y z);clear af ae b7 K L M N P Q g0 A C D E F i j r2 r3 r4 r5;obtain⟨i,j,r2,r3,r4,r5⟩:=Aj X7.o.res;have ba:=Aa X7.o.res;go_wp2_with fail;refine aJ (v:=.tuple #[.agg #[Y R q.length c1,Y a2 l.length c2,I J n],Y O 0 0,.bool false,I J 2]) (by simp[bh,results115,go_sem,i,j,r2]) rfl ?_;exact⟨_,_,_,rfl,(F7.o _ _ _).1,(F7.o _ _ _).2.1,Af.nil _ _ _,(F7.o _ _ _).2.2⟩
 ·rw[W];clear W;have K1:=HH V;clear V;go_enter func115,ntmps115;go_wp2_with fail;rw[←ai.o];have f:=DY nm k o s d r n _ _ q l (W3 w nm k o s d r (Y aq q.length cq) (Y aw l.length cw) n) (ah.o.below Cd) (X.o.below Cd) ay.o (by omega) (by omega);rw[K1.o] at f;refine f.mono ?_;clear f ai;rintro e w1 ⟨rfl,S⟩;have b:=HH (V3.first S);clear S;obtain⟨K,L,M,N,P,Q⟩:=Cy b.o.Bj;obtain⟨g0,A,C,D,E,F⟩:=Aj b.o.arg;obtain⟨i,j,r2,r3,r4,r5⟩:=Aj b.o.res;have am:=Aa b.o.Bj;have al:=Aa b.o.arg;have H:=Aa b.o.res;go_wp2_with fail;refine(Fe _ _ q l n w1 (ah.o.below b.o.bel) (X.o.below b.o.bel) (by omega) (by omega) HM.o).mono ?_;rintro e w7 ⟨bd,be,rfl,af,ae,b7⟩;obtain⟨R,c1,rfl⟩:=af.rd.C2;obtain⟨a2,c2,rfl⟩:=Bc ae;have X7:=HH (b.o.next b7);have F7:=HH (fun x y z=>JX (w:=w) af.rd ae H X7.o.bel x y z);clear af ae b7 K L M N P Q g0 A C D E F i j r2 r3 r4 r5;obtain⟨i,j,r2,r3,r4,r5⟩:=Aj X7.o.res;have ba:=Aa X7.o.res;go_wp2_with fail;refine aJ (v:=.tuple #[.agg #[Y R q.length c1,Y a2 l.length c2,I J n],Y O 0 0,.bool false,I J 2]) (by simp[bh,results115,go_sem,i,j,r2]) rfl ?_;exact⟨_,_,_,rfl,(F7.o _ _ _).1,(F7.o _ _ _).2.1,Af.nil _ _ _,(F7.o _ _ _).2.2⟩
 ·rw[W];clear W;have K1:=HH V;clear V;have KA:=HH ka;clear ka;have a8:¬(p<0):=by omega
  clear kp;go_enter func115,ntmps115;go_wp2_with fail;rw[←ai.o];have f:=DY nm k o s d r n _ _ q l (W3 w nm k o s d r (Y aq q.length cq) (Y aw l.length cw) n) (ah.o.below Cd) (X.o.below Cd) ay.o (by omega) (by omega);rw[K1.o] at f;refine f.mono ?_;clear f ai;rintro e w1 ⟨rfl,S⟩;have b:=HH (V3.first S);clear S;obtain⟨K,L,M,N,P,Q⟩:=Cy b.o.Bj;obtain⟨g0,A,C,D,E,F⟩:=Aj b.o.arg;obtain⟨i,j,r2,r3,r4,r5⟩:=Aj b.o.res;have am:=Aa b.o.Bj;have al:=Aa b.o.arg;have H:=Aa b.o.res;go_wp2_with fail;have f:=N2 aq q.length cq _ l n p w1 (X.o.below b.o.bel) (by omega);rw[KA.o] at f;refine f.mono ?_;clear f;rintro e w2 ⟨rfl,b2⟩;have h:=HH (b.o.next b2);clear b2 b K L M N P Q g0 A C D E F i j r2 r3 r4 r5 am al H;obtain⟨K,L,M,N,P,Q⟩:=Cy h.o.Bj;obtain⟨g0,A,C,D,E,F⟩:=Aj h.o.arg;obtain⟨i,j,r2,r3,r4,r5⟩:=Aj h.o.res;have am:=Aa h.o.Bj;have al:=Aa h.o.arg;have H:=Aa h.o.res;go_wp2_with fail;refine(Fe _ _ q l n w2 (ah.o.below h.o.bel) (X.o.below h.o.bel) (by omega) (by omega) HM.o).mono ?_;rintro e w7 ⟨bd,be,rfl,af,ae,b7⟩;obtain⟨R,c1,rfl⟩:=af.rd.C2;obtain⟨a2,c2,rfl⟩:=Bc ae;have X7:=HH (h.o.next b7);have F7:=HH (fun x y z=>JX (w:=w) af.rd ae H X7.o.bel x y z);clear af ae b7 K L M N P Q g0 A C D E F i j r2 r3 r4 r5;obtain⟨i,j,r2,r3,r4,r5⟩:=Aj X7.o.res;have ba:=Aa X7.o.res;go_wp2_with fail;refine aJ (v:=.tuple #[.agg #[Y R q.length c1,Y a2 l.length c2,I J n],Y O 0 0,.bool false,I J 2]) (by simp[bh,results115,go_sem,i,j,r2]) rfl ?_;exact⟨_,_,_,rfl,(F7.o _ _ _).1,(F7.o _ _ _).2.1,Af.nil _ _ _,(F7.o _ _ _).2.2⟩
 ·rw[W];clear W;have K1:=HH V;clear V;have KA:=HH ka;clear ka;have a8:¬(p<0):=by omega
  clear kp;have KT:Hq (Fh k s d r q l n=(q,[],6)):=by show _=_;rw[kq] at K1;simp[Fh,K1.o,kq]
  have KQ:=HH kq;clear kq;go_enter func115,ntmps115;go_wp2_with fail;rw[←ai.o];have f:=DY nm k o s d r n _ _ q l (W3 w nm k o s d r (Y aq q.length cq) (Y aw l.length cw) n) (ah.o.below Cd) (X.o.below Cd) ay.o (by omega) (by omega);rw[K1.o] at f;refine f.mono ?_;clear f ai;rintro e w1 ⟨rfl,S⟩;have b:=HH (V3.first S);clear S;obtain⟨K,L,M,N,P,Q⟩:=Cy b.o.Bj;obtain⟨g0,A,C,D,E,F⟩:=Aj b.o.arg;obtain⟨i,j,r2,r3,r4,r5⟩:=Aj b.o.res;have am:=Aa b.o.Bj;have al:=Aa b.o.arg;have H:=Aa b.o.res;go_wp2_with fail;have f:=N2 aq q.length cq _ l n p w1 (X.o.below b.o.bel) (by omega);rw[KA.o] at f;refine f.mono ?_;clear f;rintro e w2 ⟨rfl,b2⟩;have h:=HH (b.o.next b2);clear b2 b K L M N P Q g0 A C D E F i j r2 r3 r4 r5 am al H;obtain⟨K,L,M,N,P,Q⟩:=Cy h.o.Bj;obtain⟨g0,A,C,D,E,F⟩:=Aj h.o.arg;obtain⟨i,j,r2,r3,r4,r5⟩:=Aj h.o.res;have am:=Aa h.o.Bj;have al:=Aa h.o.arg;have H:=Aa h.o.res;go_wp2_with fail;have f:=QD nm k o s d r n _ _ q l w2 (ah.o.below h.o.bel) (X.o.below h.o.bel) ay.o (by omega) (by omega) HM.o;rw[show Fh k s d r q l n=(q,[],6) from KT.o] at f;refine f.mono ?_;clear f;rintro e w3 ⟨bo,bp,aX,rfl,aE,aD,aF,b3⟩;obtain⟨R,m1,c1,rfl,aT⟩:=aE.shape;obtain⟨a2,c2,rfl⟩:=Bc aD;obtain⟨a3,m3,c3,rfl⟩:∃ a m c,aX=Y a m c:=by obtain⟨a,c,f,_⟩:=aF.open_;exact⟨a,_,c,f⟩
  clear aT;have X3:=HH (h.o.next b3);have bm:w2.heap.size≤w3.heap.size:=b3.size;obtain⟨RQ,FR,RX⟩:=H3 aE aD aF;clear b3 h aE aD aF K L M N P Q g0 A C D E F i j r2 r3 r4 r5;obtain⟨i,j,r2,r3,r4,r5⟩:=Aj X3.o.res;have a9:=Aa X3.o.res;go_wp2_with fail;refine(JV _ l ⟨p,u,0⟩ _ (FR.o.alloc _).rd (by omega)).mono ?_;rintro e w5 ⟨v5,rfl,aU,aM⟩;obtain⟨a5,c5,rfl⟩:=Bq aU;have X5:=HH ((X3.o.next ((aW _ _).alloc (aH _) (T #[Y R m1 c1,Y a2 l.length c2,I J n] 107))).next aM);have aS:w5.heap[w3.heap.size]? =Z (T #[Y R m1 c1,Y a2 l.length c2,I J n] 107 (0,0)):=(aM.block _ (by simp)).trans (aV w3 _);have bw:w3.heap.size+1≤w5.heap.size:=by have:=aM.size;simpa using this
  have F5:Hq (Aq w5 (w3.heap.size+1) (Y a5 (Cl l ⟨p,u,0⟩).length c5) (Cl l ⟨p,u,0⟩)):=by show Aq _ _ _ _;have:=Aq.Bw aU;simpa using this
  obtain⟨o0,o1,o2,o3,o4,o5⟩:=Aj aS;have bs:=Aa aS;clear aU aM i j r2 r3 r4 r5 aS;obtain⟨i,j,r2,r3,r4,r5⟩:=Aj X5.o.res;have bu:=Aa X5.o.res;generalize (Cl l ⟨p,u,0⟩).length=m5 at F5 ⊢;go_wp2_with fail;refine aJ (v:=.tuple #[.agg #[Y R m1 c1,Y a5 m5 c5,I J n],Y O 0 0,.bool false,I J 0]) (by simp[bh,results115,go_sem,i,j,r2]) rfl ?_;have hB:=X5.o.bel.setCell (p:=⟨w3.heap.size,1,O⟩) (by show w.heap.size≤w3.heap.size;omega) (Y a5 m5 c5);have hF:=JX (w:=w) (B:=w3.heap.size+1) (A6.empty RQ.o KQ.o) (F5.o.low (g:=w3.heap.size) (o:=1) (u:=Y a5 m5 c5) (by omega)) (by omega) hB (Y R m1 c1) (Y a5 m5 c5) (I J n);exact⟨_,_,_,rfl,hF.1,hF.2.1,Af.nil _ _ _,hF.2.2⟩
 ·rw[W];clear W;have K1:=HH V;clear V;have KA:=HH ka;clear ka;have a8:¬(p<0):=by omega
  clear kp;have KT:Hq (Fh k s d r q l n=(t,x,0)):=by show _=_;rw[kq] at K1;simp[Fh,K1.o,kq]
  clear kq;go_enter func115,ntmps115;go_wp2_with fail;rw[←ai.o];have f:=DY nm k o s d r n _ _ q l (W3 w nm k o s d r (Y aq q.length cq) (Y aw l.length cw) n) (ah.o.below Cd) (X.o.below Cd) ay.o (by omega) (by omega);rw[K1.o] at f;refine f.mono ?_;clear f ai;rintro e w1 ⟨rfl,S⟩;have b:=HH (V3.first S);clear S;obtain⟨K,L,M,N,P,Q⟩:=Cy b.o.Bj;obtain⟨g0,A,C,D,E,F⟩:=Aj b.o.arg;obtain⟨i,j,r2,r3,r4,r5⟩:=Aj b.o.res;have am:=Aa b.o.Bj;have al:=Aa b.o.arg;have H:=Aa b.o.res;go_wp2_with fail;have f:=N2 aq q.length cq _ l n p w1 (X.o.below b.o.bel) (by omega);rw[KA.o] at f;refine f.mono ?_;clear f;rintro e w2 ⟨rfl,b2⟩;have h:=HH (b.o.next b2);clear b2 b K L M N P Q g0 A C D E F i j r2 r3 r4 r5 am al H;obtain⟨K,L,M,N,P,Q⟩:=Cy h.o.Bj;obtain⟨g0,A,C,D,E,F⟩:=Aj h.o.arg;obtain⟨i,j,r2,r3,r4,r5⟩:=Aj h.o.res;have am:=Aa h.o.Bj;have al:=Aa h.o.arg;have H:=Aa h.o.res;go_wp2_with fail;have f:=QD nm k o s d r n _ _ q l w2 (ah.o.below h.o.bel) (X.o.below h.o.bel) ay.o (by omega) (by omega) HM.o;rw[show Fh k s d r q l n=(t,x,0) from KT.o] at f;refine f.mono ?_;clear f;rintro e w3 ⟨bo,bp,aX,rfl,aE,aD,aF,b3⟩;obtain⟨R,m1,c1,rfl,aT⟩:=aE.shape;obtain⟨a2,c2,rfl⟩:=Bc aD;obtain⟨a3,m3,c3,rfl⟩:∃ a m c,aX=Y a m c:=by obtain⟨a,c,f,_⟩:=aF.open_;exact⟨a,_,c,f⟩
  clear aT;have X3:=HH (h.o.next b3);have bm:w2.heap.size≤w3.heap.size:=b3.size;obtain⟨RQ,FR,RX⟩:=H3 aE aD aF;clear b3 h aE aD aF K L M N P Q g0 A C D E F i j r2 r3 r4 r5;obtain⟨i,j,r2,r3,r4,r5⟩:=Aj X3.o.res;have a9:=Aa X3.o.res;go_wp2_with fail;refine aJ (v:=.tuple #[.agg #[Y R m1 c1,Y a2 l.length c2,I J n],Y a3 m3 c3,.bool true,I J 0]) (by simp[bh,results115,go_sem,i,j,r2,a9]) rfl ?_;have hF:=JX (w:=w) RQ.o FR.o H X3.o.bel (Y R m1 c1) (Y a2 l.length c2) (I J n);have hI:=Uw (w:=w) RX.o H (Y R m1 c1) (Y a2 l.length c2) (I J n);exact⟨_,_,_,rfl,hF.1.alloc _,hF.2.1.alloc _,hI.alloc _,hF.2.2.alloc hF.2.2.size _⟩
structure LQ(W:aG)(g:Nat)(vq vw:ax)(n:Int)(q:List (List Int))(l:List Wt):Prop where
 blk:W.heap[g]? =Z (T #[vq,vw,I J n] 107 (0,0))
 rq:A6 W 0 vq q
 fr:Aq W 0 vw l
section
variable {W W':aG} {g B:Nat} {vq vw vq' vw':ax} {n n':Int} {q q':List (List Int)} {l l':List Wt}
def LQ.next(h:LQ W g vq vw n q l)(a:Bl W W'):LQ W' g vq vw n q l:=⟨(a.block _ (Aa h.blk)).trans h.blk,h.rq.below a,h.fr.below a⟩
def LQ.alloc(h:LQ W g vq vw n q l)(o:Obj):LQ (W.alloc o) g vq vw n q l:=h.next ((aW _ _).alloc (aH _) _)
def LQ.new(b:A6 W B vq q)(a:Aq W B vw l):LQ (W.alloc (T #[vq,vw,I J n] 107)) W.heap.size vq vw n q l:=
 ⟨aV W _,(b.mono (a4 _)).alloc _,(a.mono (a4 _)).alloc _⟩
def Ll(W:aG)(g:Nat)(x y z:ax):aG:=((W.setCell ⟨g,0,O⟩ x).setCell ⟨g,1,O⟩ y).setCell ⟨g,2,O⟩ z
def PT{a b c x y z:ax}{t:br}(h:W.heap[g]? =Z (T #[a,b,c] t (0,0))):(Ll W g x y z).heap[g]? =Z (T #[x,y,z] t (0,0)):=
 (set3 (set3 (set3 h x).1 y).2.1 z).2.2
def LQ.put(h:LQ W g vq vw n q l)(c:A6 W B vq' q')(b:Aq W B vw' l')(a:g<B)(n':Int):LQ (Ll W g vq' vw' (I J n')) g vq' vw' n' q' l':=
 ⟨PT h.blk,(((c.low a).low a).low a).mono (a4 _),(((b.low a).low a).low a).mono (a4 _)⟩
def LQ.cells(h:LQ W g vq vw n q l):W.cell? ⟨g,0,O⟩=Z vq∧W.cell? ⟨g,1,O⟩=Z vw∧W.cell? ⟨g,2,O⟩=Z (I J n)∧W.frozen? ⟨g,0,O⟩=false∧W.frozen? ⟨g,1,O⟩=false∧W.frozen? ⟨g,2,O⟩=false:=Aj h.blk
end
def Ds(w:aG)(B:Nat)(v:ax)(a:List (List Wt)):Prop:=
 ∃ vs:List ax,Sl w B 1 v a.length vs∧∀ (i:Nat) u x,vs[i]? =Z u→a[i]? =Z x→Al w B u x
section
variable {w w':aG} {B B':Nat} {v:ax} {ls:List (List Wt)}
def Ds.below(h:Ds w B v ls)(a:Bl w w'):Ds w' B v ls:=by
 obtain⟨vs,b,c⟩:=h;exact⟨vs,b.below a,fun i u x d e=>(c i u x d e).below a⟩
def Ds.shape(h:Ds w B v ls):∃ a c,v=Y a ls.length c:=by
 obtain⟨vs,⟨a,c,b,_⟩,_⟩:=h;exact⟨a,c,b⟩
def Ds.one{t:br}{u:ax}{x:List Wt}{g:Nat}(c:w.heap.size=g)(h:Al w 0 u x):Ds (w.alloc (T #[u] t)) 0 (Y (Z ⟨g,0,O⟩) 1 1) [x]:=by
 subst c;refine⟨[u],⟨_,_,rfl,aH _,by simp,rfl,fun _=>⟨w.heap.size,0,rfl,a4 _,by simp,fun j y e=>?_⟩⟩,fun i y z a b=>?_⟩
 ·have d:=aV w (T #[u] t);simp only[bT,d];simpa using e
 ·cases i with
  |zero=>simp at a b;subst a;subst b;exact h.alloc _
  |succ i=>simp at a
def Ds.two{t:br}{u c:ax}{x d:List Wt}{g:Nat}(f:w.heap.size=g)(h:Al w 0 u x)(e:Al w 0 c d):Ds (w.alloc (T #[u,c] t)) 0 (Y (Z ⟨g,0,O⟩) 2 2) [x,d]:=by
 subst f;refine⟨[u,c],⟨_,_,rfl,aH _,by simp,rfl,fun _=>⟨w.heap.size,0,rfl,a4 _,by simp,fun j y l=>?_⟩⟩,fun i y z a b=>?_⟩
 ·have k:=aV w (T #[u,c] t);simp only[bT,k];simpa using l
 ·match i,a,b with
  |0,a,b=>simp at a b;subst a;subst b;exact h.alloc _
  |1,a,b=>simp at a b;subst a;subst b;exact e.alloc _
  |i+2,a,b=>simp at a
end
def ND(g:Nat)(a:Array ax)(p:List Wt→Bool)(w:aG)(Q:List Wt→Prop):Prop:=
 ∀ (W:aG) (u:ax) (x:List Wt),Bl w W→Al W 0 u x→Q x→bq prog g (#[u]++a) W fun e w'=>e=.returned (.bool (p x))∧Bl w w'
def UT(v:ax)(l:List (List Wt))(g:Nat)(F:Array ax)(p:List Wt→Bool)(eg:∀ args w,(callFunc g args).run prog w=.ok (.enter g args) w)(w:aG)(h:Ds w 0 v l)(hl:l.length≤1000000)(Q:List Wt→Prop)(u:∀ x∈l,Q x)(B:ND g F p w Q):
  bq prog 213 #[v,.func (.func g) #[] F] w fun e w'=>e=.returned (I J (DL p l))∧Bl w w':=by
 obtain⟨vs,⟨ao,q,rfl,af,aj,E,H⟩,y⟩:=h;obtain⟨L,N,M,K,P⟩:=H5 B u H y E;clear B H y E u;go_enter func213,ntmps213;go_wp2
 go_loopg [5,8] l.length (fun S _ s8 wr=>∃ k:Nat,k≤l.length∧l.length-k≤S∧s8=I J k∧Hq (Bl w wr)∧Hq (∀ j (d:j<k) (z:j<l.length),p l[j]=false))
 case atStart=>exact⟨0,a4 _,by omega,rfl,aW _ w,fun j d=>absurd d (Nat.not_lt_zero _)⟩
 case round=>
  obtain⟨k,hk,hg,rfl,f,A⟩:=hrel;by_cases s:k<l.length
  ·have X:(k:Int)<(l.length:Int):=by omega
   obtain⟨b,al,rfl,_,V,q⟩:=M.o (by omega);have W:k<vs.length:=by have:=P.o;omega
   have t:vs[k]? =Z vs[k]:=bi W;have C:l[k]? =Z l[k]:=bi s;have n:=q k _ t;have R:=(K.o k _ _ t C).below f.o;rw[←f.o.cell (p:=⟨b,_,O⟩) V] at n;obtain⟨au,mu,D,_,_,_⟩:=R.open_;rw[D] at n R;have a:=L.o wr _ l[k] f.o R (N.o _ (List.getElem_mem s));generalize aa:l[k].length=nq at n a;clear aa;clear q t C D R;cases c:p l[k] with
   |true=>
    rw[c] at a;obtain⟨i,m⟩:=H2 a c;clear a c;go_wp2_with (refine i.o.mono ?_;rintro e w' ⟨rfl,r⟩);go_ret;exact⟨EH (JY p l k s m.o A.o).symm,r⟩
   |false=>
    rw[c] at a;obtain⟨i,m⟩:=H2 a c;clear a c;go_wp2_with (refine i.o.mono ?_;rintro e w' ⟨rfl,r⟩)
    go_roundg (l.length-(k+1))
    case measure=>omega
    case rel=>
     refine⟨k+1,by omega,by omega,by go_num,r,fun j d z=>?_⟩;by_cases e:j=k
     ·subst e;exact m.o
     ·exact A.o j (by omega) z
  ·have X:¬(k:Int)<(l.length:Int):=by omega
   go_wp2;go_ret;exact⟨EH (JZ p l (fun j d=>A.o j (by omega) d)).symm,f.o⟩
def Sr(v:ax)(l:List (List Wt))(g:Nat)(a:Array ax)(p:List Wt→Bool)(c:∀ args w,(callFunc g args).run prog w=.ok (.enter g args) w)(w:aG)(h:Ds w 0 v l)(j:l.length≤1000000)(Q:List Wt→Prop)(d:∀ x∈l,Q x)(f:ND g a p w Q):
  bq prog 202 #[v,.func (.func g) #[] a] w fun e w'=>e=.returned (.bool (l.any p))∧Bl w w':=by
 have b:=HH (UT v l g a p c w h j Q d f);rw[←KI];generalize DL p l=q at b ⊢;clear h f c d;go_enter func202,ntmps202;go_wp2_with (go_at_call 213;refine b.o.mono ?_;rintro e w' ⟨rfl,i⟩);go_ret;exact⟨rfl,i⟩
def Xb(u:ax)(x:List Wt)(w W:aG)(g:Bl w W)(h:Al W 0 u x)(i:Ck x∧x.length≤100000):
  bq prog 203 #[u] W fun e w'=>e=.returned (.bool (!decide (AY x)))∧Bl w w':=by
 obtain⟨d,b⟩:=H2 (Li u x W h i.1 i.2) g;generalize decide (AY x)=k at d ⊢;obtain⟨a,c,rfl,_⟩:=h.open_;clear g h;go_enter func203,ntmps203;go_wp2_with fail;refine d.o.mono ?_;rintro e l ⟨rfl,f⟩;have j:=HH (b.o.trans (f.mono b.o.size));clear f;go_wp2_with fail;go_ret;exact⟨rfl,j.o⟩
def Pt(v:ax)(b:List (List Wt))(w:aG)(h:Ds w 0 v b)(k:b.length≤1000000)(g:∀ x∈b,Ck x∧x.length≤100000):
  bq prog 188 #[v] w fun e w'=>e=.returned (.bool (!b.any (fun x=>!decide (AY x))))∧Bl w w':=by
 have d:=HH (Sr v b 203 #[] (fun x=>!decide (AY x)) (Gn func203 (by kernel_rfl) rfl) w h k (fun x=>Ck x∧x.length≤100000) g (fun W u x j l m=>Xb u x w W j l m));generalize b.any (fun x=>!decide (AY x))=n at d ⊢;obtain⟨a,c,rfl⟩:=h.shape;clear h g;go_enter func188,ntmps188;go_wp2_with fail;refine d.o.mono ?_;rintro e p ⟨rfl,f⟩;have i:=HH f;clear f;go_wp2_with fail;go_ret;exact⟨rfl,i.o⟩
def RE(x:Wt)(w W:aG)(b:Bl w W):
  bq prog 204 #[.agg #[I J x.proc,I J x.prio,I U x.val]] W fun e w'=>e=.returned (.bool (x.val !=0))∧Bl w w':=by
 have a:=HH b;clear b;go_enter func204,ntmps204;go_wp2;go_ret;exact⟨rfl,a.o.alloc a.o.size _⟩
def Oa(v:ax)(l:List Wt)(w:aG)(h:Al w 0 v l)(i:l.length≤1000000):
  bq prog 189 #[v] w fun e w'=>e=.returned (.bool (!l.any (fun x=>x.val !=0)))∧Bl w w':=by
 have b:=HH (JS v l 204 #[] (fun x=>x.val !=0) (Gn func204 (by kernel_rfl) rfl) w h i (fun W x g=>RE x w W g));generalize l.any (fun x=>x.val !=0)=j at b ⊢;obtain⟨a,c,rfl,_⟩:=h.open_;clear h;go_enter func189,ntmps189;go_wp2_with fail;refine b.o.mono ?_;rintro e k ⟨rfl,d⟩;have f:=HH d;clear d;go_wp2_with fail;go_ret;exact⟨rfl,f.o⟩
def UL(n:Nat)(w:aG)(v:n≤1000000):
  bq prog 205 #[Y O 0 0,I J n] w (II w []):=by
 obtain⟨s,f,h,i,j⟩:=bK Ix;by_cases p:n=0
 ·subst p;go_enter func205,ntmps205;go_wp2_with fail;go_ret;exact⟨_,rfl,bz _ _ _ _,aW _ w⟩
 ·have x:(0:Int)<(n:Int):=by omega
  have r:0<n:=by omega
  have g:∀ a,(bO #[93,3] a #[Y O 0 0,I J n]).run prog w=_:=fun a=>Lib.run_append_nil_zeros w 93 3 a 161 s (.agg #[I J 0,I J 0,I U 0]) J J underlying93 underlying3 f h n r (by rw[i];decide) (by omega) (by rw[j];omega);have e:=grownCap_ge w n 0 161;have k:Hq (∀ o,Bl w (w.drew.alloc o)):=fun o=>((aW _ w).drew).alloc (aH _) o;have l:Hq (∀ c,n≤c→c≤bJ→(w.drew.alloc (T (bM (bU (.agg #[I J 0,I J 0,I U 0])) n++bM (bU (.agg #[I J 0,I J 0,I U 0])) (c-n)) 161)).ownsRow w.heap.size 161 3 (Y (Z ⟨w.heap.size,0,O⟩) 0 c) 0 []):=fun c t q=>World.ownsRow_made w.drew _ c (aH _) q (by rw[Array.size_append,size_zeroCells,size_zeroCells];show n*3+(c-n)*3=c*3;omega);have d:=grownCap_le_maxLen w n 0 161 (by unfold bJ;omega);have b:=HH d;clear f h i j d;generalize grownCap w n 0 161=m at g e b;have u:(0:Int)≤(m:Int):=by omega
  go_enter func205,ntmps205;go_wp2_with (at_builtin;refine bL _ rfl _ _ _ _ rfl _ _ rfl rfl _ _ (g _) ?_);go_ret;exact⟨_,rfl,l.o _ e b.o,k.o _⟩
def Cm(a:List (List Wt)):List Wt:=a.flatten
def IW(x:List Wt):Cm [x]=x:=by simp[Cm]
def OF(x y:List Wt):Cm [x,y]=x++y:=by simp[Cm]
def OE(a:List (List Wt))(k:Nat)(b:k<a.length):Cm (a.take (k+1))=Cm (a.take k)++a[k]:=by
 unfold Cm;rw[bF b,bN];simp
def KO(a:List (List Wt))(k:Nat):(Cm (a.take k)).length≤(Cm a).length:=by
 unfold Cm
 conv=>rhs;rw[←List.take_append_drop k a,bN,aZ]
 omega
def Sq(v:ax)(d:List (List Wt))(w:aG)(h:Ds w 0 v d)(hl:d.length≤1000000)(hf:(Cm d).length≤100000):
  bq prog 190 #[v] w (II w (Cm d)):=by
 obtain⟨i0,hi,aO,aP,aQ⟩:=bK Ix;obtain⟨vs,⟨ao,ca,rfl,a3,a9,ap,pa⟩,aj⟩:=h;obtain⟨W,S,X⟩:=H3 pa aj ap;have af:Hq (∀ k (L:k<d.length),∃ b r a c,ao=Z ⟨b,r,O⟩∧b<w.heap.size∧w.cell? ⟨b,r+k,O⟩=Z (.slice a d[k].length c)∧Al w 0 (.slice a d[k].length c) d[k]):=fun k L=>by
  obtain⟨b,r,F,_,h2,h3⟩:=W.o (by omega);have aK:k<vs.length:=by have:=X.o;omega
  have x:vs[k]? =Z vs[k]:=bi aK;have m:=S.o k _ _ x (bi L);have h4:=h3 k _ x;obtain⟨a,c,he,_⟩:=m.open_;rw[he] at h4 m;exact⟨b,r,a,c,F,h2,h4,m⟩
 clear pa aj ap W S X;go_enter func190,ntmps190;go_wp2
 go_loopg [3,5,11] d.length (fun D s3 _ aR wr=>∃ k:Nat,k≤d.length∧d.length-k≤D∧aR=I J k∧s3=I J ((Cm (d.take k)).length:Nat)∧wr=w)
 case atStart=>exact⟨0,a4 _,by omega,rfl,rfl,rfl⟩
 case round=>
  obtain⟨k,L,hg,rfl,rfl,aq⟩:=hrel;obtain rfl:w=wr:=aq.symm;clear aq;have al:=KO d k;by_cases t:k<d.length
  ·have M:(k:Int)<(d.length:Int):=by omega
   obtain⟨b,r,a,c,rfl,K,B,_⟩:=af.o k t;have f:=HH (congrArg List.length (OE d k t));have am:=KO d (k+1);have Q:(Cm (d.take k)).length+d[k].length≤100000:=by have:=f.o;rw[aZ] at this;omega
   generalize hA:(Cm (d.take k)).length=A at al Q f ⊢;generalize hC:d[k].length=C at B Q f;have s:Hq ((((Cm (d.take (k+1))).length:Nat):Int)=(A:Int)+(C:Int)):=by show _=_;have:=f.o;rw[aZ] at this;omega
   clear hA hC f am;go_wp2
   go_roundg (d.length-(k+1))
   case measure=>omega
   case rel=>exact⟨k+1,by omega,by omega,by go_num,by rw[s.o],rfl⟩
  ·have M:¬(k:Int)<(d.length:Int):=by omega
   obtain rfl:k=d.length:=by omega
   rw[bR] at al ⊢;go_wp2_with fail;refine(UL _ _ (by omega)).mono ?_;rintro e w1 ⟨v1,rfl,P,b1⟩;obtain⟨V,R⟩:=H2 P b1;obtain⟨a1,c1,rfl⟩:=Bq P;clear P b1;go_wp2_with fail
   go_loopg [6,8,27] d.length (fun D s6 _ aS wr=>∃ k:Nat,k≤d.length∧d.length-k≤D∧aS=I J k∧Hq (wr.ownsRow w.heap.size 161 3 s6 (Cm (d.take k)).length (cellsW (Cm (d.take k)))∧Bl w wr))
   case atStart=>exact⟨0,a4 _,by omega,rfl,V.o,R.o⟩
   case round=>
    obtain⟨k,a7,a5,rfl,A⟩:=hrel;clear V R;obtain⟨i,l⟩:=A.o;clear A;have am:=KO d k;obtain⟨a6,c6,aN⟩:=Bq i;subst aN;by_cases t:k<d.length
    ·have M:(k:Int)<(d.length:Int):=by omega
     obtain⟨b,r,a,c,rfl,K,B,m⟩:=af.o k t;rw[←l.cell (p:=⟨b,_,O⟩) K] at B;have a2:b<wr.heap.size:=bE K l.size;have RB:=m.below l;have f:=HH (OE d k t);have Q:(Cm (d.take k)).length+d[k].length≤100000:=by have F:=KO d (k+1);rw[f.o,aZ] at F;omega
     have s:Hq (∀ (z:ax) (w':aG),w'.ownsRow w.heap.size 161 3 z ((Cm (d.take k)).length+d[k].length) (cellsW (Cm (d.take k))++cellsW d[k])→w'.ownsRow w.heap.size 161 3 z (Cm (d.take (k+1))).length (cellsW (Cm (d.take (k+1))))):=fun z w' h=>by rw[f.o,aZ,JQ];exact h
     obtain⟨q,n⟩:=H2 i l;obtain⟨aX,a0,an,_,N,ak,y⟩:=RB;simp only[bB] at an;obtain⟨rfl,_,rfl⟩:=an;cases a with
     |none=>
      have E:d[k].length=0:=by
       apply Classical.byContradiction;intro ba;obtain⟨_,_,H,_⟩:=y (by omega);cases H
      have ae:=N rfl;rw[E,ae] at B;have HZ:Hq (d[k]=[]):=bG E;have aw:Hq (wr.ownsRow w.heap.size 161 3 (Y a6 (Cm (d.take k)).length c6) (Cm (d.take (k+1))).length (cellsW (Cm (d.take (k+1))))):=s.o _ _ (by rw[HZ.o];simpa[JR] using q.o);clear i l E ae y N ak m f s;go_wp2_with (at_builtin;refine wpList_append_own_none rfl _ _ 93 rfl w.heap.size 161 i0 3 underlying93 hi _ _ _ rfl q.o rfl ?_)
      go_roundg (d.length-(k+1))
      case measure=>omega
      case rel=>exact⟨k+1,by omega,by omega,by go_num,aw.o,n.o⟩
     |some ad=>
      have A:Hq (∀ j u,(cellsW d[k])[j]? =Z u→wr.cell? (ad.add j)=Z u):=by
       intro j u x;have aL:=(bA.1 x).1;obtain⟨b2,bb,H,_,_,hc⟩:=y (by rw[DI] at aL;omega);cases H;rw[Cu];exact hc j u x
      have ay:=HH (DI d[k]);clear i l y N ak m f;go_wp2_with (at_builtin;refine bS _ rfl _ _ 93 rfl w.heap.size 161 i0 (.agg #[I J 0,I J 0,I U 0]) 3 24 underlying93 hi aO aP aQ rfl (by decide) _ _ _ rfl q.o ad d[k].length c (cellsW d[k]) rfl ?qc1 ?qc2 ?qc3 ?qc4 ?qc5 ?qc6 ?_)
      case qc1=>exact ay.o
      case qc2=>exact A.o
      case qc3=>exact MN _
      case qc4=>unfold bJ;omega
      case qc5=>omega
      case qc6=>exact n.o.size
      intro z w1 i ah aM;obtain⟨HN,av⟩:=H2 (s.o _ _ i) (Below.grown n.o ah n.o.size (fun g hg=>(q.o.lt g hg).1));clear i ah aM;go_wp2_with fail
      go_roundg (d.length-(k+1))
      case measure=>omega
      case rel=>exact⟨k+1,by omega,by omega,by go_num,HN.o,av.o⟩
    ·have M:¬(k:Int)<(d.length:Int):=by omega
     obtain rfl:k=d.length:=by omega
     rw[bR] at i ⊢;obtain⟨q,n⟩:=H2 i l;clear i l;go_wp2_with fail;go_ret;exact⟨_,rfl,q.o,n.o⟩
def RI(x:Wt)(g:Nat)(q:Int)(w W:aG)(c:w.cell? ⟨g,0,O⟩=Z (I J q))(d:g<w.heap.size)(a:Bl w W):
  bq prog 191 #[.agg #[I J x.proc,I J x.prio,I U x.val],G (Z ⟨g,0,O⟩)] W fun e w'=>e=.returned (.bool (decide (x.proc=q)))∧Bl w w':=by
 have f:W.cell? ⟨g,0,O⟩=Z (I J q):=(a.cell (p:=⟨g,0,O⟩) d).trans c;have i:g<W.heap.size:=bE d a.size;have b:=HH a;clear a c;go_enter func191,ntmps191;go_wp2;go_ret;exact⟨A8 (by by_cases h:x.proc=q<;>simp[h]),b.o.alloc b.o.size _⟩
def KB(q:Int)(v:ax)(b:List (List Wt))(w:aG)(h:Ds w 0 v b)(K:b.length≤1000000)(H:(Cm b).length≤100000):
  bq prog 165 #[I J q,v] w fun e w'=>e=.returned (.bool ((Cm b).any fun x=>decide (x.proc=q)))∧Bl w w':=by
 obtain⟨d,f⟩:=ex (w.alloc (T #[I J q] 3));have j:Bl w d:=by subst f;exact(aW _ w).alloc (aH _) _
 have y:d.heap[w.heap.size]? =Z (T #[I J q] 3 (0,0)):=by subst f;exact aV w _
 have t:=HH (Sq v b d (h.below j) K H);obtain⟨N,n⟩:=ex ((Cm b).any fun x=>decide (x.proc=q));rw[←n];have D:=HH n;clear n;obtain⟨a,c,rfl⟩:=h.shape;obtain⟨p,s,E⟩:=H3 j y f;clear h j y f;go_enter func165,ntmps165;go_wp2_with fail;rw[←E.o];refine t.o.mono ?_;rintro e g ⟨L,rfl,m,i⟩;have k:=(i.block _ (Aa s.o)).trans s.o;have z:g.cell? ⟨w.heap.size,0,O⟩=Z (I J q):=by rw[aY g _ _ _ _ _ k];rfl
 have l:=(JS L (Cm b) 191 #[G (Z ⟨w.heap.size,0,O⟩)] (fun x=>decide (x.proc=q)) (Gn func191 (by kernel_rfl) rfl) g (Al.mono (B:=d.heap.size) (Sl.Bw m) (a4 _)) (by omega) (fun W x F=>RI x _ q g W z (Aa k) F));have r:=HH (p.o.trans (i.mono p.o.size));obtain⟨M,c1,rfl⟩:=Bq m;rw[←D.o] at l;have C:=HH l;clear l;clear m i k z t;go_wp2_with fail;refine C.o.mono ?_;rintro e P ⟨rfl,u⟩;have A:=HH (r.o.trans (u.mono r.o.size));clear u;go_wp2_with fail;go_ret;exact⟨rfl,A.o⟩
def Ty(w:aG)(B:Nat)(t:br)(sz:Nat)(v:ax)(n:Nat)(e:List ax):Prop:=
 ∃ (a:Option Addr) (cap:Nat),v=Y a n cap∧n≤cap∧e.length=n*sz∧(a=O→cap=0)∧
  (0<cap→∃ (b d:Nat) (c:Array ax),a=Z ⟨b,d,O⟩∧B≤b∧w.heap[b]? =Z (T c t (0,0))∧d+cap*sz≤c.size∧∀ j u,e[j]? =Z u→c[d+j]? =Z u)
section
variable {w w':aG} {B B' sz n:Nat} {t:br} {v:ax} {xs:List ax}
def Ty.Ag(h:Ty w B t sz v n xs)(m:∀ (b:Nat) (a:Array ax),w.heap[b]? =Z (Obj.cells a t (0,0))→w'.heap[b]? =Z (Obj.cells a t (0,0))):Ty w' B t sz v n xs:=by
 obtain⟨c,cap,p,e,f,g,o⟩:=h;refine⟨c,cap,p,e,f,g,fun d=>?_⟩;obtain⟨b,r,a,j,i,k,l,q⟩:=o d;exact⟨b,r,a,j,i,m b a k,l,q⟩
def Ty.below(h:Ty w B t sz v n xs)(b:Bl w w'):Ty w' B t sz v n xs:=h.Ag fun _ _ a=>(b.block _ (Aa a)).trans a
def Ty.alloc(h:Ty w B t sz v n xs)(o:Obj):Ty (w.alloc o) B t sz v n xs:=h.below ((aW _ _).alloc (aH _) _)
def Ty.drew(h:Ty w B t sz v n xs):Ty w.drew B t sz v n xs:=h
def Ty.set{g o c:Nat}{d:Array ax}{e:Nat×Nat}{u:ax}(h:Ty w B t sz v n xs)(f:w.heap[g]? =Z (T d c e))(i:c≠t):Ty (w.setCell ⟨g,o,O⟩ u) B t sz v n xs:=h.Ag fun b j a=>by
 refine(bg _ _ _ _ ?_).trans a;show b≠g;rintro rfl;rw[f] at a;simp only[bf,bD] at a;exact i a.2.1
def Ty.grown{g c:Nat}{d:Array ax}{f:Nat×Nat}(h:Ty w B t sz v n xs)(k:w.grownBy w' (Z g))(i:w.heap[g]? =Z (T d c f))(j:c≠t):Ty w' B t sz v n xs:=h.Ag fun b l a=>by
 refine(k.block b (Aa a) ?_).trans a;intro e;simp only[bf] at e;subst e;rw[i] at a;simp only[bf,bD] at a;exact j a.2.1
def Ty.mono(h:Ty w B t sz v n xs)(m:B'≤B):Ty w B' t sz v n xs:=by
 obtain⟨a,cap,k,e,f,g,j⟩:=h;refine⟨a,cap,k,e,f,g,fun d=>?_⟩;obtain⟨b,l,c,i,o,r⟩:=j d;exact⟨b,l,c,i,by omega,r⟩
def Ty.sl(h:Ty w B t sz v n xs):Sl w B sz v n xs:=by
 obtain⟨c,cap,m,d,e,f,k⟩:=h;refine⟨c,cap,m,d,f,e,fun r=>?_⟩;obtain⟨b,p,q,i,g,a,s,o⟩:=k (by omega);exact⟨b,p,i,g,Aa a,fun j u l=>(aY w _ _ _ _ _ a).trans (o j u l)⟩
def Ty.Bw(h:w.ownsRow B t sz v n xs):Ty w B t sz v n xs:=by
 rcases h.2 with ⟨rfl,rfl⟩|⟨g,cap,cur,rfl,d,e,f,_,k,i⟩
 ·exact⟨O,0,rfl,aH _,h.1,fun _=>rfl,fun b=>absurd b (by omega)⟩
 ·refine⟨_,cap,rfl,f,h.1,by simp,fun _=>⟨g,0,cur,rfl,d,e,by omega,fun j u a=>?_⟩⟩;have c:cur.toList[j]? =Z u:=by
   rw[←i,List.getElem?_take] at a;split at a
   ·exact a
   ·cases a
  rw[Nat.zero_add,←Array.getElem?_toList];exact c
def Ty.nil(w:aG)(B:Nat)(t:br)(sz:Nat):Ty w B t sz (Y O 0 0) 0 []:=⟨O,0,rfl,aH _,by simp,fun _=>rfl,fun h=>absurd h (by omega)⟩
def Ty.shape(h:Ty w B t sz v n xs):∃ a c,v=Y a n c:=by
 obtain⟨a,c,b,_⟩:=h;exact⟨a,c,b⟩
def Ty.tail{b a c:Nat}(h:Ty w B t sz (Y (Z ⟨b,a,O⟩) n c) n xs)(C:1≤n):Ty w B t sz (Y (if c=1 then Z ⟨b,a,O⟩ else Z ⟨b,a+sz,O⟩) (n-1) (c-1)) (n-1) (xs.drop sz):=by
 obtain⟨r,cap,g,y,k,z,p⟩:=h;simp only[bB] at g;obtain⟨rfl,_,rfl⟩:=g;obtain⟨m,rfl⟩:∃ m,n=m+1:=⟨n-1,by omega⟩;refine⟨_,_,rfl,by omega,?_,(by intro e;split at e<;>cases e),fun x=>?_⟩
 ·rw[List.length_drop,k,Nat.add_mul];simp
 obtain⟨s,D,i,d,l,o,A,q⟩:=p (by omega);simp only[bf,Addr.mk.injEq,and_true] at d;obtain⟨rfl,rfl⟩:=d;refine⟨b,a+sz,i,by rw[if_neg (by omega)],l,o,?_,fun j u f=>?_⟩
 ·have:(c-1)*sz+sz=c*sz:=by
   obtain⟨e,rfl⟩:∃ e,c=e+1:=⟨c-1,by omega⟩;simp[Nat.add_mul]
  omega
 ·rw[List.getElem?_drop] at f;have:=q _ _ f;rwa [←Nat.add_assoc] at this
end
def Tag(W:aG)(g:Nat)(t:br):Prop:=∃ a:Array ax,W.heap[g]? =Z (T a t (0,0))
def Tag.of{W:aG}{g:Nat}{t:br}{a:Array ax}(h:W.heap[g]? =Z (T a t (0,0))):Tag W g t:=⟨a,h⟩
def Tag.set{W:aG}{g a o:Nat}{t:br}{u:ax}(h:Tag W g t):Tag (W.setCell ⟨a,o,O⟩ u) g t:=by
 obtain⟨b,h⟩:=h;by_cases e:g=a
 ·subst e;exact⟨_,bc W g o _ _ u h⟩
 ·exact⟨b,(bg _ _ _ _ e).trans h⟩
def Ty.Kp{w:aG}{B sz n g o:Nat}{t b:br}{v u:ax}{c:List ax}(h:Ty w B t sz v n c)(a:Tag w g b)(d:b≠t):Ty (w.setCell ⟨g,o,O⟩ u) B t sz v n c:=by
 obtain⟨e,a⟩:=a;exact h.set a d
def Ty.set3{w:aG}{B sz n g:Nat}{t f:br}{v:ax}{i:List ax}(h:Ty w B t sz v n i)(d:Tag w g f)(e:f≠t)(a b c:ax):Ty (((w.setCell ⟨g,0,O⟩ a).setCell ⟨g,1,O⟩ b).setCell ⟨g,2,O⟩ c) B t sz v n i:=
 ((h.Kp d e).Kp d.set e).Kp d.set.set e
def Ax(w:aG)(B:Nat)(v:ax)(l:List Wt):Prop:=Ty w B 161 3 v l.length (cellsW l)
def AA(w:aG)(B:Nat)(v:ax)(l:List Int):Prop:=Ty w B 5 1 v l.length (l.map (bI U))
section
variable {w w':aG} {B B':Nat} {v:ax} {l:List Wt} {d:List Int}
def Ax.fr(h:Ax w B v l):Aq w B v l:=by
 refine⟨Ty.sl h,fun a n c k s j=>?_⟩;obtain⟨m,cap,e,p,q,r,i⟩:=h;subst k;simp only[bB] at e;obtain⟨rfl,rfl,rfl⟩:=e;obtain⟨b,t,o,f,_,g,_⟩:=i (by omega);cases f;simp[bC,g]
def Ax.rd(h:Ax w B v l):Al w 0 v l:=h.fr.rd
def AA.rd(h:AA w B v d):Af U w 0 v d:=Sl.mono (Ty.sl h) (a4 _)
def Ax.tail{b a c:Nat}{x:Wt}{m:List Wt}(h:Ax w B (Y (Z ⟨b,a,O⟩) l.length c) l)(e:l=x::m):Ax w B (Y (if c=1 then Z ⟨b,a,O⟩ else Z ⟨b,a+3,O⟩) (l.length-1) (c-1)) m:=by
 subst e;have:=Ty.tail h (by simp);rw[show (cellsW (x::m)).drop 3=cellsW m from rfl] at this;exact this
def AA.tail{b a c:Nat}{x:Int}{m:List Int}(h:AA w B (Y (Z ⟨b,a,O⟩) d.length c) d)(e:d=x::m):AA w B (Y (if c=1 then Z ⟨b,a,O⟩ else Z ⟨b,a+1,O⟩) (d.length-1) (c-1)) m:=by
 subst e;have:=Ty.tail h (by simp);exact this
end
def LC(w:aG)(a o:Nat)(c:Array ax)(B:Nat)(l:List Wt)(e:bP)(w':aG):Prop:=
 match l with
 | []=>e=.returned (.tuple #[.agg #[I J (-1),I J 0,I U 0],.bool false])∧Bl w w'
 |x::m=>∃ b,e=.returned (.tuple #[.agg #[I J x.proc,I J x.prio,I U x.val],.bool true])∧w'.heap[a]? =Z (T (c.setIfInBounds o b) 261 (0,0))∧Ax w' B b m∧w.grownBy w' (Z a)
def KN(b o:Nat)(d:Array ax)(B:Nat)(v:ax)(w:aG)(e:w.heap[b]? =Z (T d 261 (0,0)))(f:d[o]? =Z v)(h:Ax w B v []):
  bq prog 161 #[G (Z ⟨b,o,O⟩)] w (LC w b o d B []):=by
 obtain⟨a,c,rfl⟩:=Ty.shape h;have g:w.cell? ⟨b,o,O⟩=Z (Y a ([]:List Wt).length c):=(aY w _ _ _ _ _ e).trans f;have i:=Aa e;simp only[List.length_nil] at g;clear h f e;go_enter func161,ntmps161;go_wp2_with fail;refine aJ (v:=.tuple #[.agg #[I J (-1),I J 0,I U 0],.bool false]) (by simp[bh,results161,go_sem]) rfl ?_;exact⟨rfl,(aW _ w).alloc (aH _) _⟩
def Ax.head{w:aG}{B:Nat}{v:ax}{x:Wt}{m l:List Wt}(h:Ax w B v l)(i:l=x::m):∃ b a c,v=Y (Z ⟨b,a,O⟩) l.length c∧1≤l.length∧l.length≤c∧b<w.heap.size∧w.cell? ⟨b,a,O⟩=Z (I J x.proc)∧w.cell? ⟨b,a+1,O⟩=Z (I J x.prio)∧w.cell? ⟨b,a+2,O⟩=Z (I U x.val)∧∃ e,w.heap[b]? =Z (T e 161 (0,0)):=by
 subst i;obtain⟨n,cap,k,g,o,p,j⟩:=h;obtain⟨b,a,e,rfl,q,d,r,f⟩:=j (by simp at g;omega);refine⟨b,a,cap,k,by simp,g,Aa d,?_,?_,?_,e,d⟩
 ·rw[aY w _ _ _ _ _ d];exact f 0 _ rfl
 ·rw[aY w _ _ _ _ _ d];exact f 1 _ rfl
 ·rw[aY w _ _ _ _ _ d];exact f 2 _ rfl
def Ax.Nu{w:aG}{B b d c:Nat}{x:Wt}{m l:List Wt}(h:Ax w B (Y (Z ⟨b,d,O⟩) l.length c) l)(e:l=x::m)(a:c=1):Ax w B (Y (Z ⟨b,d,O⟩) (l.length-1) 0) m:=by
 have:=h.tail e;rw[if_pos a,a] at this;exact this
def Ax.L5{w:aG}{B b a c:Nat}{x:Wt}{m l:List Wt}(h:Ax w B (Y (Z ⟨b,a,O⟩) l.length c) l)(e:l=x::m)(d:¬c=1):Ax w B (Y (Z ⟨b,a+3,O⟩) (l.length-1) (c-1)) m:=by
 have:=h.tail e;rw[if_neg d] at this;exact this
def AA.Nu{w:aG}{B b d c:Nat}{x:Int}{m l:List Int}(h:AA w B (Y (Z ⟨b,d,O⟩) l.length c) l)(e:l=x::m)(a:c=1):AA w B (Y (Z ⟨b,d,O⟩) (l.length-1) 0) m:=by
 have:=h.tail e;rw[if_pos a,a] at this;exact this
def AA.L5{w:aG}{B b a c:Nat}{x:Int}{m l:List Int}(h:AA w B (Y (Z ⟨b,a,O⟩) l.length c) l)(e:l=x::m)(d:¬c=1):AA w B (Y (Z ⟨b,a+1,O⟩) (l.length-1) (c-1)) m:=by
 have:=h.tail e;rw[if_neg d] at this;exact this
def OQ(w:aG)(o:Obj):(w.alloc o).heap.size=w.heap.size+1:=by simp
def OA{w:aG}{a o B:Nat}{c:Array ax}{x:Wt}{m:List Wt}{b:ax}(X i:Obj)(f:w.heap[a]? =Z (T c 261 (0,0)))(n:Ax w B b m):
  LC w a o c B (x::m) (.returned (.tuple #[.agg #[I J x.proc,I J x.prio,I U x.val],.bool true])) (((w.setCell ⟨a,o,O⟩ b).alloc X).alloc i):=by
 have d:=bc w a o _ _ b f;have h:=Aa d;refine⟨b,rfl,?_,?_,?_⟩
 ·exact(aA _ _ _ (by rw[OQ];exact bQ h)).trans ((aA _ _ _ h).trans d)
 ·exact Ty.alloc (Ty.alloc (Ty.set n f (by decide)) _) _
 ·refine⟨rfl,rfl,rfl,by simp[bH];omega,fun k j l=>?_⟩;have g:k<(w.setCell ⟨a,o,O⟩ b).heap.size:=by simpa[bH] using j
  exact(aA _ _ _ (by rw[OQ];exact bQ g)).trans ((aA _ _ _ g).trans (bg _ _ _ _ (fun e=>l (by rw[e]))))
def Mj(a o:Nat)(f:Array ax)(B:Nat)(v:ax)(x:Wt)(m:List Wt)(w:aG)(d:w.heap[a]? =Z (T f 261 (0,0)))(k:f[o]? =Z v)(h:Ax w B v (x::m)):
  bq prog 161 #[G (Z ⟨a,o,O⟩)] w (LC w a o f B (x::m)):=by
 obtain⟨l,e⟩:=ex (x::m);rw[←e] at h;obtain⟨b,p,c,rfl,s,t,r,H,K,L,q,n⟩:=h.head e;have M:w.cell? ⟨a,o,O⟩=Z (Y (Z ⟨b,p,O⟩) l.length c):=(aY w _ _ _ _ _ d).trans k;have N:w.frozen? ⟨a,o,O⟩=false:=by simp[bC,d]
 have u:=Aa d;obtain⟨g,j,i⟩:=H3 d h e;have y:a≠w.heap.size:=by omega
 have z:a≠w.heap.size+1:=by omega
 have A:(l.length==0)=false:=by rw[beq_eq_false_iff_ne];omega
 have C:((l.length:Int)==0)=false:=by rw[beq_eq_false_iff_ne];omega
 have D:(1:Int)≤(l.length:Int):=by omega
 have E:(l.length:Int)≤(c:Int):=by omega
 have F:(0:Int)<(l.length:Int):=by omega
 clear h k d e n;go_enter func161,ntmps161;go_wp2_with fail
 all_goals
  refine aJ (v:=.tuple #[.agg #[I J x.proc,I J x.prio,I U x.val],.bool true]) (by simp[bh,results161,go_sem]) rfl ?_
  first
   |exact OA _ _ g.o (j.o.Nu i.o (by assumption))
   |exact OA _ _ g.o (j.o.L5 i.o (by assumption))
def OU:∃ a,prog.info? 5=Z a∧a.zero=Z (I U 0)∧a.size=1∧a.bytes=1:=by
 obtain⟨a,b,c,d,e⟩:=bK OT;exact⟨a,b,c,d,e⟩
def AA.append{W:aG}{B:Nat}{v:ax}{d:List Int}{x:Int}{g:Nat}(h:AA W B v d)(y:B≤W.heap.size)(hd:d.length≤90000)(V:W.heap[g]? =Z (T #[I U x] 5 (0,0)))(n:br):
  ∃ i w' row,(bO #[34,34] n #[v,Y (Z ⟨g,0,O⟩) 1 1]).run prog W=.ok i w'∧AA w' B i (d++ [x])∧W.grownBy w' row∧∀ b,row=Z b→B≤b∧∃ l,W.heap[b]? =Z (T l 5 (0,0)):=by
 obtain⟨t,p,E,k,F⟩:=OU;obtain⟨H,cap,hv,h1,h2,K,C⟩:=h;have q:∀ j u,([bI U x]:List ax)[j]? =Z u→W.cell? ((⟨g,0,O⟩:Addr).add j)=Z u:=by
  intro j u c
  match j,c with
  |0,c=>
   simp at c;subst c;rw[Cu,aY W _ _ _ _ _ V];rfl
 subst hv;by_cases D:d.length+1≤cap
 ·obtain⟨b,m,l,rfl,A,e,R,s⟩:=C (by omega);have f:=run_append_room_cells (P:=prog) W 34 n 5 t underlying34 p b m d.length cap ⟨g,0,O⟩ 1 1 [I U x] (by rw[k];rfl) q (by intro u c;simp at c;subst c;rfl) D
   (by
    intro j a;simp at a;subst a;rw[k,aY W _ _ _ _ _ e];simp;omega) (by intro j a;simp[bC,e])
  rw[k] at f;refine⟨_,_,Z b,f,?_,?_,?_⟩
  ·have L:=bc W b (m+d.length*1) _ _ (I U x) e;refine⟨_,cap,by rw[aZ];rfl,by rw[aZ];exact D,by simp,by simp,fun _=>⟨b,m,_,rfl,A,L,by simpa using R,fun j u a=>?_⟩⟩;rw[Array.getElem?_setIfInBounds];by_cases X:j<d.length
   ·rw[if_neg (by omega)];refine s j u ?_;rw[bx,List.getElem?_append_left (by simpa using X)] at a;exact a
   ·have aa:j=d.length:=by
     have:=(bA.1 a).1;simp at this;omega
    subst aa;rw[if_pos (by omega),if_pos (by omega)];rw[bx,List.getElem?_append_right (by simp)] at a;simpa using a
  ·exact KS W b _ _
  ·intro b' z;simp only[bf] at z;subst z;exact⟨A,l,e⟩
 ·have ac:(d++ [x]).length=d.length+1:=by simp
  have ae:d.length+1≤bJ:=by unfold bJ;omega
  cases H with
  |none=>
   have Q:=K rfl;have S:d=[]:=bG (by omega);subst S;subst Q;obtain⟨i,w',f,r,o,_⟩:=run_append_own (P:=prog) W W.heap.size 34 n 5 t (I U 0) 1 1 underlying34 p E k F rfl (by decide) (Y O 0 0) 0 [] (bz _ _ _ _) ⟨g,0,O⟩ 1 1 [I U x] rfl q (by intro u c;simp at c;subst c;rfl) (by unfold bJ;omega) (by omega) (aH _);refine⟨i,w',O,f,?_,o,by simp⟩;exact Ty.mono (Ty.Bw r) y
  |some w=>
   have af:∀ j u,(d.map (bI U))[j]? =Z u→W.cell? (w.add j)=Z u:=fun j u a=>by
    have ab:=(bA.1 a).1;simp at ab;obtain⟨b,m,l,N,_,e,_,s⟩:=C (by omega);cases N;rw[Cu,aY W _ _ _ _ _ e];exact s j u a
   obtain⟨i,w',f,r,o⟩:=run_append_arg_grows (P:=prog) W 34 n 5 t (I U 0) 1 1 underlying34 p E k F rfl (by decide) w d.length cap (d.map (bI U)) (by simp) af ⟨g,0,O⟩ 1 1 [I U x] rfl q (by omega) ae (by omega);refine⟨i,w',O,f,?_,o,by simp⟩;have M:=Ty.mono (Ty.Bw r) y;unfold AA;rw[ac,bx];exact M
def LL(w:aG)(c:Nat)(n:Int)(h g:ax)(B:Nat)(d:List Int)(e:bP)(w':aG):Prop:=
 ∃ f,e=.returned (.tuple #[])∧w'.heap[c]? =Z (T #[I J n,f,h,g] 261 (0,0))∧AA w' B f d∧Below B w w'∧w.heap.size≤w'.heap.size∧
  ∀ (k:Nat) (a:Array ax) (t:br) (b:Nat×Nat),k≠c→w.heap[k]? =Z (T a t b)→t≠5→w'.heap[k]? =Z (T a t b)
def Az{W:aG}{g:Nat}{a b c d:ax}{t:br}(h:W.heap[g]? =Z (T #[a,b,c,d] t (0,0))):
  W.cell? ⟨g,0,O⟩=Z a∧W.cell? ⟨g,1,O⟩=Z b∧W.cell? ⟨g,2,O⟩=Z c∧W.cell? ⟨g,3,O⟩=Z d∧W.frozen? ⟨g,0,O⟩=false∧W.frozen? ⟨g,1,O⟩=false∧W.frozen? ⟨g,2,O⟩=false∧W.frozen? ⟨g,3,O⟩=false:=by
 refine⟨?_,?_,?_,?_,?_,?_,?_,?_⟩
 ·rw[aY _ _ _ _ _ _ h];rfl
 ·rw[aY _ _ _ _ _ _ h];rfl
 ·rw[aY _ _ _ _ _ _ h];rfl
 ·rw[aY _ _ _ _ _ _ h];rfl
 all_goals simp[bC,h]
def I4{W:aG}{g:Nat}{a b c d:ax}{t:br}(h:W.heap[g]? =Z (T #[a,b,c,d] t (0,0)))(x:ax):
  (W.setCell ⟨g,0,O⟩ x).heap[g]? =Z (T #[x,b,c,d] t (0,0))∧(W.setCell ⟨g,1,O⟩ x).heap[g]? =Z (T #[a,x,c,d] t (0,0))∧(W.setCell ⟨g,2,O⟩ x).heap[g]? =Z (T #[a,b,x,d] t (0,0))∧(W.setCell ⟨g,3,O⟩ x).heap[g]? =Z (T #[a,b,c,x] t (0,0)):=by
 refine⟨?_,?_,?_,?_⟩
 ·have:=bc W g 0 _ _ x h;simpa using this
 ·have:=bc W g 1 _ _ x h;simpa using this
 ·have:=bc W g 2 _ _ x h;simpa using this
 ·have:=bc W g 3 _ _ x h;simpa using this
def Ns(a:Nat)(n x:Int)(v r q:ax)(B:Nat)(d:List Int)(w:aG)(i:w.heap[a]? =Z (T #[I J n,v,r,q] 261 (0,0)))(h:AA w B v d)(K:B≤a)(M:d.length≤90000):
  bq prog 162 #[G (Z ⟨a,0,O⟩),I U x] w (LL w a n r q B (d++ [x])):=by
 have Q:=Aa i;obtain⟨v',w',row,F,z,m,y⟩:=AA.append (g:=w.heap.size) (x:=x) (Ty.alloc h (T #[I U x] 5)) (by simp;omega) M (aV w _) 34;have N:(w.alloc (T #[I U x] 5)).heap[a]? =Z (T #[I J n,v,r,q] 261 (0,0)):=(aA _ _ _ Q).trans i;have hoth:∀ (k:Nat) (c:Array ax) (t:br) (f:Nat×Nat),w.heap[k]? =Z (T c t f)→t≠5→w'.heap[k]? =Z (T c t f):=fun k c t f j A=>by
  have E:=Aa j;refine(m.block k (by simp;omega) (fun e=>?_)).trans ((aA _ _ _ E).trans j);obtain⟨_,W,u⟩:=y k e.symm;rw[(aA _ _ _ E).trans j] at u;simp only[bf,bD] at u;exact A u.2.1
 have l:=hoth a _ _ _ i (by decide);have aa:w.heap.size<w'.heap.size:=by have:=m.size;simp at this;omega
 have D:Below B w w':=(((aW B w).alloc (by omega) (T #[I U x] 5))).grown m (by simp;omega) (fun b L=>(y b L).1);obtain⟨V,c1,rfl⟩:=Ty.shape h;obtain⟨y0,S,y2,y3,_,_,_,_⟩:=Az i;obtain⟨z0,z1,z2,z3,z4,z5,z6,z7⟩:=Az l;obtain⟨H,c2,R⟩:=Ty.shape z;subst R;have X:a<w'.heap.size:=by omega
 have C:Hq (LL w a n r q B (d++ [x]) (.returned (.tuple #[])) (w'.setCell ⟨a,1,O⟩ (Y H (d++ [x]).length c2))):=by
  refine⟨_,rfl,(I4 l _).2.1,Ty.set z l (by decide),D.setCell (p:=⟨a,1,O⟩) K _,by simp[bH];omega,fun k c t f j P A=>(bg _ _ _ _ j).trans (hoth k c t f P A)⟩
 have s:=HH F;clear i h l N hoth m y D z F;generalize (d++ [x]).length=m2 at C s;generalize d.length=m1 at S s;go_enter func162,ntmps162;go_wp2_with (at_builtin;refine bL _ rfl _ _ _ _ rfl _ _ rfl rfl _ _ s.o ?_);refine aJ (v:=.tuple #[]) (by simp[bh,results162,go_sem]) rfl ?_;exact C.o
def Fi(h:Bool)(x:Int)(l:List Wt):Bool:=decide (AY l) && !l.any (fun y=>y.val !=0) && ((h && l.length==0)||(!h && x==0))
def Dh(h:Bool)(x:Int)(l:List Wt)(v:Int):Bool×Int×List Wt×List Int×Int:=if Fi h x l=false then(h,x,l,[],2) else(true,v,[],l.map (·.proc),0)
def lookBd(h:Bool)(x:Int)(l:List Wt)(p r:Int):List Wt×Int×Bool×Int:=
 if Fi h x l=false∨Cw l p=false then(l,0,false,2) else if h=true then(l,x,true,0) else(Cl l ⟨p,r,0⟩,0,false,0)
def FN(h:Bool)(x:Int)(l:List Wt):Bool×Int×Int:=if Fi h x l=false then(h,x,2) else(false,0,0)
def NG(w:aG)(h:Bool)(x:Int)(l:List Wt)(y:ax)(e:bP)(w':aG):Prop:=∃ v,e=.returned (.tuple #[.agg #[.bool h,I U x,v],y])∧Ax w' w.heap.size v l∧Bl w w'
def NH(w:aG)(h:Bool)(x:Int)(l:List Wt)(a b c:ax)(e:bP)(w':aG):Prop:=∃ v,e=.returned (.tuple #[.agg #[.bool h,I U x,v],a,b,c])∧Ax w' w.heap.size v l∧Bl w w'
def NI(w:aG)(h:Bool)(x:Int)(l:List Wt)(m:List Int)(y:ax)(e:bP)(w':aG):Prop:=∃ v u,e=.returned (.tuple #[.agg #[.bool h,I U x,v],u,y])∧Ax w' w.heap.size v l∧OwnI w' w.heap.size u m∧Bl w w'
def Rj(w:aG)(h:Bool)(x:Int)(l:List Wt)(e:bP)(w':aG):Prop:=∃ v,e=.returned (.agg #[.bool h,I U x,v])∧Ax w' w.heap.size v l∧Bl w w'
def GF(w:aG)(o a:Obj):((w.alloc o).alloc a).heap[w.heap.size+1]? =Z a:=by
 have:=aV (w.alloc o) a;simpa using this
def GY(h:Bool)(x:Int)(v:ax)(l:List Wt)(w:aG)(D:Al w 0 v l)(M:Ck l)(Q:l.length≤100000):
  bq prog 163 #[.agg #[.bool h,I U x,v]] w fun e w'=>e=.returned (.bool (Fi h x l))∧Bl w w':=by
 obtain⟨B,C,rfl,_,_,_⟩:=D.open_;obtain⟨z,A⟩:=ex ((w.alloc (T #[.bool h,I U x,Y B l.length C] 103)).alloc (T #[Y B l.length C] 93));have i:Hq (Bl w z):=by subst A;exact((aW _ w).alloc (aH _) _).alloc (by simp) _
 have j:Hq (z.heap[w.heap.size]? =Z (T #[.bool h,I U x,Y B l.length C] 103 (0,0))):=by subst A;exact(aA _ _ _ (by simp)).trans (aV w _)
 have f:Hq (bq prog 188 #[Y (Z ⟨w.heap.size+1,0,O⟩) 1 1] z fun e w'=>e=.returned (.bool (decide (AY l)))∧Bl z w'):=by
  have L:=Pt (Y (Z ⟨w.heap.size+1,0,O⟩) 1 1) [l] z (by subst A;exact Ds.one (by simp) (D.alloc _)) (by simp) (fun y N=>by rw[List.mem_singleton] at N;subst N;exact⟨M,Q⟩);rw[show (!([l].any (fun y=>!decide (AY y))))=decide (AY l) from by simp] at L;exact L
 have g:Hq (∀ W,Bl w W→bq prog 189 #[Y B l.length C] W fun e w'=>e=.returned (.bool (!l.any (fun y=>y.val !=0)))∧Bl W w'):=fun W P=>Oa _ l W (D.below P) (by omega);have u:=HH A;clear D M A;cases q:decide (AY l) with
 |false=>
  rw[q] at f;rw[show Fi h x l=false by simp[Fi,q]];clear q g;go_enter func163,ntmps163;go_wp2_with fail;rw[←u.o];refine f.o.mono ?_;rintro e E ⟨rfl,b⟩;have c:=HH (i.o.trans (b.mono i.o.size));clear b f;go_wp2_with fail;go_ret;exact⟨rfl,c.o⟩
 |true=>
  rw[q] at f;cases t:l.any (fun y=>y.val !=0) with
  |true=>
   rw[t] at g;rw[show Fi h x l=false by simp[Fi,q,t]];clear q t;go_enter func163,ntmps163;go_wp2_with fail;rw[←u.o];refine f.o.mono ?_;rintro e E ⟨rfl,b⟩;have c:=HH (i.o.trans (b.mono i.o.size));obtain⟨m,n,p,_,_,_⟩:=Aj ((b.block _ (Aa j.o)).trans j.o);have k:=Aa ((b.block _ (Aa j.o)).trans j.o);clear b f;go_wp2_with fail;refine(g.o _ c.o).mono ?_;rintro e H ⟨rfl,d⟩;have r:=HH (c.o.trans (d.mono c.o.size));clear d g;go_wp2_with fail;go_ret;exact⟨rfl,r.o⟩
  |false=>
   rw[t] at g;have K:Hq (Fi h x l=((h && l.length==0)||(!h && x==0))):=by show _=_;simp[Fi,q,t]
   rw[K.o];clear q t K;cases h with
   |true=>
    by_cases s:l.length=0
    ·have F:(l.length==0)=true:=by simp[s]
     have R:((l.length:Int)==0)=true:=by simp[s]
     rw[F];clear s;go_enter func163,ntmps163;go_wp2_with fail;rw[←u.o];refine f.o.mono ?_;rintro e E ⟨rfl,b⟩;obtain⟨c,a⟩:=H2 (i.o.trans (b.mono i.o.size)) ((b.block _ (Aa j.o)).trans j.o);obtain⟨m,n,p,_,_,_⟩:=Aj a.o;have k:=Aa a.o;clear b f;go_wp2_with fail;refine(g.o _ c.o).mono ?_;rintro e H ⟨rfl,d⟩;have r:=HH (c.o.trans (d.mono c.o.size));clear m n p k;obtain⟨m,n,p,_,_,_⟩:=Aj ((d.block _ (Aa a.o)).trans a.o);have k:=Aa ((d.block _ (Aa a.o)).trans a.o);clear d g;go_wp2_with fail;go_ret;exact⟨A8 (by first|rfl|simp),r.o⟩
    ·have F:(l.length==0)=false:=by simp[s]
     have R:((l.length:Int)==0)=false:=by simp[s]
     rw[F];clear s;go_enter func163,ntmps163;go_wp2_with fail;rw[←u.o];refine f.o.mono ?_;rintro e E ⟨rfl,b⟩;obtain⟨c,a⟩:=H2 (i.o.trans (b.mono i.o.size)) ((b.block _ (Aa j.o)).trans j.o);obtain⟨m,n,p,_,_,_⟩:=Aj a.o;have k:=Aa a.o;clear b f;go_wp2_with fail;refine(g.o _ c.o).mono ?_;rintro e H ⟨rfl,d⟩;have r:=HH (c.o.trans (d.mono c.o.size));clear m n p k;obtain⟨m,n,p,_,_,_⟩:=Aj ((d.block _ (Aa a.o)).trans a.o);have k:=Aa ((d.block _ (Aa a.o)).trans a.o);clear d g;go_wp2_with fail;go_ret;exact⟨A8 (by first|rfl|simp),r.o⟩
   |false=>
    go_enter func163,ntmps163;go_wp2_with fail;rw[←u.o];refine f.o.mono ?_;rintro e E ⟨rfl,b⟩;obtain⟨c,a⟩:=H2 (i.o.trans (b.mono i.o.size)) ((b.block _ (Aa j.o)).trans j.o);obtain⟨m,n,p,_,_,_⟩:=Aj a.o;have k:=Aa a.o;clear b f;go_wp2_with fail;refine(g.o _ c.o).mono ?_;rintro e H ⟨rfl,d⟩;have r:=HH (c.o.trans (d.mono c.o.size));clear m n p k;obtain⟨m,n,p,_,_,_⟩:=Aj ((d.block _ (Aa a.o)).trans a.o);have k:=Aa ((d.block _ (Aa a.o)).trans a.o);clear d g;go_wp2_with fail;go_ret;exact⟨A8 (by first|rfl|simp),r.o⟩
def Hu(h:Bool)(x:Int)(v:ax)(l:List Wt)(w:aG)(g:Al w 0 v l)(E:l.length≤100000):
  bq prog 164 #[.agg #[.bool h,I U x,v]] w (Rj w h x l):=by
 obtain⟨q,r,rfl,_,_,_⟩:=g.open_;obtain⟨c,d⟩:=ex ((w.alloc (T #[.bool h,I U x,Y q l.length r] 103)).alloc (T #[.bool false,I U 0,Y O 0 0] 103));have i:Hq (Bl w c):=by subst d;exact((aW _ w).alloc (aH _) _).alloc (by simp) _
 have f:Hq (c.heap[w.heap.size]? =Z (T #[.bool h,I U x,Y q l.length r] 103 (0,0))):=by subst d;exact(aA _ _ _ (by simp)).trans (aV w _)
 have b:Hq (c.heap[w.heap.size+1]? =Z (T #[.bool false,I U 0,Y O 0 0] 103 (0,0))):=by
  subst d;exact GF w _ _
 have k:=HH (GK _ l c (g.below i.o) (by omega));have s:c.heap.size=w.heap.size+2:=by subst d;simp
 obtain⟨z,m⟩:=H2 s d;clear g d s;go_enter func164,ntmps164;go_wp2_with fail;rw[←m.o];refine k.o.mono ?_;rintro e t ⟨K,rfl,j,a⟩;obtain⟨n,c2,rfl⟩:=Bq j;have y:Hq (Ax t c.heap.size (Y n l.length c2) l):=Ty.Bw j;obtain⟨A,B,u⟩:=H3 (Tag.of ((a.block _ (Aa f.o)).trans f.o)) (Tag.of ((a.block _ (Aa b.o)).trans b.o)) (i.o.trans (a.mono i.o.size));obtain⟨L,M,N,P,Q,R⟩:=Aj ((a.block _ (Aa f.o)).trans f.o);obtain⟨C,D,r2,r3,r4,r5⟩:=Aj ((a.block _ (Aa b.o)).trans b.o);have g:=Aa ((a.block _ (Aa b.o)).trans b.o);have F:w.heap.size<t.heap.size:=by omega
 clear j a k m;go_wp2_with fail;refine aJ (v:=.agg #[.bool h,I U x,Y n l.length c2]) (by simp[bh,results164,go_sem,C,D,r2]) rfl ?_;have H:=z.o;refine⟨_,rfl,?_,?_⟩
 ·exact Ty.mono (Ty.set3 (Ty.Kp y.o A.o (by decide)) B.o.set (by decide) _ _ _) (by omega)
 ·exact(((u.o.setCell (p:=⟨w.heap.size,2,O⟩) (by show _≤w.heap.size;omega) _).setCell (p:=⟨w.heap.size+1,0,O⟩) (by show _≤w.heap.size+1;omega) _).setCell (p:=⟨w.heap.size+1,1,O⟩) (by show _≤w.heap.size+1;omega) _).setCell (p:=⟨w.heap.size+1,2,O⟩) (by show _≤w.heap.size+1;omega) _
structure BM(w W:aG)(h0:Bool)(x0:Int)(v0:ax)(g:Nat)(h:Bool)(x:Int)(v:ax)(l:List Wt):Prop where
 arg:W.heap[w.heap.size]? =Z (T #[.bool h0,I U x0,v0] 103 (0,0))
 res:W.heap[w.heap.size+1]? =Z (T #[.bool false,I U 0,Y O 0 0] 103 (0,0))
 ge:w.heap.size+2≤g
 obj:W.heap[g]? =Z (T #[.bool h,I U x,v] 103 (0,0))
 fr:Ax W (w.heap.size+2) v l
 bel:Bl w W
section
variable {w W W':aG} {h0 h h':Bool} {x0 x x':Int} {v0 v v':ax} {g:Nat} {l l':List Wt}
def BM.next(m:BM w W h0 x0 v0 g h x v l)(a:Bl W W'):BM w W' h0 x0 v0 g h x v l:=
 ⟨(a.block _ (Aa m.arg)).trans m.arg,(a.block _ (Aa m.res)).trans m.res,m.ge,(a.block _ (Aa m.obj)).trans m.obj,Ty.below m.fr a,m.bel.trans (a.mono m.bel.size)⟩
def BM.drew(m:BM w W h0 x0 v0 g h x v l):BM w W.drew h0 x0 v0 g h x v l:=⟨m.arg,m.res,m.ge,m.obj,m.fr,m.bel.drew⟩
def BM.set{j:Nat}{u:ax}(m:BM w W h0 x0 v0 g h x v l)(b:(W.setCell ⟨g,j,O⟩ u).heap[g]? =Z (T #[.bool h',I U x',v'] 103 (0,0)))(a:Ax W (w.heap.size+2) v' l'):BM w (W.setCell ⟨g,j,O⟩ u) h0 x0 v0 g h' x' v' l':=by
 have c:=m.ge;exact⟨(bg _ _ _ _ (by show w.heap.size≠g;omega)).trans m.arg,(bg _ _ _ _ (by show w.heap.size+1≠g;omega)).trans m.res,m.ge,b,Ty.set a m.obj (by decide),m.bel.setCell (p:=⟨g,j,O⟩) (by show _≤g;omega) u⟩
def BM.MY(m:BM w W h0 x0 v0 g h x v l)(b:Bool):BM w (W.setCell ⟨g,0,O⟩ (.bool b)) h0 x0 v0 g b x v l:=m.set (set3 m.obj _).1 m.fr
def BM.Hy(m:BM w W h0 x0 v0 g h x v l)(y:Int):BM w (W.setCell ⟨g,1,O⟩ (I U y)) h0 x0 v0 g h y v l:=m.set (set3 m.obj _).2.1 m.fr
def BM.Yh(m:BM w W h0 x0 v0 g h x v l)(a:Bl W W')(b:W'.ownsRow W.heap.size 161 3 v' l'.length (cellsW l')):BM w (W'.setCell ⟨g,2,O⟩ v') h0 x0 v0 g h x v' l':=by
 have c:w.heap.size+2≤W.heap.size:=by have d:=m.ge;have e:=Aa m.obj;omega
 exact(m.next a).set (set3 (m.next a).obj _).2.2 (Ty.mono (Ty.Bw b) c)
def BM.last(m:BM w W h0 x0 v0 g h x v l)(a b c:ax):Ax (((W.setCell ⟨w.heap.size+1,0,O⟩ a).setCell ⟨w.heap.size+1,1,O⟩ b).setCell ⟨w.heap.size+1,2,O⟩ c) w.heap.size v l∧Bl w (((W.setCell ⟨w.heap.size+1,0,O⟩ a).setCell ⟨w.heap.size+1,1,O⟩ b).setCell ⟨w.heap.size+1,2,O⟩ c):=
 ⟨Ty.mono (Ty.set3 m.fr (Tag.of m.res) (by decide) _ _ _) (by omega),((m.bel.setCell (p:=⟨w.heap.size+1,0,O⟩) (by simp) _).setCell (p:=⟨w.heap.size+1,1,O⟩) (by simp) _).setCell (p:=⟨w.heap.size+1,2,O⟩) (by simp) _⟩
def BM.new{a b:aG}(c:a=(w.alloc (T #[.bool h0,I U x0,v0] 103)).alloc (T #[.bool false,I U 0,Y O 0 0] 103))(i:Ax b a.heap.size v l)(d:Bl a b):BM w (b.alloc (T #[.bool h,I U x,v] 103)) h0 x0 v0 b.heap.size h x v l:=by
 have m:a.heap.size=w.heap.size+2:=by subst c;simp
 have j:a.heap[w.heap.size]? =Z (T #[.bool h0,I U x0,v0] 103 (0,0)):=by subst c;exact(aA _ _ _ (by simp)).trans (aV w _)
 have k:a.heap[w.heap.size+1]? =Z (T #[.bool false,I U 0,Y O 0 0] 103 (0,0)):=by subst c;exact GF w _ _
 have e:Bl w a:=by subst c;exact((aW _ w).alloc (aH _) _).alloc (by simp) _
 have n:=d.size;rw[m] at i;have f:=e.trans (d.mono e.size);exact⟨(aA _ _ _ (by omega)).trans ((d.block _ (by omega)).trans j),(aA _ _ _ (by omega)).trans ((d.block _ (by omega)).trans k),by omega,aV b _,Ty.alloc i _,f.alloc f.size _⟩
end
def RZ(h:Bool)(x:Int)(v:ax)(l:List Wt)(w:aG)(E:Al w 0 v l)(P:Ck l)(hl:l.length≤90000):
  bq prog 127 #[.agg #[.bool h,I U x,v]] w (NG w (FN h x l).1 (FN h x l).2.1 l (I J (FN h x l).2.2)):=by
 obtain⟨M,N,rfl,_,_,_⟩:=E.open_;obtain⟨A,B⟩:=ex ((w.alloc (T #[.bool h,I U x,Y M l.length N] 103)).alloc (T #[.bool false,I U 0,Y O 0 0] 103));have K:Hq (Bl w A):=by subst B;exact((aW _ w).alloc (aH _) _).alloc (by simp) _
 have d:Hq (A.heap[w.heap.size]? =Z (T #[.bool h,I U x,Y M l.length N] 103 (0,0))):=by subst B;exact(aA _ _ _ (by simp)).trans (aV w _)
 obtain⟨j,z,L⟩:=H3 B E P;clear E P B;cases k:Fi h x l with
 |false=>
  rw[show FN h x l=(h,x,2) by simp[FN,k]];have C:=HH k;clear k;go_enter func127,ntmps127;go_wp2_with fail;rw[←j.o];refine(Hu h x _ l A (z.o.below K.o) (by omega)).mono ?_;rintro e i ⟨v1,rfl,f,c⟩;obtain⟨m,c1,rfl⟩:=Ty.shape f;have b:=HH (BM.new (h:=h) (x:=x) j.o f c);obtain⟨q,r,s,t,u,y⟩:=Aj ((c.block _ (Aa d.o)).trans d.o);have X:=Aa ((c.block _ (Aa d.o)).trans d.o);clear f c;go_wp2_with fail;obtain⟨D,p⟩:=ex (i.alloc (T #[.bool h,I U x,Y m l.length c1] 103));rw[←p] at b ⊢;clear p q r s t u y j;have g:=GY h x _ l D (z.o.below b.o.bel) L.o (by omega);rw[C.o] at g;refine g.mono ?_;clear g;rintro e w2 ⟨rfl,n⟩;have a:=HH (b.o.next n);clear n b;obtain⟨q,r,s,t,u,y⟩:=Aj a.o.arg;obtain⟨F,H,r2,r3,r4,r5⟩:=Aj a.o.res;obtain⟨o0,o1,o2,o3,o4,o5⟩:=Aj a.o.obj;have W:=Aa a.o.obj;have Q:=Aa a.o.arg;have aa:=Aa a.o.res;have R:=a.o.ge;have S:i.heap.size≠w.heap.size+1:=by omega
  have V:w.heap.size+1≠i.heap.size:=by omega
  go_wp2_with fail;refine aJ (v:=.tuple #[.agg #[.bool h,I U x,Y m l.length c1],I J 2]) (by simp[bh,results127,go_sem,F,H,r2]) rfl ?_;exact⟨_,rfl,a.o.last _ _ _⟩
 |true=>
  rw[show FN h x l=(false,0,0) by simp[FN,k]];have C:=HH k;clear k;go_enter func127,ntmps127;go_wp2_with fail;rw[←j.o];refine(Hu h x _ l A (z.o.below K.o) (by omega)).mono ?_;rintro e i ⟨v1,rfl,f,c⟩;obtain⟨m,c1,rfl⟩:=Ty.shape f;have b:=HH (BM.new (h:=h) (x:=x) j.o f c);obtain⟨q,r,s,t,u,y⟩:=Aj ((c.block _ (Aa d.o)).trans d.o);have X:=Aa ((c.block _ (Aa d.o)).trans d.o);clear f c;go_wp2_with fail;obtain⟨D,p⟩:=ex (i.alloc (T #[.bool h,I U x,Y m l.length c1] 103));rw[←p] at b ⊢;clear p q r s t u y j;have g:=GY h x _ l D (z.o.below b.o.bel) L.o (by omega);rw[C.o] at g;refine g.mono ?_;clear g;rintro e w2 ⟨rfl,n⟩;have a:=HH (b.o.next n);clear n b;obtain⟨q,r,s,t,u,y⟩:=Aj a.o.arg;obtain⟨F,H,r2,r3,r4,r5⟩:=Aj a.o.res;obtain⟨o0,o1,o2,o3,o4,o5⟩:=Aj a.o.obj;have W:=Aa a.o.obj;have Q:=Aa a.o.arg;have aa:=Aa a.o.res;have R:=a.o.ge;have S:i.heap.size≠w.heap.size+1:=by omega
  have V:w.heap.size+1≠i.heap.size:=by omega
  go_wp2_with fail;refine aJ (v:=.tuple #[.agg #[.bool false,I U 0,Y m l.length c1],I J 0]) (by simp[bh,results127,go_sem,F,H,r2]) rfl ?_;exact⟨_,rfl,((a.o.MY false).Hy 0).last _ _ _⟩
def Xi(h:Bool)(x:Int)(p r:Int)(v:ax)(l:List Wt)(w:aG)(hr:Al w 0 v l)(az:Ck l)(hl:l.length≤90000):
  bq prog 126 #[.agg #[.bool h,I U x,v],I J p,I J r] w (NH w h x (lookBd h x l p r).1 (I U (lookBd h x l p r).2.1) (.bool (lookBd h x l p r).2.2.1) (I J (lookBd h x l p r).2.2.2)):=by
 obtain⟨ao,ca,rfl,_,_,_⟩:=hr.open_;obtain⟨W0,al⟩:=ex ((w.alloc (T #[.bool h,I U x,Y ao l.length ca] 103)).alloc (T #[.bool false,I U 0,Y O 0 0] 103));have B0:Hq (Bl w W0):=by subst al;exact((aW _ w).alloc (aH _) _).alloc (by simp) _
 have n:Hq (W0.heap[w.heap.size]? =Z (T #[.bool h,I U x,Y ao l.length ca] 103 (0,0))):=by subst al;exact(aA _ _ _ (by simp)).trans (aV w _)
 obtain⟨A,D,aj⟩:=H3 al hr az;clear hr az al;cases W:Fi h x l with
 |false=>
  rw[show lookBd h x l p r=(l,0,false,2) by simp[lookBd,W]];have K1:=HH W;clear W;go_enter func126,ntmps126;go_wp2_with fail;rw[←A.o];refine(Hu h x _ l W0 (D.o.below B0.o) (by omega)).mono ?_;rintro e t ⟨v1,rfl,q,d⟩;obtain⟨E,c1,rfl⟩:=Ty.shape q;have c:=HH (BM.new (h:=h) (x:=x) A.o q d);obtain⟨f,g,i,j,k,m⟩:=Aj ((d.block _ (Aa n.o)).trans n.o);have ar:=Aa ((d.block _ (Aa n.o)).trans n.o);clear q d;go_wp2_with fail;obtain⟨X,C⟩:=ex (t.alloc (T #[.bool h,I U x,Y E l.length c1] 103));rw[←C] at c ⊢;clear C f g i j k m A;have s:=GY h x _ l X (D.o.below c.o.bel) aj.o (by omega);rw[K1.o] at s;refine s.mono ?_;clear s;rintro e F ⟨rfl,B⟩;have a:=HH (c.o.next B);clear B c;obtain⟨f,g,i,j,k,m⟩:=Aj a.o.arg;obtain⟨u,z,r2,r3,r4,r5⟩:=Aj a.o.res;obtain⟨L,M,N,P,Q,R⟩:=Aj a.o.obj;have H:=Aa a.o.obj;have S:=Aa a.o.arg;have K:=Aa a.o.res;have am:=a.o.ge;have ap:t.heap.size≠w.heap.size+1:=by omega
  have aq:w.heap.size+1≠t.heap.size:=by omega
  go_wp2_with fail;refine aJ (v:=.tuple #[.agg #[.bool h,I U x,Y E l.length c1],I U 0,.bool false,I J 2]) (by simp[bh,results126,go_sem,u,z,r2]) rfl ?_;exact⟨_,rfl,a.o.last _ _ _⟩
 |true=>
  have K1:=HH W;by_cases hp:p<0
  ·rw[show lookBd h x l p r=(l,0,false,2) by simp[lookBd,Cw,Int.not_le.2 hp]];clear W;go_enter func126,ntmps126;go_wp2_with fail;rw[←A.o];refine(Hu h x _ l W0 (D.o.below B0.o) (by omega)).mono ?_;rintro e t ⟨v1,rfl,q,d⟩;obtain⟨E,c1,rfl⟩:=Ty.shape q;have c:=HH (BM.new (h:=h) (x:=x) A.o q d);obtain⟨f,g,i,j,k,m⟩:=Aj ((d.block _ (Aa n.o)).trans n.o);have ar:=Aa ((d.block _ (Aa n.o)).trans n.o);clear q d;go_wp2_with fail;obtain⟨X,C⟩:=ex (t.alloc (T #[.bool h,I U x,Y E l.length c1] 103));rw[←C] at c ⊢;clear C f g i j k m A;have s:=GY h x _ l X (D.o.below c.o.bel) aj.o (by omega);rw[K1.o] at s;refine s.mono ?_;clear s;rintro e F ⟨rfl,B⟩;have a:=HH (c.o.next B);clear B c;obtain⟨f,g,i,j,k,m⟩:=Aj a.o.arg;obtain⟨u,z,r2,r3,r4,r5⟩:=Aj a.o.res;obtain⟨L,M,N,P,Q,R⟩:=Aj a.o.obj;have H:=Aa a.o.obj;have S:=Aa a.o.arg;have K:=Aa a.o.res;have am:=a.o.ge;have ap:t.heap.size≠w.heap.size+1:=by omega
   have aq:w.heap.size+1≠t.heap.size:=by omega
   go_wp2_with fail;refine aJ (v:=.tuple #[.agg #[.bool h,I U x,Y E l.length c1],I U 0,.bool false,I J 2]) (by simp[bh,results126,go_sem,u,z,r2]) rfl ?_;exact⟨_,rfl,a.o.last _ _ _⟩
  ·have aC:0≤p:=by omega
   cases ka:l.any (fun y=>decide (y.proc=p)) with
   |true=>
    rw[show lookBd h x l p r=(l,0,false,2) by simp[lookBd,Cw,ka]];have KA:=HH ka;clear W ka;go_enter func126,ntmps126;go_wp2_with fail;rw[←A.o];refine(Hu h x _ l W0 (D.o.below B0.o) (by omega)).mono ?_;rintro e t ⟨v1,rfl,q,d⟩;obtain⟨E,c1,rfl⟩:=Ty.shape q;have c:=HH (BM.new (h:=h) (x:=x) A.o q d);obtain⟨f,g,i,j,k,m⟩:=Aj ((d.block _ (Aa n.o)).trans n.o);have ar:=Aa ((d.block _ (Aa n.o)).trans n.o);clear q d;go_wp2_with fail;obtain⟨X,C⟩:=ex (t.alloc (T #[.bool h,I U x,Y E l.length c1] 103));rw[←C] at c ⊢;clear C f g i j k m A;have s:=GY h x _ l X (D.o.below c.o.bel) aj.o (by omega);rw[K1.o] at s;refine s.mono ?_;clear s;rintro e F ⟨rfl,B⟩;have a:=HH (c.o.next B);clear B c;obtain⟨f,g,i,j,k,m⟩:=Aj a.o.arg;obtain⟨u,z,r2,r3,r4,r5⟩:=Aj a.o.res;obtain⟨L,M,N,P,Q,R⟩:=Aj a.o.obj;have H:=Aa a.o.obj;have S:=Aa a.o.arg;have K:=Aa a.o.res;have am:=a.o.ge;have ap:t.heap.size≠w.heap.size+1:=by omega
    have aq:w.heap.size+1≠t.heap.size:=by omega
    have aa:=HH (a.o.next ((aW _ F).alloc (aH _) (T #[Y ao l.length ca] 93)));go_wp2_with fail;have V:=KB p (Y (Z ⟨F.heap.size,0,O⟩) 1 1) [l] (F.alloc (T #[Y ao l.length ca] 93)) (Ds.one rfl (D.o.below a.o.bel)) (by simp) (by rw[IW];omega);rw[IW,KA.o] at V;refine V.mono ?_;clear V;rintro e w3 ⟨rfl,b3⟩;have b:=HH (aa.o.next b3);clear b3 aa a f g i j k m u z r2 r3 r4 r5 L M N P Q R H S K;obtain⟨f,g,i,j,k,m⟩:=Aj b.o.arg;obtain⟨u,z,r2,r3,r4,r5⟩:=Aj b.o.res;obtain⟨L,M,N,P,Q,R⟩:=Aj b.o.obj;have H:=Aa b.o.obj;have S:=Aa b.o.arg;have K:=Aa b.o.res;go_wp2_with fail;refine aJ (v:=.tuple #[.agg #[.bool h,I U x,Y E l.length c1],I U 0,.bool false,I J 2]) (by simp[bh,results126,go_sem,u,z,r2]) rfl ?_;exact⟨_,rfl,b.o.last _ _ _⟩
   |false=>
    have KA:=HH ka;have hm:Cw l p=true:=by simp[Cw,aC,ka]
    cases h with
    |true=>
     rw[show lookBd true x l p r=(l,x,true,0) by simp[lookBd,W,hm]];clear W ka hm;go_enter func126,ntmps126;go_wp2_with fail;rw[←A.o];refine(Hu true x _ l W0 (D.o.below B0.o) (by omega)).mono ?_;rintro e t ⟨v1,rfl,q,d⟩;obtain⟨E,c1,rfl⟩:=Ty.shape q;have c:=HH (BM.new (h:=true) (x:=x) A.o q d);obtain⟨f,g,i,j,k,m⟩:=Aj ((d.block _ (Aa n.o)).trans n.o);have ar:=Aa ((d.block _ (Aa n.o)).trans n.o);clear q d;go_wp2_with fail;obtain⟨X,C⟩:=ex (t.alloc (T #[.bool true,I U x,Y E l.length c1] 103));rw[←C] at c ⊢;clear C f g i j k m A;have s:=GY true x _ l X (D.o.below c.o.bel) aj.o (by omega);rw[K1.o] at s;refine s.mono ?_;clear s;rintro e F ⟨rfl,B⟩;have a:=HH (c.o.next B);clear B c;obtain⟨f,g,i,j,k,m⟩:=Aj a.o.arg;obtain⟨u,z,r2,r3,r4,r5⟩:=Aj a.o.res;obtain⟨L,M,N,P,Q,R⟩:=Aj a.o.obj;have H:=Aa a.o.obj;have S:=Aa a.o.arg;have K:=Aa a.o.res;have am:=a.o.ge;have ap:t.heap.size≠w.heap.size+1:=by omega
     have aq:w.heap.size+1≠t.heap.size:=by omega
     have aa:=HH (a.o.next ((aW _ F).alloc (aH _) (T #[Y ao l.length ca] 93)));go_wp2_with fail;have V:=KB p (Y (Z ⟨F.heap.size,0,O⟩) 1 1) [l] (F.alloc (T #[Y ao l.length ca] 93)) (Ds.one rfl (D.o.below a.o.bel)) (by simp) (by rw[IW];omega);rw[IW,KA.o] at V;refine V.mono ?_;clear V;rintro e w3 ⟨rfl,b3⟩;have b:=HH (aa.o.next b3);clear b3 aa a f g i j k m u z r2 r3 r4 r5 L M N P Q R H S K;obtain⟨f,g,i,j,k,m⟩:=Aj b.o.arg;obtain⟨u,z,r2,r3,r4,r5⟩:=Aj b.o.res;obtain⟨L,M,N,P,Q,R⟩:=Aj b.o.obj;have H:=Aa b.o.obj;have S:=Aa b.o.arg;have K:=Aa b.o.res;go_wp2_with fail
     go_region
     all_goals
      go_wp2_with fail;refine aJ (v:=.tuple #[.agg #[.bool true,I U x,Y E l.length c1],I U x,.bool true,I J 0]) (by simp[bh,results126,go_sem,u,z,r2]) rfl ?_;exact⟨_,rfl,b.o.drew.last _ _ _⟩
    |false=>
     rw[show lookBd false x l p r=(Cl l ⟨p,r,0⟩,0,false,0) by simp[lookBd,W,hm]];clear W ka hm;go_enter func126,ntmps126;go_wp2_with fail;rw[←A.o];refine(Hu false x _ l W0 (D.o.below B0.o) (by omega)).mono ?_;rintro e t ⟨v1,rfl,q,d⟩;obtain⟨E,c1,rfl⟩:=Ty.shape q;have c:=HH (BM.new (h:=false) (x:=x) A.o q d);obtain⟨f,g,i,j,k,m⟩:=Aj ((d.block _ (Aa n.o)).trans n.o);have ar:=Aa ((d.block _ (Aa n.o)).trans n.o);clear q d;go_wp2_with fail;obtain⟨X,C⟩:=ex (t.alloc (T #[.bool false,I U x,Y E l.length c1] 103));rw[←C] at c ⊢;clear C f g i j k m A;have s:=GY false x _ l X (D.o.below c.o.bel) aj.o (by omega);rw[K1.o] at s;refine s.mono ?_;clear s;rintro e F ⟨rfl,B⟩;have a:=HH (c.o.next B);clear B c;obtain⟨f,g,i,j,k,m⟩:=Aj a.o.arg;obtain⟨u,z,r2,r3,r4,r5⟩:=Aj a.o.res;obtain⟨L,M,N,P,Q,R⟩:=Aj a.o.obj;have H:=Aa a.o.obj;have S:=Aa a.o.arg;have K:=Aa a.o.res;have am:=a.o.ge;have ap:t.heap.size≠w.heap.size+1:=by omega
     have aq:w.heap.size+1≠t.heap.size:=by omega
     have aa:=HH (a.o.next ((aW _ F).alloc (aH _) (T #[Y ao l.length ca] 93)));go_wp2_with fail;have V:=KB p (Y (Z ⟨F.heap.size,0,O⟩) 1 1) [l] (F.alloc (T #[Y ao l.length ca] 93)) (Ds.one rfl (D.o.below a.o.bel)) (by simp) (by rw[IW];omega);rw[IW,KA.o] at V;refine V.mono ?_;clear V;rintro e w3 ⟨rfl,b3⟩;have b:=HH (aa.o.next b3);clear b3 aa a f g i j k m u z r2 r3 r4 r5 L M N P Q R H S K;obtain⟨f,g,i,j,k,m⟩:=Aj b.o.arg;obtain⟨u,z,r2,r3,r4,r5⟩:=Aj b.o.res;obtain⟨L,M,N,P,Q,R⟩:=Aj b.o.obj;have H:=Aa b.o.obj;have S:=Aa b.o.arg;have K:=Aa b.o.res;go_wp2_with fail;refine(JV _ l ⟨p,r,0⟩ w3 b.o.fr.rd (by omega)).mono ?_;rintro e w4 ⟨v3,rfl,av,ah⟩;obtain⟨a3,c3,rfl⟩:=Bq av;have M4:=HH (b.o.Yh ah av);clear f g i j k m u z r2 r3 r4 r5 L M N P Q R H S K;obtain⟨u,z,r2,r3,r4,r5⟩:=Aj (b.o.next ah).res;obtain⟨L,M,N,P,Q,R⟩:=Aj (b.o.next ah).obj;have H:=Aa (b.o.next ah).obj;have K:=Aa (b.o.next ah).res;clear av ah b;generalize (Cl l ⟨p,r,0⟩).length=m3 at M4 ⊢;go_wp2_with fail;refine aJ (v:=.tuple #[.agg #[.bool false,I U x,Y a3 m3 c3],I U 0,.bool false,I J 0]) (by simp[bh,results126,go_sem,u,z,r2]) rfl ?_;exact⟨_,rfl,M4.o.last _ _ _⟩
structure BV(w W:aG)(h0:Bool)(x0:Int)(v0:ax):Prop where
 arg:W.heap[w.heap.size]? =Z (T #[.bool h0,I U x0,v0] 103 (0,0))
 res:W.heap[w.heap.size+1]? =Z (T #[.bool false,I U 0,Y O 0 0] 103 (0,0))
 bel:Bl w W
 sz:w.heap.size+2≤W.heap.size
section
variable {w W W':aG} {h0:Bool} {x0:Int} {v0:ax}
def BV.next(m:BV w W h0 x0 v0)(a:Bl W W'):BV w W' h0 x0 v0:=⟨(a.block _ (Aa m.arg)).trans m.arg,(a.block _ (Aa m.res)).trans m.res,m.bel.trans (a.mono m.bel.size),bV m.sz a.size⟩
def BV.grown{row:Option Nat}(m:BV w W h0 x0 v0)(a:W.grownBy W' row)(b:∀ g,row=Z g→w.heap.size+2≤g):BV w W' h0 x0 v0:=by
 refine⟨(a.block _ (Aa m.arg) (fun e=>?_)).trans m.arg,(a.block _ (Aa m.res) (fun e=>?_)).trans m.res,m.bel.grown a m.bel.size (fun g e=>by have:=b g e;omega),bV m.sz a.size⟩
 ·have:=b _ e.symm;omega
 ·have:=b _ e.symm;omega
def BV.start(a:W=(w.alloc (T #[.bool h0,I U x0,v0] 103)).alloc (T #[.bool false,I U 0,Y O 0 0] 103)):BV w W h0 x0 v0:=by
 subst a;exact⟨(aA _ _ _ (by simp)).trans (aV w _),GF w _ _,((aW _ w).alloc (aH _) _).alloc (by simp) _,by simp⟩
def BV.last(m:BV w W h0 x0 v0)(a b c:ax):Bl w (((W.setCell ⟨w.heap.size+1,0,O⟩ a).setCell ⟨w.heap.size+1,1,O⟩ b).setCell ⟨w.heap.size+1,2,O⟩ c):=
 ((m.bel.setCell (p:=⟨w.heap.size+1,0,O⟩) (by simp) _).setCell (p:=⟨w.heap.size+1,1,O⟩) (by simp) _).setCell (p:=⟨w.heap.size+1,2,O⟩) (by simp) _
end
def YQ(h:Bool)(x:Int)(y:Int)(v:ax)(l:List Wt)(w:aG)(N:Al w 0 v l)(an:Ck l)(hl:l.length≤90000):
  bq prog 125 #[.agg #[.bool h,I U x,v],I U y] w (NI w (Dh h x l y).1 (Dh h x l y).2.1 (Dh h x l y).2.2.1 (Dh h x l y).2.2.2.1 (I J (Dh h x l y).2.2.2.2)):=by
 obtain⟨F,H,rfl,_,_,M⟩:=N.open_;obtain⟨z,B⟩:=ex ((w.alloc (T #[.bool h,I U x,Y F l.length H] 103)).alloc (T #[.bool false,I U 0,Y O 0 0] 103));have X:Hq (Bl w z):=by subst B;exact((aW _ w).alloc (aH _) _).alloc (by simp) _
 have BK:Hq (z.heap[w.heap.size]? =Z (T #[.bool h,I U x,Y F l.length H] 103 (0,0))):=by subst B;exact(aA _ _ _ (by simp)).trans (aV w _)
 obtain⟨n,D,ab⟩:=H3 B N an;have t:=HH (BV.start n.o);obtain⟨i0,hi,aD,aE,aF⟩:=bK OV;clear N an B;cases m:Fi h x l with
 |false=>
  rw[show Dh h x l y=(h,x,l,[],2) by simp[Dh,m]];have E:=HH m;clear m M;go_enter func125,ntmps125;go_wp2_with fail;rw[←n.o];have c:=GY h x _ l z (D.o.below X.o) ab.o (by omega);rw[E.o] at c;refine c.mono ?_;clear c;rintro e w2 ⟨rfl,q⟩;have a:=HH (t.o.next q);clear q t n;obtain⟨P,Q,R,S,V,W⟩:=Aj a.o.arg;obtain⟨d,f,r2,r3,r4,r5⟩:=Aj a.o.res;have L:=Aa a.o.arg;have r:=Aa a.o.res;go_wp2_with fail;refine(Hu h x _ l w2 (D.o.below a.o.bel) (by omega)).mono ?_;rintro e w3 ⟨v3,rfl,K,b3⟩;obtain⟨a3,c3,rfl⟩:=Ty.shape K;have i:=HH (a.o.next b3);have F3:Hq (Ax w3 (w.heap.size+2) (Y a3 l.length c3) l):=Ty.mono K a.o.sz;clear b3 K a P Q R S V W d f r2 r3 r4 r5 L r;obtain⟨d,f,r2,r3,r4,r5⟩:=Aj i.o.res;have r:=Aa i.o.res;go_wp2_with fail;refine aJ (v:=.tuple #[.agg #[.bool h,I U x,Y a3 l.length c3],Y O 0 0,I J 2]) (by simp[bh,results125,go_sem,d,f,r2]) rfl ?_;exact⟨_,_,rfl,Ty.mono (Ty.set3 F3.o (Tag.of i.o.res) (by decide) _ _ _) (by omega),bz _ _ _ _,i.o.last _ _ _⟩
 |true=>
  rw[show Dh h x l y=(true,y,[],l.map (·.proc),0) by simp[Dh,m]];obtain⟨E,av⟩:=H2 m M;clear m M;go_enter func125,ntmps125;go_wp2_with fail;rw[←n.o];have c:=GY h x _ l z (D.o.below X.o) ab.o (by omega);rw[E.o] at c;refine c.mono ?_;clear c;rintro e w2 ⟨rfl,q⟩;have a:=HH (t.o.next q);clear q t n;obtain⟨P,Q,R,S,V,W⟩:=Aj a.o.arg;obtain⟨d,f,r2,r3,r4,r5⟩:=Aj a.o.res;have L:=Aa a.o.arg;have r:=Aa a.o.res;go_wp2_with fail;clear P Q R S V W d f r2 r3 r4 r5 L r
  go_loopg [7,9,18] l.length (fun gg s7 _ aI wr=>∃ k:Nat,k≤l.length∧l.length-k≤gg∧aI=I J k∧Hq (BV w wr h x (Y F l.length H)∧OwnI wr (w.heap.size+2) s7 ((l.take k).map (·.proc))))
  case atStart=>exact⟨0,a4 _,by omega,rfl,a.o,bz _ _ _ _⟩
  case round=>
   obtain⟨k,hk,hg,rfl,A⟩:=hrel;clear a;by_cases ak:k<l.length
   ·have aB:(k:Int)<(l.length:Int):=by omega
    obtain⟨b',aQ,rfl,_,ag,af⟩:=av.o (by omega);obtain⟨c0,c1,c2⟩:=af k ak;rw[←A.o.1.bel.cell (p:=⟨b',_,O⟩) ag] at c0 c1 c2;have aM:b'<wr.heap.size:=bE ag A.o.1.bel.size;clear af;have aj:((l.take k).map (·.proc)).length=k:=by simp;omega
    have aa:=HH aj;clear aj;have b:=A.o.2;unfold OwnI at b;rw[aa.o] at b;have s:=HH b;have aP:w.heap.size+2≤wr.heap.size:=A.o.1.sz;clear b;go_wp2_with (at_builtin;refine bS _ rfl _ _ 22 rfl (w.heap.size+2) 3 i0 (I J 0) 1 8 underlying22 hi aD aE aF rfl (by decide) _ _ _ rfl ((s.o.alloc _).alloc _) ⟨wr.heap.size+1,0,O⟩ 1 1 [I J l[k].proc] rfl rfl ?c1 ?c2 ?c3 ?c4 ?c5 ?_)
    case c1=>
     intro j u C
     match j,C with
     |0,C=>simp at C;subst C;rw[Cu];go_simp
    case c2=>intro u hu;simp at hu;subst hu;rfl
    case c3=>unfold bJ;omega
    case c4=>omega
    case c5=>simp;omega
    intro v' w1 al ai _;obtain⟨au,ar⟩:=H2 al ai;clear al ai;go_wp2
    go_roundg (l.length-(k+1))
    case measure=>omega
    case rel=>
     refine⟨k+1,by omega,by omega,by go_num,(A.o.1.next (((aW _ wr).alloc (aH _) _).alloc (by simp) _)).grown ar.o (fun g hg=>(s.o.lt g hg).1),?_⟩;unfold OwnI;rw[bF ak,bx,aZ,aa.o,bx];simpa[List.map_take] using au.o
   ·have aB:¬(k:Int)<(l.length:Int):=by omega
    obtain⟨d,f,r2,r3,r4,r5⟩:=Aj A.o.1.res;have r:=Aa A.o.1.res;have b:=A.o.2;rw[List.take_of_length_le (by omega)] at b;obtain⟨a7,m7,c7,rfl,aC⟩:=MS b;clear aC;have s:=HH b;have i:=HH A.o.1;clear b A;go_wp2_with fail;refine aJ (v:=.tuple #[.agg #[.bool true,I U y,Y O 0 0],Y a7 m7 c7,I J 0]) (by simp[bh,results125,go_sem,d,f,r2]) rfl ?_;exact⟨_,_,rfl,Ty.nil _ _ _ _,Cx (Hv (Hv (Hv s.o (by omega)) (by omega)) (by omega)) (by omega),i.o.last _ _ _⟩
end Go.Proofs.YtiepijihpgijbaaGreatDoor
