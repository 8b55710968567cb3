import Derived.Ground.NamesProg
import Derived.Shelf.Strings.SplitShaped
import Derived.Shelf.Strings.OnBuilder
import Derived.Shelf.Strings.PiecesUse
import Derived.Shelf.Strings.Cut
import Derived.Shelf.Strconv.Itoa3
import Derived.Lib.AppendIntMem
import Derived.Lib.ItoaLen
import Derived.Test.YtiepijihpgijbaaGreatDoorQ20
set_option maxHeartbeats 4000000
set_option maxRecDepth 1000000
set_option linter.all false
open Go.Value renaming int→I,slice→Y,pointer→G
open Go.IntKind renaming i64→J,u8→U
open Option renaming some→Z,none→O
open Go.Obj renaming cells→T
open List renaming getD_eq_getElem?_getD→am,getElem?_eq_getElem→ar,setIfInBounds_toArray→a1,set_cons_zero→bc,set_cons_succ→bd,all_eq_true→bi,range→bl,mem_range→br,drop_succ_cons→bs,take_succ_eq_append_getElem→bu,getElem_mem→bw,ext_getElem→bx,drop_zero→bA,drop_nil→bD,not_any_eq_all_not→bE,length_append→bG,length_cons→bK,any_eq_true→bL
open Nat renaming le_refl→av,not_lt_zero→be,zero_le→bf,add_zero→bg,lt_of_lt_of_le→bh,mul_one→bk,zero_add→bF,add_assoc→bS
open Go.RowKit.Below renaming refl→aP,heap_alloc→bJ
open Go renaming Calls→aS,World→a6,heap_alloc_new→a8,Value→bb,callFunc→bo
open Go.Lib renaming fields→bj,itoa→bm,itoa_length_le→bH,cut→bM
open Int renaming tmod→bn,add_mul_emod_self_left→bB,tmod_lt_of_pos→bI,emod_eq_of_lt→bN
open Go.Value.slice renaming injEq→bp
open Option.some renaming injEq→bq
open Go.Shelf renaming Ren→bt
open Go.Addr.mk renaming injEq→bz
open Go.Value renaming int→bC,string→bP
open Go.RowKit renaming wrap64→bO
open Go.Proofs.LaysM renaming n171→bQ,n157→bR
open Go.Proofs.Lays renaming n156→bT,n145→bU
namespace Go.Proofs.YtiepijihpgijbaaGreatDoor
open Go.RowKit Tryz Go.Shelf
def T6:EG 20:=fun _ _=>by kernel_rfl
def Tx:EG 38:=fun _ _=>by kernel_rfl
def Jj(x n:Int)(g:1≤n)(h:n≤1000000)(w:a6):aS prog 20 #[I J x,I J n] w fun e w'=>e=.returned (I J (x%n))∧w'=w:=by
 have b:=bI x (show 0<n by omega);have c:-n<bn x n:=by
  have:=bI (-x) (show 0<n by omega);rw[Int.neg_tmod] at this;omega
 have d:x%n=if bn x n<0 then bn x n+n else bn x n:=by
  have f:x=bn x n+n*Int.tdiv x n:=by
   have:=Int.mul_tdiv_add_tmod x n;omega
  generalize bn x n=q at*;generalize Int.tdiv x n=k at*;rw[f,bB];split
  ·rw[←bB q n 1,Int.mul_one];exact bN (by omega) (by omega)
  ·exact bN (by omega) (by omega)
 rw[d];generalize i:bn x n=q at b c ⊢;by_cases a:q<0
 ·rw[if_pos a];go_enter func20,ntmps20;go_wp2;go_ret;exact⟨rfl,rfl⟩
 ·rw[if_neg a];go_enter func20,ntmps20;go_wp2;go_ret;exact⟨rfl,rfl⟩
def YI(F H:bb)(a b:List Int)(w:a6)(r:Af U w 0 F a)(s:Af U w 0 H b)(ao:a.length≤1000000):aS prog 14 #[F,H] w fun e w'=>e=.returned (.bool (decide (a=b)))∧Bl w w':=by
 obtain⟨M,ca,rfl,aj,ap,u⟩:=r.open_;obtain⟨N,Q,rfl,S,aq,v⟩:=s.open_;by_cases E:(a.length:Int)=b.length
 ·have PA:Hq (0<a.length→∃ q d,M=Z ⟨q,d,O⟩∧q<w.heap.size∧∀ j,j<a.length→w.cell? ⟨q,d+j,O⟩=Z (I U (a.getD j 0))):=fun B=>by
   obtain⟨q,d,e,_,l,n⟩:=u B;exact⟨q,d,e,l,fun j f=>by rw[am,ar f];exact n j f⟩
  have PB:Hq (0<a.length→∃ q d,N=Z ⟨q,d,O⟩∧q<w.heap.size∧∀ j,j<a.length→w.cell? ⟨q,d+j,O⟩=Z (I U (b.getD j 0))):=fun B=>by
   obtain⟨q,d,e,_,l,n⟩:=v (by omega);exact⟨q,d,e,l,fun j f=>by rw[am,ar (show j<b.length by omega)];exact n j (by omega)⟩
  have L:Hq ((∀ j,j<a.length→a.getD j 0=b.getD j 0)→a=b):=fun h=>by
   apply bx
   ·omega
   ·intro j C l;have:=h j C;rw[am,am,ar C,ar l] at this;exact this
  have ak:a.length≤Q:=by omega
  have t:b.length=a.length:=by omega
  have HL:=HH t;rw[t];clear u v r s E S t;go_enter func14,ntmps14;go_wp2
  go_loopg [5] a.length (fun R s5 wr=>∃ k:Nat,k≤a.length∧a.length-k≤R∧s5=I J k∧Hq (Bl w wr)∧Hq (∀ j,j<k→a.getD j 0=b.getD j 0))
  case atStart=>exact⟨0,bf _,by omega,rfl,aP _ w,fun j f=>absurd f (be _)⟩
  case round=>
   obtain⟨k,hk,hg,rfl,i,A⟩:=hrel;by_cases D:k<a.length
   ·have V:(k:Int)<(a.length:Int):=by omega
    obtain⟨qa,ac,rfl,W,c⟩:=PA.o (by omega);obtain⟨qb,ad,rfl,X,e⟩:=PB.o (by omega);have P:=(i.o.cell (p:=⟨qa,ac+k,O⟩) W).trans (c k D);have z:=(i.o.cell (p:=⟨qb,ad+k,O⟩) X).trans (e k D);clear c e;by_cases g:a.getD k 0=b.getD k 0
    ·rw[←g] at z;have m:=HH g;clear g;go_wp2
     go_quiet (fail)
     go_wp2
     go_roundg (a.length-(k+1))
     case measure=>omega
     case rel=>
      refine⟨k+1,by omega,by omega,by go_num,i.o.trans ⟨rfl,rfl,rfl,av _,fun _ _=>rfl⟩,fun j f=>?_⟩;by_cases e:j=k
      ·subst e;exact m.o
      ·exact A.o j (by omega)
    ·have m:=HH g;generalize a.getD k 0=x at P g;generalize b.getD k 0=y at z g;have al:(x !=y)=true:=by simp[g]
     go_wp2
     go_quiet (fail)
     go_wp2;go_ret;exact⟨A8 (decide_eq_false (fun h=>m.o (by rw[h]))).symm,i.o.trans ⟨rfl,rfl,rfl,av _,fun _ _=>rfl⟩⟩
   ·have V:¬(k:Int)<(a.length:Int):=by omega
    go_wp2;go_ret;exact⟨A8 (decide_eq_true (L.o fun j f=>A.o j (by omega))).symm,i.o⟩
 ·have K:Hq (¬a=b):=fun h=>E (by rw[h]);rw[show decide (a=b)=false from decide_eq_false K.o];clear u v r s;go_enter func14,ntmps14;go_wp2;go_ret;exact⟨rfl,⟨rfl,rfl,rfl,av _,fun _ _=>rfl⟩⟩
def Qp(F H:bb)(a b:List Int)(w:a6)(r:Af J w 0 F a)(s:Af J w 0 H b)(ao:a.length≤1000000):aS prog 15 #[F,H] w fun e w'=>e=.returned (.bool (decide (a=b)))∧Bl w w':=by
 obtain⟨M,ca,rfl,aj,ap,u⟩:=r.open_;obtain⟨N,Q,rfl,S,aq,v⟩:=s.open_;by_cases E:(a.length:Int)=b.length
 ·have PA:Hq (0<a.length→∃ q d,M=Z ⟨q,d,O⟩∧q<w.heap.size∧∀ j,j<a.length→w.cell? ⟨q,d+j,O⟩=Z (I J (a.getD j 0))):=fun B=>by
   obtain⟨q,d,e,_,l,n⟩:=u B;exact⟨q,d,e,l,fun j f=>by rw[am,ar f];exact n j f⟩
  have PB:Hq (0<a.length→∃ q d,N=Z ⟨q,d,O⟩∧q<w.heap.size∧∀ j,j<a.length→w.cell? ⟨q,d+j,O⟩=Z (I J (b.getD j 0))):=fun B=>by
   obtain⟨q,d,e,_,l,n⟩:=v (by omega);exact⟨q,d,e,l,fun j f=>by rw[am,ar (show j<b.length by omega)];exact n j (by omega)⟩
  have L:Hq ((∀ j,j<a.length→a.getD j 0=b.getD j 0)→a=b):=fun h=>by
   apply bx
   ·omega
   ·intro j C l;have:=h j C;rw[am,am,ar C,ar l] at this;exact this
  have ak:a.length≤Q:=by omega
  have t:b.length=a.length:=by omega
  have HL:=HH t;rw[t];clear u v r s E S t;go_enter func15,ntmps15;go_wp2
  go_loopg [5] a.length (fun R s5 wr=>∃ k:Nat,k≤a.length∧a.length-k≤R∧s5=I J k∧Hq (Bl w wr)∧Hq (∀ j,j<k→a.getD j 0=b.getD j 0))
  case atStart=>exact⟨0,bf _,by omega,rfl,aP _ w,fun j f=>absurd f (be _)⟩
  case round=>
   obtain⟨k,hk,hg,rfl,i,A⟩:=hrel;by_cases D:k<a.length
   ·have V:(k:Int)<(a.length:Int):=by omega
    obtain⟨qa,ac,rfl,W,c⟩:=PA.o (by omega);obtain⟨qb,ad,rfl,X,e⟩:=PB.o (by omega);have P:=(i.o.cell (p:=⟨qa,ac+k,O⟩) W).trans (c k D);have z:=(i.o.cell (p:=⟨qb,ad+k,O⟩) X).trans (e k D);clear c e;by_cases g:a.getD k 0=b.getD k 0
    ·rw[←g] at z;have m:=HH g;clear g;go_wp2
     go_quiet (fail)
     go_wp2
     go_roundg (a.length-(k+1))
     case measure=>omega
     case rel=>
      refine⟨k+1,by omega,by omega,by go_num,i.o.trans ⟨rfl,rfl,rfl,av _,fun _ _=>rfl⟩,fun j f=>?_⟩;by_cases e:j=k
      ·subst e;exact m.o
      ·exact A.o j (by omega)
    ·have m:=HH g;generalize a.getD k 0=x at P g;generalize b.getD k 0=y at z g;have al:(x !=y)=true:=by simp[g]
     go_wp2
     go_quiet (fail)
     go_wp2;go_ret;exact⟨A8 (decide_eq_false (fun h=>m.o (by rw[h]))).symm,i.o.trans ⟨rfl,rfl,rfl,av _,fun _ _=>rfl⟩⟩
   ·have V:¬(k:Int)<(a.length:Int):=by omega
    go_wp2;go_ret;exact⟨A8 (decide_eq_true (L.o fun j f=>A.o j (by omega))).symm,i.o⟩
 ·have K:Hq (¬a=b):=fun h=>E (by rw[h]);rw[show decide (a=b)=false from decide_eq_false K.o];clear u v r s;go_enter func15,ntmps15;go_wp2;go_ret;exact⟨rfl,⟨rfl,rfl,rfl,av _,fun _ _=>rfl⟩⟩
def Ma(l:List CG)(k i:Nat)(b:k<l.length)(a:i<3):(Hn l)[k*3+i]? =([I J l[k].proc,I U l[k].fault,I J l[k].code]:List bb)[i]?:=
 It (cells:=fun x:CG=> [I J x.proc,I U x.fault,I J x.code]) (fun _=>rfl) l k i b a
def BJ.open_{w:a6}{B:Nat}{v:bb}{l:List CG}(h:BJ w B v l):∃ (b:Option Addr) (cap:Nat),v=Y b l.length cap∧l.length≤cap∧(b=O→cap=0)∧
  (0<l.length→∃ q a,b=Z ⟨q,a,O⟩∧q<w.heap.size∧∀ k (c:k<l.length),w.cell? ⟨q,a+k*3,O⟩=Z (I J l[k].proc)∧w.cell? ⟨q,a+k*3+1,O⟩=Z (I U l[k].fault)∧w.cell? ⟨q,a+k*3+2,O⟩=Z (I J l[k].code)):=by
 obtain⟨b,cap,n,g,i,_,j⟩:=h;refine⟨b,cap,n,g,i,fun f=>?_⟩;obtain⟨q,a,e,_,m,d⟩:=j f;refine⟨q,a,e,m,fun k c=>⟨?_,?_,?_⟩⟩
 ·exact d (k*3) _ (by have:=Ma l k 0 c (by omega);simpa using this)
 ·have:=d (k*3+1) _ (by have:=Ma l k 1 c (by omega);simpa using this);rwa [←bS] at this
 ·have:=d (k*3+2) _ (by have:=Ma l k 2 c (by omega);simpa using this);rwa [←bS] at this
def Nd(va vb:bb)(a b:List CG)(w:a6)(D:BJ w 0 va a)(E:BJ w 0 vb b)(aB:a.length≤1000000):aS prog 13 #[va,vb] w fun e w'=>e=.returned (.bool (decide (a=b)))∧Bl w w':=by
 obtain⟨aa,ca,rfl,ay,aC,M⟩:=D.open_;obtain⟨ab,cb,rfl,an,aD,N⟩:=E.open_;by_cases W:(a.length:Int)=b.length
 ·have PA:Hq (0<a.length→∃ q d,aa=Z ⟨q,d,O⟩∧q<w.heap.size∧∀ k,k<a.length→w.cell? ⟨q,d+k*3,O⟩=Z (I J (a.getD k default).proc)∧w.cell? ⟨q,d+k*3+1,O⟩=Z (I U (a.getD k default).fault)∧w.cell? ⟨q,d+k*3+2,O⟩=Z (I J (a.getD k default).code)):=fun S=>by
   obtain⟨q,d,e,f,g⟩:=M S;exact⟨q,d,e,f,fun k r=>by rw[am,ar r];exact g k r⟩
  have PB:Hq (0<a.length→∃ q d,ab=Z ⟨q,d,O⟩∧q<w.heap.size∧∀ k,k<a.length→w.cell? ⟨q,d+k*3,O⟩=Z (I J (b.getD k default).proc)∧w.cell? ⟨q,d+k*3+1,O⟩=Z (I U (b.getD k default).fault)∧w.cell? ⟨q,d+k*3+2,O⟩=Z (I J (b.getD k default).code)):=fun S=>by
   obtain⟨q,d,e,f,g⟩:=N (by omega);exact⟨q,d,e,f,fun k r=>by rw[am,ar (show k<b.length by omega)];exact g k (by omega)⟩
  have HE:Hq ((∀ j,j<a.length→a.getD j default=b.getD j default)→a=b):=fun h=>by
   apply bx
   ·omega
   ·intro j m f;have:=h j m;rw[am,am,ar m,ar f] at this;exact this
  have az:a.length≤cb:=by omega
  have H:b.length=a.length:=by omega
  have HL:=HH H;rw[H];clear M N D E W an H;go_enter func13,ntmps13;go_wp2
  go_loopg [5] a.length (fun gg s5 wr=>∃ k:Nat,k≤a.length∧a.length-k≤gg∧s5=I J k∧Hq (Bl w wr)∧Hq (∀ j,j<k→a.getD j default=b.getD j default))
  case atStart=>exact⟨0,bf _,by omega,rfl,aP _ w,fun j F=>absurd F (be _)⟩
  case round=>
   obtain⟨k,r,hg,rfl,l,A⟩:=hrel;by_cases V:k<a.length
   ·have ao:(k:Int)<(a.length:Int):=by omega
    obtain⟨qa,aE,rfl,ap,c⟩:=PA.o (by omega);obtain⟨qb,aF,rfl,aq,e⟩:=PB.o (by omega);obtain⟨v,c1,c2⟩:=c k V;obtain⟨z,B,C⟩:=e k V;rw[←l.o.cell (p:=⟨qa,_,O⟩) ap] at v c1 c2;rw[←l.o.cell (p:=⟨qb,_,O⟩) aq] at z B C;obtain⟨x,K⟩:=ex (a.getD k default);obtain⟨y,L⟩:=ex (b.getD k default);rw[←K] at v c1 c2;rw[←L] at z B C;obtain⟨t,u⟩:=H2 K L;clear c e K L;by_cases i:x=y
    ·subst i;go_wp2
     go_quiet (fail)
     go_wp2
     go_roundg (a.length-(k+1))
     case measure=>omega
     case rel=>
      refine⟨k+1,by omega,by omega,by go_num,l.o.trans ⟨rfl,rfl,rfl,av _,fun _ _=>rfl⟩,fun j F=>?_⟩;by_cases e:j=k
      ·subst e;exact t.o.symm.trans u.o
      ·exact A.o j (by omega)
    ·have P:=HH i;have s:Hq (∀ n,Ending.returned (.bool false)=.returned (.bool (decide (a=b)))∧Bl w (wr.drewN n)):=fun n=>⟨A8 (decide_eq_false (fun h=>P.o (by rw[t.o,u.o,h]))).symm,l.o.trans ⟨rfl,rfl,rfl,av _,fun _ _=>rfl⟩⟩;obtain⟨X,Q,cx⟩:=x;obtain⟨py,R,cy⟩:=y;simp only[] at v c1 c2 z B C;clear t u P;by_cases m:X=py
     ·subst m;by_cases f:Q=R
      ·subst f;have g:(cx==cy)=false:=by simp;rintro rfl;exact i rfl
       clear i;go_wp2
       go_quiet (fail)
       go_wp2;go_ret;exact s.o _
      ·have g:(Q==R)=false:=by simpa using f
       clear i;go_wp2
       go_quiet (fail)
       go_wp2;go_ret;exact s.o _
     ·have g:(X==py)=false:=by simpa using m
      clear i;go_wp2
      go_quiet (fail)
      go_wp2;go_ret;exact s.o _
   ·have ao:¬(k:Int)<(a.length:Int):=by omega
    go_wp2;go_ret;exact⟨A8 (decide_eq_true (HE.o fun j F=>A.o j (by omega))).symm,l.o⟩
 ·have HD:Hq (¬a=b):=fun h=>W (by rw[h]);rw[show decide (a=b)=false from decide_eq_false HD.o];clear M N D E;go_enter func13,ntmps13;go_wp2;go_ret;exact⟨rfl,⟨rfl,rfl,rfl,av _,fun _ _=>rfl⟩⟩
def Vd:(prog.info? 5).map (fun i=>(i.zero,i.size,i.bytes))=Z (Z (I U 0),1,1):=by kernel_rfl
def Ej(n:Int):List Int:=(bl ((n%210).toNat/3+1)).map fun(i:Nat)=>(n+(i:Int))%256
def EE(n:Int):List Int:=if n%11=0 then [] else Ej n
def Py(n:Int):(EE n).length≤70∧Bf (EE n):=by
 have b:(Ej n).length≤70∧Bf (Ej n):=by
  refine⟨by simp[Ej];omega,fun z a=>?_⟩;obtain⟨i,_,rfl⟩:=List.mem_map.1 a;omega
 unfold EE;split
 ·exact⟨by simp,fun z a=>by cases a⟩
 ·exact b
def Xn(n:Int)(w:a6):aS prog 38 #[I J n] w fun e w'=>∃ v,e=.returned v∧C5 w' w.heap.size v (EE n)∧Bl w w':=by
 obtain⟨m,r⟩:∃ m:Nat,n%210=(m:Int):=⟨(n%210).toNat,by omega⟩;have ag:m<210:=by omega
 have p:Hq (∀ W,aS prog 20 #[I J n,I J 210] W fun e w'=>e=.returned (I J (m:Int))∧w'=W):=fun W=>by rw[←r];exact Jj n 210 (by decide) (by decide) W
 have M:=HH r;clear r;have B:(Ej n).length=m/3+1:=by
  simp only[Ej,List.length_map,List.length_range,M.o,Int.toNat_natCast]
 have x:=HH B;clear B;go_enter func38,ntmps38;go_wp2_with fail
 go_loopw [3,4] (fun s3 s4 wr=>∃ k:Nat,k≤m/3+1∧s4=I J k∧∃ g i,s3=Y g k i∧Hq (Bl w wr∧wr.ownsRow w.heap.size 5 1 (Y g k i) k (((Ej n).take k).map (bC U)))) (fun _ v _=>m/3+1-(intOf v).toNat)
 case atStart=>exact⟨0,bf _,rfl,O,0,rfl,aP _ w,by simp,.inl ⟨rfl,rfl⟩⟩
 case round=>
  obtain⟨k,af,rfl,g,i,rfl,A⟩:=hrel;by_cases hk:k<m/3+1
  ·have S:(k:Int)≤(m:Int)/3:=by omega
   obtain⟨a,c⟩:=A.o;obtain⟨y,c3,s,D,C,f⟩:=Gv (W:=wr.alloc (T #[I U (bO (n+(k:Int))%256)] 5)) (q:=wr.heap.size) (new:=[I U (bO (n+(k:Int))%256)]) (Bp c fun b _ a=>bJ _ _ _ a) underlying34 Vd rfl (by decide) (by have:=a.size;simp;omega) (by omega) (by decide) (a8 _ _) rfl (by intro u F;simp only[List.mem_singleton] at F;subst F;rfl) 34;have z:=fun b=>F8 (b:=b) c;have E:=f.size;have X:wr.heap.size+1≤s.heap.size:=by simpa using E
   have K:Hq (Bl w s):=⟨f.os.trans a.os,f.tape.trans a.tape,f.output.trans a.output,by have:=a.size;omega,fun j Q=>(f.block j (by have:=a.size;simp;omega) (fun e=>by have:=(z j e.symm).1;omega)).trans ((bJ _ _ _ (by have:=a.size;omega)).trans (a.block j Q))⟩;have N:Hq (s.ownsRow w.heap.size 5 1 (Y y (k+1) c3) (k+1) (((Ej n).take (k+1)).map (bC U))):=by
    have R:k<(Ej n).length:=by have:=x.o;omega
    have e:((Ej n).take (k+1)).map (bC U)=((Ej n).take k).map (bC U)++ [I U (bO (n+(k:Int))%256)]:=by
     have hv:(Ej n)[k]=bO (n+(k:Int))%256:=by
      simp only[Ej,List.getElem_map,List.getElem_range];unfold bO;omega
     rw[bu R,List.map_append,hv];rfl
    show World.ownsRow _ _ _ _ _ _ _;rw[e];exact C
   have P:=HH D;clear A a c D C f z E X;go_wp2_with (first|(go_at_call 20;refine(p.o _).mono ?_;rintro e H ⟨rfl,rfl⟩)|(at_builtin;refine Lib.wpList_append_run _ rfl _ _ _ _ rfl _ _ rfl rfl _ _ P.o ?_))
   go_roundw
   case rel=>exact⟨k+1,by omega,by go_num,y,c3,rfl,K.o,N.o⟩
   case measure=>simp[intOf];omega
  ·obtain rfl:k=m/3+1:=by omega
   have S:¬((m/3+1:Nat):Int)≤(m:Int)/3:=by omega
   obtain⟨a,c⟩:=A.o;have t:=HH a;have L:Hq (C5 wr w.heap.size (Y g (m/3+1) i) (Ej n)):=by
    have V:=x.o;rw[List.take_of_length_le (by omega)] at c;show wr.ownsRow _ _ _ _ _ _;rw[V];exact c
   clear A a c;by_cases d:n%11=0
   ·have ht:bn n 11=0:=Int.tmod_eq_zero_of_dvd (Int.dvd_of_emod_eq_zero d);have l:Hq (EE n=[]):=by unfold EE;rw[if_pos d];rfl
    clear d;go_wp2_with (go_at_call 20;refine(p.o _).mono ?_;rintro e H ⟨rfl,rfl⟩);go_ret;exact⟨_,rfl,by rw[l.o];exact⟨by simp,.inl ⟨rfl,rfl⟩⟩,t.o⟩
   ·have ht:¬bn n 11=0:=fun h=>d (Int.emod_eq_zero_of_dvd (Int.dvd_of_tmod_eq_zero h));have l:Hq (EE n=Ej n):=by unfold EE;rw[if_neg d];rfl
    clear d;go_wp2_with (go_at_call 20;refine(p.o _).mono ?_;rintro e H ⟨rfl,rfl⟩);go_ret;exact⟨_,rfl,by rw[l.o];exact L.o,t.o⟩
section
variable {d:Ad} {s:Ae} {now:Int}
end
def KZ:bt:=⟨fun|157=>198|229=>210|199=>211|261=>222|311=>231|312=>232|n=>n,fun|9=>9|31=>223|3=>3|5=>5|4=>4|119=>304|0=>0|40=>306|152=>315|21=>21|154=>317|51=>229|141=>319|196=>329|193=>326|198=>332|49=>330|194=>327|201=>335|226=>338|46=>179|227=>339|n=>n,fun|0=>3|6=>5|n=>n⟩
def Kb:bR prog KZ:={mixed:=by kernel_rfl,f157:=func198.trans (congrArg Z (by kernel_rfl)),f199:=func211.trans (congrArg Z (by kernel_rfl)),f229:=func210.trans (congrArg Z (by kernel_rfl)),f261:=func222.trans (congrArg Z (by kernel_rfl)),f311:=func231.trans (congrArg Z (by kernel_rfl)),f312:=func232.trans (congrArg Z (by kernel_rfl)),t0:=underlying0,a0:=isAgg0,z0:=sizeOf0,v0:=zeroValue0,t3:=underlying3,a3:=isAgg3,z3:=sizeOf3,v3:=zeroValue3,t4:=underlying4,a4:=isAgg4,z4:=sizeOf4,v4:=zeroValue4,t5:=underlying5,a5:=isAgg5,z5:=sizeOf5,v5:=zeroValue5,t9:=underlying9,a9:=isAgg9,z9:=sizeOf9,v9:=zeroValue9,t21:=underlying21,a21:=isAgg21,z21:=sizeOf21,v21:=zeroValue21,t31:=underlying223,a31:=isAgg223,z31:=sizeOf223,v31:=zeroValue223,t40:=underlying306,a40:=isAgg306,z40:=sizeOf306,v40:=zeroValue306,t46:=underlying179,a46:=isAgg179,z46:=sizeOf179,v46:=zeroValue179,t49:=underlying330,a49:=isAgg330,z49:=sizeOf330,v49:=zeroValue330,t51:=underlying229,a51:=isAgg229,z51:=sizeOf229,v51:=zeroValue229,t119:=underlying304,a119:=isAgg304,z119:=sizeOf304,t141:=underlying319,a141:=isAgg319,z141:=sizeOf319,v141:=zeroValue319,t152:=underlying315,a152:=isAgg315,z152:=sizeOf315,v152:=zeroValue315,t154:=underlying317,a154:=isAgg317,z154:=sizeOf317,v154:=zeroValue317,t193:=underlying326,a193:=isAgg326,z193:=sizeOf326,v193:=zeroValue326,t194:=underlying327,a194:=isAgg327,z194:=sizeOf327,v194:=zeroValue327,t196:=underlying329,a196:=isAgg329,z196:=sizeOf329,v196:=zeroValue329,t198:=underlying332,a198:=isAgg332,z198:=sizeOf332,v198:=zeroValue332,t201:=underlying335,a201:=isAgg335,z201:=sizeOf335,v201:=zeroValue335,t226:=underlying338,a226:=isAgg338,z226:=sizeOf338,v226:=zeroValue338,t227:=underlying339,a227:=isAgg339,z227:=sizeOf339,v227:=zeroValue339,g0:=by kernel_rfl,g6:=by kernel_rfl,i0:=by kernel_rfl,i3:=by kernel_rfl,i4:=by kernel_rfl,i5:=by kernel_rfl,i9:=by kernel_rfl,i21:=by kernel_rfl,i31:=by kernel_rfl,i40:=by kernel_rfl,i46:=by kernel_rfl,i49:=by kernel_rfl,i51:=by kernel_rfl,i141:=by kernel_rfl,i152:=by kernel_rfl,i154:=by kernel_rfl,i193:=by kernel_rfl,i194:=by kernel_rfl,i196:=by kernel_rfl,i198:=by kernel_rfl,i201:=by kernel_rfl,i226:=by kernel_rfl,i227:=by kernel_rfl,m0:=by kernel_rfl,m6:=by kernel_rfl}
def Pg:bt:=⟨fun|156=>140|165=>175|166=>176|169=>177|240=>195|241=>196|276=>207|277=>208|n=>n,fun|31=>223|9=>9|3=>3|4=>4|0=>0|20=>20|72=>274|76=>277|70=>272|37=>34|75=>276|127=>295|164=>301|5=>5|80=>279|n=>n,fun|n=>n⟩
def WO:bT prog Pg:=⟨by kernel_rfl,func140.trans (congrArg Z (by kernel_rfl)),func175.trans (congrArg Z (by kernel_rfl)),func176.trans (congrArg Z (by kernel_rfl)),func177.trans (congrArg Z (by kernel_rfl)),func195.trans (congrArg Z (by kernel_rfl)),func196.trans (congrArg Z (by kernel_rfl)),func207.trans (congrArg Z (by kernel_rfl)),func208.trans (congrArg Z (by kernel_rfl)),underlying0,isAgg0,sizeOf0,zeroValue0,underlying3,isAgg3,sizeOf3,zeroValue3,underlying4,isAgg4,sizeOf4,zeroValue4,underlying9,isAgg9,sizeOf9,zeroValue9,underlying20,isAgg20,sizeOf20,zeroValue20,underlying223,isAgg223,sizeOf223,zeroValue223,underlying34,isAgg34,sizeOf34,zeroValue34,underlying272,isAgg272,sizeOf272,zeroValue272,underlying274,isAgg274,sizeOf274,zeroValue274,underlying276,isAgg276,sizeOf276,zeroValue276,underlying277,isAgg277,sizeOf277,zeroValue277,underlying295,isAgg295,sizeOf295,zeroValue295,underlying301,isAgg301,sizeOf301,zeroValue301⟩
def KY:bt:=⟨fun|145=>178|220=>197|219=>209|217=>218|225=>219|224=>220|267=>221|266=>229|314=>230|n=>n,fun|9=>9|4=>4|59=>280|3=>3|5=>5|46=>179|146=>230|51=>229|n=>n,fun|1=>4|n=>n⟩
def WL:bU prog KY:=⟨by kernel_rfl,func178.trans (congrArg Z (by kernel_rfl)),func218.trans (congrArg Z (by kernel_rfl)),func209.trans (congrArg Z (by kernel_rfl)),func197.trans (congrArg Z (by kernel_rfl)),func220.trans (congrArg Z (by kernel_rfl)),func219.trans (congrArg Z (by kernel_rfl)),func229.trans (congrArg Z (by kernel_rfl)),func221.trans (congrArg Z (by kernel_rfl)),func230.trans (congrArg Z (by kernel_rfl)),underlying3,isAgg3,sizeOf3,zeroValue3,underlying4,isAgg4,sizeOf4,zeroValue4,underlying5,isAgg5,sizeOf5,zeroValue5,underlying9,isAgg9,sizeOf9,zeroValue9,underlying179,isAgg179,sizeOf179,zeroValue179,underlying229,isAgg229,sizeOf229,zeroValue229,underlying280,isAgg280,sizeOf280,zeroValue280,underlying230,isAgg230,sizeOf230,zeroValue230,by kernel_rfl⟩
def WN:bt:=⟨fun|171=>174|243=>194|246=>206|283=>214|284=>215|285=>216|286=>217|129=>225|317=>224|318=>226|319=>227|320=>228|337=>233|338=>234|n=>n,fun|3=>3|9=>9|2=>2|4=>4|171=>308|0=>0|53=>232|37=>34|5=>5|173=>311|212=>322|51=>229|20=>20|213=>323|46=>179|232=>340|233=>341|n=>n,fun|17=>6|18=>7|19=>8|n=>n⟩
def WM:bQ prog WN:={mixed:=by kernel_rfl,f129:=func225.trans (congrArg Z (by kernel_rfl)),f171:=func174.trans (congrArg Z (by kernel_rfl)),f243:=func194.trans (congrArg Z (by kernel_rfl)),f246:=func206.trans (congrArg Z (by kernel_rfl)),f283:=func214.trans (congrArg Z (by kernel_rfl)),f284:=func215.trans (congrArg Z (by kernel_rfl)),f285:=func216.trans (congrArg Z (by kernel_rfl)),f286:=func217.trans (congrArg Z (by kernel_rfl)),f317:=func224.trans (congrArg Z (by kernel_rfl)),f318:=func226.trans (congrArg Z (by kernel_rfl)),f319:=func227.trans (congrArg Z (by kernel_rfl)),f320:=func228.trans (congrArg Z (by kernel_rfl)),f337:=func233.trans (congrArg Z (by kernel_rfl)),f338:=func234.trans (congrArg Z (by kernel_rfl)),t0:=underlying0,a0:=isAgg0,z0:=sizeOf0,v0:=zeroValue0,t2:=underlying2,a2:=isAgg2,z2:=sizeOf2,v2:=zeroValue2,t3:=underlying3,a3:=isAgg3,z3:=sizeOf3,v3:=zeroValue3,t4:=underlying4,a4:=isAgg4,z4:=sizeOf4,v4:=zeroValue4,t5:=underlying5,a5:=isAgg5,z5:=sizeOf5,v5:=zeroValue5,t9:=underlying9,a9:=isAgg9,z9:=sizeOf9,v9:=zeroValue9,t20:=underlying20,a20:=isAgg20,z20:=sizeOf20,v20:=zeroValue20,t37:=underlying34,a37:=isAgg34,z37:=sizeOf34,v37:=zeroValue34,t46:=underlying179,a46:=isAgg179,z46:=sizeOf179,v46:=zeroValue179,t51:=underlying229,a51:=isAgg229,z51:=sizeOf229,v51:=zeroValue229,t53:=underlying232,a53:=isAgg232,z53:=sizeOf232,v53:=zeroValue232,t171:=underlying308,a171:=isAgg308,z171:=sizeOf308,v171:=zeroValue308,t173:=underlying311,a173:=isAgg311,z173:=sizeOf311,v173:=zeroValue311,t212:=underlying322,a212:=isAgg322,z212:=sizeOf322,v212:=zeroValue322,t213:=underlying323,a213:=isAgg323,z213:=sizeOf323,t232:=underlying340,a232:=isAgg340,z232:=sizeOf340,v232:=zeroValue340,t233:=underlying341,a233:=isAgg341,z233:=sizeOf341,v233:=zeroValue341,g17:=by kernel_rfl,g18:=by kernel_rfl,g19:=by kernel_rfl,i0:=by kernel_rfl,i2:=by kernel_rfl,i3:=by kernel_rfl,i4:=by kernel_rfl,i5:=by kernel_rfl,i9:=by kernel_rfl,i20:=by kernel_rfl,i37:=by kernel_rfl,i46:=by kernel_rfl,i51:=by kernel_rfl,i53:=by kernel_rfl,i171:=by kernel_rfl,i173:=by kernel_rfl,i212:=by kernel_rfl,i232:=by kernel_rfl,i233:=by kernel_rfl,m17:=by kernel_rfl,m18:=by kernel_rfl,m19:=by kernel_rfl}
def extra:Builder.Extra prog Pg:={sizeBuilder:=by kernel_rfl,liesBuilder:=by kernel_rfl,t5:=Kb.t5,a5:=Kb.a5,z5:=Kb.z5,v5:=Kb.v5,infoByte:=by kernel_rfl,cellsByte:=by kernel_rfl,sizeByte:=by kernel_rfl,neB5:=by decide}
structure Ce(w:a6):Prop where
 sp:Lib.TabIs prog w "strings.asciiSpace" U Lib.asciiSpaceTab
 PI:Lib.TabIs prog w "internal/strconv.uint64pow10" .u64 Lib.pow10Tab
 ml:∃ m:Int,w.cell? ⟨KY.g 1,0,O⟩=Z (I J m)
def Mx:prog.globalNamed "strings.asciiSpace" =Z 3:=by kernel_rfl
def Mw:prog.globalNamed "internal/strconv.uint64pow10" =Z 6:=by kernel_rfl
def QN{w w':a6}{g:Nat}{nm:String}(a:prog.globalNamed nm=Z g)(b:w'.heap[g]? =w.heap[g]?):w'.var? prog nm=w.var? prog nm:=by
 unfold World.var?;rw[a];simp only[Option.bind_some];rw[b]
def Ce.Ag{w w':a6}(h:Ce w)(a:∀ k,k<16→w'.heap[k]? =w.heap[k]?):Ce w':=by
 obtain⟨m,b⟩:=h.ml;refine⟨(QN Mx (a _ (by decide))).trans h.sp,(QN Mw (a _ (by decide))).trans h.PI,m,?_⟩;have:w'.heap[KY.g 1]? =w.heap[KY.g 1]?:=a _ (by decide);exact(Gh this 0).trans b
def Ce.below{B:Nat}{w w':a6}(h:Ce w)(b:16≤B)(a:Below B w w'):Ce w':=h.Ag fun k c=>a.block k (by omega)
def Ce.BG{B:Nat}{M:List Nat}{w w':a6}(h:Ce w)(e:16≤B)(g:B≤w.heap.size)(d:Upd M w w')(a:∀ b∈M,B≤b):Ce w':=h.Ag fun k f=>d.block k (by omega) (fun c=>by have:=a k c;omega)
def EB:ByteArray:=⟨(([119,111,114,107,58,119,32,115,101,116,58,114,118,32,97,100,100,58,114,114,32,115,117,98,58,114,114,32,108,111,97,100,58,114,97,114,32,115,116,111,114,101,58,114,97,114,32,115].append [101,110,100,58,111,114,108,32,114,101,99,118,58,105,114,114,32,119,97,105,116,58,115,32,115,105,103,110,97,108,58,115,32,114,97,105,115,101,58,101,32,108,111,119,101,114,58,101]).append ([32,117,110,116,105,108,58,101,32,112,117,116,58,98,114,32,103,101,116,58,98,114,32,115,104,111,119,58,100,114,32,108,111,111,107,58,100,114,32,99,108,101,97,114,58,100,32,110].append [101,120,116,58,32,106,117,109,112,58,106,32,122,101,114,111,58,114,106,32,108,101,115,115,58,114,114,106,32,100,105,118,58,114,114,32,102,97,117,108,116,58,99,32,115,116,111,112,58])).toArray⟩
def G8:List (List UInt8):=bj EB.data.toList
def D4(a:Int):List UInt8:=if 1≤a∧a≤(G8.length:Int) then G8.getD (a-1).toNat [] else []
def Ec(a:Int):List UInt8:=(bM (D4 a) [58]).1
def lettP(a:Int):List UInt8:=(bM (D4 a) [58]).2.1
def Kz:G8.length=25:=by kernel_rfl
def VX:EB.size<4294967281:=by decide+kernel
def VW:∀ (j:Nat) b,EB.data.toList[j]? =Z b→b.toNat<128:=by
 have h:EB.data.toList.all (fun b=>decide (b.toNat<128))=true:=by kernel_rfl
 intro j b a;exact of_decide_eq_true (bi.1 h b (List.mem_of_getElem? a))
def YV:∀ l∈G8,l.length≤20:=by
 have h:G8.all (fun l=>decide (l.length≤20))=true:=by kernel_rfl
 intro l a;exact of_decide_eq_true (bi.1 h l a)
def ZG(a:Int):(D4 a).length≤20:=by
 unfold D4;split
 ·rename_i h;have b:(a-1).toNat<G8.length:=by omega
  rw[am,ar b];exact YV _ (bw _)
 ·simp
def ZH(a:Int)(r:0≤a)(u:a≤255)(w:a6)(h:Ce w):
  aS prog 179 #[.string EB,I U a] w fun e w'=>e=.returned (.string ⟨(D4 a).toArray⟩)∧Bl w w':=by
 have d:=Any.strings_Fields_laid Kb EB w VX VW h.sp;have p:(bj EB.data.toList).length=25:=Kz;rw[p] at d;have g:∀ (k:Nat),k<25→(w.alloc (T ((bj EB.data.toList).map fun l=>bP ⟨l.toArray⟩).toArray (KZ.t 9))).cell? ⟨w.heap.size,k,O⟩=Z (.string ⟨(G8.getD k []).toArray⟩):=by
  intro k m;have n:k<(bj EB.data.toList).length:=by omega
  have:=Lib.pieces_cell w ((bj EB.data.toList).map fun l=>(⟨l.toArray⟩:ByteArray)) (KZ.t 9) k ⟨((bj EB.data.toList)[k]).toArray⟩ (by rw[List.getElem?_map,ar n];rfl);rw[bF,List.map_map] at this;rw[show G8.getD k []=(bj EB.data.toList)[k] from by simp only[G8,am,ar n,Option.getD_some]];exact this
 generalize i:w.alloc (T ((bj EB.data.toList).map fun l=>bP ⟨l.toArray⟩).toArray (KZ.t 9))=W at d g;have j:Bl w W:=by rw[←i];exact(aP _ w).alloc (av _) _
 obtain⟨c,f,q⟩:=H3 d j g;clear d p i j g h;generalize EB=x at c ⊢;by_cases c1:a<1
 ·have b:D4 a=[]:=by unfold D4;rw[if_neg (by omega)]
  rw[b];have s:a=0:=by omega
  subst s;clear c1 r u b;go_enter func179,ntmps179;go_wp2_with (go_at_call 198;refine c.o.mono ?_;rintro e w' ⟨rfl,rfl⟩);go_ret;exact⟨rfl,f.o⟩
 ·by_cases c2:25<a
  ·have b:D4 a=[]:=by unfold D4;rw[Kz,if_neg (by omega)]
   rw[b];clear b;go_enter func179,ntmps179;go_wp2_with (go_at_call 198;refine c.o.mono ?_;rintro e w' ⟨rfl,rfl⟩);go_ret;exact⟨rfl,f.o⟩
  ·have b:D4 a=G8.getD (a-1).toNat []:=by unfold D4;rw[Kz,if_pos (by omega)]
   obtain⟨k,rfl⟩:∃ k:Nat,a=k+1:=⟨(a-1).toNat,by omega⟩;rw[show ((k:Int)+1-1).toNat=k by omega] at b;rw[b];have m:k<25:=by omega
   have v:=q.o k m;clear b c1 c2;go_enter func179,ntmps179;go_wp2_with (go_at_call 198;refine c.o.mono ?_;rintro e w' ⟨rfl,rfl⟩);go_ret;exact⟨rfl,f.o⟩
def OZ(a:Int)(h:0≤a)(i:a≤255)(w:a6)(d:Ce w)(g:16≤w.heap.size):
  aS prog 142 #[I U a] w fun e w'=>e=.returned (.tuple #[.string ⟨(Ec a).toArray⟩,.string ⟨(lettP a).toArray⟩])∧Bl w w':=by
 have f:=HH (ZH a h i w d);have c:Hq (∀ W,Bl w W→aS prog 178 #[.string ⟨(D4 a).toArray⟩,.string ⟨#[58]⟩] W fun e w'=>e=.returned (.tuple #[.string ⟨(Ec a).toArray⟩,.string ⟨(lettP a).toArray⟩,.bool (bM (D4 a) [58]).2.2])∧∃ n,w'=W.drewN n):=by
  intro W j;obtain⟨m,k⟩:=(d.below g j).ml;have:=Any.strings_Cut WL ⟨(D4 a).toArray⟩ ⟨#[58]⟩ m W (by
   have:=ZG a;show(D4 a).toArray.size<_;simp only[List.size_toArray];omega) k
  exact this
 generalize Ec a=t at c ⊢;generalize lettP a=p at c ⊢;generalize (bM (D4 a) [58]).2.2=l at c;generalize D4 a=wt at c f;clear d g;go_enter func142,ntmps142;go_wp2_with (first
  |(go_at_call 179;refine f.o.mono ?_;rintro e r ⟨rfl,b⟩)
  |(go_at_call 178;refine(c.o _ b).mono ?_;rintro e s ⟨rfl,q,rfl⟩))
 go_ret2
 exact⟨rfl,⟨b.os,b.tape,b.output,b.size,b.block⟩⟩
def N4(a:Int)(f:0≤a)(g:a≤255)(w:a6)(c:Ce w)(d:16≤w.heap.size):
  aS prog 169 #[I U a] w fun e w'=>e=.returned (.string ⟨(Ec a).toArray⟩)∧Bl w w':=by
 have b:=HH (OZ a f g w c d);generalize Ec a=k at b ⊢;generalize lettP a=i at b;clear c d;go_enter func169,ntmps169;go_wp2_with (go_at_call 142;refine b.o.mono ?_;rintro e j ⟨rfl,h⟩);go_ret;exact⟨rfl,h⟩
def Lg(a:Int)(f:0≤a)(g:a≤255)(w:a6)(c:Ce w)(d:16≤w.heap.size):
  aS prog 109 #[I U a] w fun e w'=>e=.returned (.string ⟨(lettP a).toArray⟩)∧Bl w w':=by
 have b:=HH (OZ a f g w c d);generalize Ec a=k at b;generalize lettP a=i at b ⊢;clear c d;go_enter func109,ntmps109;go_wp2_with (go_at_call 142;refine b.o.mono ?_;rintro e j ⟨rfl,h⟩);go_ret;exact⟨rfl,h⟩
def MD(a:Int)(c:0≤a)(d:a≤255):(lettP a).length≤3:=by
 by_cases h:1≤a∧a≤25
 ·have b:(bl 26).all (fun k=>decide ((lettP (k:Nat)).length≤3))=true:=by kernel_rfl
  obtain⟨k,rfl⟩:∃ k:Nat,a=k:=⟨a.toNat,by omega⟩;exact of_decide_eq_true (bi.1 b k (br.2 (by omega)))
 ·unfold lettP D4;rw[Kz,if_neg (by omega)];decide+kernel
def Pq(a:Int)(h:¬(1≤a∧a≤25)):Ec a=[]∧lettP a=[]:=by
 unfold Ec lettP D4;rw[Kz,if_neg (by omega)];decide+kernel
def AW(w:a6)(v:bb)(n sz:Nat)(u:Nat→Nat→bb):Prop:=
 ∃ (a:Option Addr) (cap:Nat),v=Y a n cap∧n≤cap∧(a=O→cap=0)∧
  (0<n→∃ b c,a=Z ⟨b,c,O⟩∧b<w.heap.size∧∀ k j,k<n→j<sz→w.cell? ⟨b,c+k*sz+j,O⟩=Z (u k j))
def AW.below{w w':a6}{v:bb}{n sz:Nat}{u:Nat→Nat→bb}(h:AW w v n sz u)(a:Bl w w'):AW w' v n sz u:=by
 obtain⟨d,cap,q,m,o,p⟩:=h;refine⟨d,cap,q,m,o,fun e=>?_⟩;obtain⟨b,r,f,c,g⟩:=p e;exact⟨b,r,f,bh c a.size,fun k j l i=>(Gh (a.block b c) _).trans (g k j l i)⟩
def AW.same{w:a6}{v:bb}{n sz:Nat}{u d:Nat→Nat→bb}(h:AW w v n sz u)(m:∀ k j,k<n→j<sz→u k j=d k j):AW w v n sz d:=by
 obtain⟨e,cap,r,o,p,q⟩:=h;refine⟨e,cap,r,o,p,fun f=>?_⟩;obtain⟨b,s,g,i,l⟩:=q f;exact⟨b,s,g,i,fun k j c a=>by rw[←m k j c a];exact l k j c a⟩
def FP(p:Nat→Bool)(n:Nat):Int:=DL p (bl n)
def DQ(p:Nat→Bool)(n:Nat):Bool:=(bl n).any p
def KK{p:Nat→Bool}{n:Nat}(k:Nat)(c:k<n)(h:p k=true)(a:∀ j,j<k→p j=false):FP p n=k:=
 JY p (bl n) k (by simpa using c) (by simpa using h) (fun j b d=>by simpa using a j b)
def KM{p:Nat→Bool}{n:Nat}(a:∀ j,j<n→p j=false):FP p n=-1:=
 JZ p (bl n) (fun j b=>by simpa using a j (by simpa using b))
def KJ(p:Nat→Bool)(n:Nat):decide (0≤FP p n)=DQ p n:=KI p _
def Io{α:Type}(q:α→Bool)(l:List α)(d:α):DQ (fun k=>q (l.getD k d)) l.length=l.any q:=by
 unfold DQ;rw[Bool.eq_iff_iff,bL,bL];constructor
 ·rintro⟨k,a,h⟩;have a:=br.1 a;rw[am,ar a] at h;exact⟨_,bw a,h⟩
 ·rintro⟨x,b,h⟩;obtain⟨k,a,rfl⟩:=List.getElem_of_mem b;refine⟨k,br.2 a,?_⟩;rw[am,ar a];exact h
def UX(v:bb)(n:Nat)(u:Nat→Nat→bb)(g:Nat)(x:Array bb)(p:Nat→Bool)(H:∀ args w,(bo g args).run prog w=.ok (.enter g args) w)(w:a6)(h:AW w v n 1 u)(N:n≤1000000)
  (t:∀ k,k<n→∀ W,Bl w W→aS prog g (#[u k 0]++x) W fun e w'=>e=.returned (.bool (p k))∧Bl w w'):
  aS prog 98 #[v,.func (.func g) #[] x] w fun e w'=>e=.returned (I J (FP p n))∧Bl w w':=by
 obtain⟨F,cap,rfl,K,P,y⟩:=h;obtain⟨z,PA⟩:=H2 t y;clear t y;go_enter func98,ntmps98;go_wp2
 go_loopg [5,8] n (fun B _ E wr=>∃ k:Nat,k≤n∧n-k≤B∧E=I J k∧Hq (Bl w wr)∧Hq (∀ j (c:j<k),p j=false))
 case atStart=>exact⟨0,bf _,by omega,rfl,aP _ w,fun j c=>absurd c (be _)⟩
 case round=>
  obtain⟨k,M,L,rfl,f,A⟩:=hrel;by_cases q:k<n
  ·have D:(k:Int)<(n:Int):=by omega
   obtain⟨b,Q,rfl,C,s⟩:=PA.o (by omega);have r:=s k 0 q (by decide);rw[←f.o.cell (p:=⟨b,_,O⟩) C] at r;simp only[bk,bg] at r;clear s;have a:=z.o k q wr f.o;cases d:p k with
   |true=>
    rw[d] at a;obtain⟨i,l⟩:=H2 a d;clear a d;go_wp2_with (refine i.o.mono ?_;rintro e w' ⟨rfl,m⟩);go_ret;exact⟨EH (KK k q l.o (fun j c=>A.o j c)).symm,m⟩
   |false=>
    rw[d] at a;obtain⟨i,l⟩:=H2 a d;clear a d;go_wp2_with (refine i.o.mono ?_;rintro e w' ⟨rfl,m⟩)
    go_roundg (n-(k+1))
    case measure=>omega
    case rel=>
     refine⟨k+1,by omega,by omega,by go_num,m,fun j c=>?_⟩;by_cases e:j=k
     ·subst e;exact l.o
     ·exact A.o j (by omega)
  ·have D:¬(k:Int)<(n:Int):=by omega
   go_wp2;go_ret;exact⟨EH (KM (fun j c=>A.o j (by omega))).symm,f.o⟩
def JT(v:bb)(n:Nat)(u:Nat→Nat→bb)(g:Nat)(a:Array bb)(p:Nat→Bool)(c:∀ args w,(bo g args).run prog w=.ok (.enter g args) w)(w:a6)(h:AW w v n 1 u)(i:n≤1000000)
  (d:∀ k,k<n→∀ W,Bl w W→aS prog g (#[u k 0]++a) W fun e w'=>e=.returned (.bool (p k))∧Bl w w'):
  aS prog 55 #[v,.func (.func g) #[] a] w fun e w'=>e=.returned (.bool (DQ p n))∧Bl w w':=by
 have b:=HH (UX v n u g a p c w h i d);rw[←KJ];generalize FP p n=q at b ⊢;clear h d c;go_enter func55,ntmps55;go_wp2_with (go_at_call 98;refine b.o.mono ?_;rintro e w' ⟨rfl,f⟩);go_ret;exact⟨rfl,f⟩
def UW(v:bb)(n:Nat)(u:Nat→Nat→bb)(g:Nat)(y:Array bb)(p:Nat→Bool)(H:∀ args w,(bo g args).run prog w=.ok (.enter g args) w)(w:a6)(h:AW w v n 4 u)(N:n≤1000000)
  (x:∀ k,k<n→∀ W,Bl w W→aS prog g (#[.agg #[u k 0,u k 1,u k 2,u k 3]]++y) W fun e w'=>e=.returned (.bool (p k))∧Bl w w'):
  aS prog 100 #[v,.func (.func g) #[] y] w fun e w'=>e=.returned (I J (FP p n))∧Bl w w':=by
 obtain⟨F,cap,rfl,K,P,z⟩:=h;obtain⟨B,PA⟩:=H2 x z;clear x z;go_enter func100,ntmps100;go_wp2
 go_loopg [5,8] n (fun C _ E wr=>∃ k:Nat,k≤n∧n-k≤C∧E=I J k∧Hq (Bl w wr)∧Hq (∀ j (d:j<k),p j=false))
 case atStart=>exact⟨0,bf _,by omega,rfl,aP _ w,fun j d=>absurd d (be _)⟩
 case round=>
  obtain⟨k,M,L,rfl,a,A⟩:=hrel;by_cases f:k<n
  ·have D:(k:Int)<(n:Int):=by omega
   obtain⟨b,Q,rfl,m,l⟩:=PA.o (by omega);have t:=l k 0 f (by decide);rw[←a.o.cell (p:=⟨b,_,O⟩) m] at t;have c1:=l k 1 f (by decide);rw[←a.o.cell (p:=⟨b,_,O⟩) m] at c1;have c2:=l k 2 f (by decide);rw[←a.o.cell (p:=⟨b,_,O⟩) m] at c2;have c3:=l k 3 f (by decide);rw[←a.o.cell (p:=⟨b,_,O⟩) m] at c3;simp only[bk,bg] at t c1 c2 c3;clear l;have c:=B.o k f wr a.o;cases i:p k with
   |true=>
    rw[i] at c;obtain⟨q,r⟩:=H2 c i;clear c i;go_wp2_with (refine q.o.mono ?_;rintro e w' ⟨rfl,s⟩);go_ret;exact⟨EH (KK k f r.o (fun j d=>A.o j d)).symm,s⟩
   |false=>
    rw[i] at c;obtain⟨q,r⟩:=H2 c i;clear c i;go_wp2_with (refine q.o.mono ?_;rintro e w' ⟨rfl,s⟩)
    go_roundg (n-(k+1))
    case measure=>omega
    case rel=>
     refine⟨k+1,by omega,by omega,by go_num,s,fun j d=>?_⟩;by_cases e:j=k
     ·subst e;exact r.o
     ·exact A.o j (by omega)
  ·have D:¬(k:Int)<(n:Int):=by omega
   go_wp2;go_ret;exact⟨EH (KM (fun j d=>A.o j (by omega))).symm,a.o⟩
def Oj(v:bb)(n:Nat)(u:Nat→Nat→bb)(g:Nat)(a:Array bb)(p:Nat→Bool)(c:∀ args w,(bo g args).run prog w=.ok (.enter g args) w)(w:a6)(h:AW w v n 4 u)(i:n≤1000000)
  (d:∀ k,k<n→∀ W,Bl w W→aS prog g (#[.agg #[u k 0,u k 1,u k 2,u k 3]]++a) W fun e w'=>e=.returned (.bool (p k))∧Bl w w'):
  aS prog 60 #[v,.func (.func g) #[] a] w fun e w'=>e=.returned (.bool (DQ p n))∧Bl w w':=by
 have b:=HH (UW v n u g a p c w h i d);rw[←KJ];generalize FP p n=q at b ⊢;clear h d c;go_enter func60,ntmps60;go_wp2_with (go_at_call 100;refine b.o.mono ?_;rintro e w' ⟨rfl,f⟩);go_ret;exact⟨rfl,f⟩
def UZ(v:bb)(n:Nat)(u:Nat→Nat→bb)(g:Nat)(y:Array bb)(p:Nat→Bool)(H:∀ args w,(bo g args).run prog w=.ok (.enter g args) w)(w:a6)(h:AW w v n 6 u)(N:n≤1000000)
  (x:∀ k,k<n→∀ W,Bl w W→aS prog g (#[.agg #[u k 0,u k 1,u k 2,u k 3,u k 4,u k 5]]++y) W fun e w'=>e=.returned (.bool (p k))∧Bl w w'):
  aS prog 95 #[v,.func (.func g) #[] y] w fun e w'=>e=.returned (I J (FP p n))∧Bl w w':=by
 obtain⟨F,cap,rfl,K,P,z⟩:=h;obtain⟨B,PA⟩:=H2 x z;clear x z;go_enter func95,ntmps95;go_wp2
 go_loopg [5,8] n (fun C _ E wr=>∃ k:Nat,k≤n∧n-k≤C∧E=I J k∧Hq (Bl w wr)∧Hq (∀ j (l:j<k),p j=false))
 case atStart=>exact⟨0,bf _,by omega,rfl,aP _ w,fun j l=>absurd l (be _)⟩
 case round=>
  obtain⟨k,M,L,rfl,a,A⟩:=hrel;by_cases c:k<n
  ·have D:(k:Int)<(n:Int):=by omega
   obtain⟨b,Q,rfl,f,d⟩:=PA.o (by omega);have t:=d k 0 c (by decide);rw[←a.o.cell (p:=⟨b,_,O⟩) f] at t;have c1:=d k 1 c (by decide);rw[←a.o.cell (p:=⟨b,_,O⟩) f] at c1;have c2:=d k 2 c (by decide);rw[←a.o.cell (p:=⟨b,_,O⟩) f] at c2;have c3:=d k 3 c (by decide);rw[←a.o.cell (p:=⟨b,_,O⟩) f] at c3;have c4:=d k 4 c (by decide);rw[←a.o.cell (p:=⟨b,_,O⟩) f] at c4;have c5:=d k 5 c (by decide);rw[←a.o.cell (p:=⟨b,_,O⟩) f] at c5;simp only[bk,bg] at t c1 c2 c3 c4 c5;clear d;have i:=B.o k c wr a.o;cases m:p k with
   |true=>
    rw[m] at i;obtain⟨q,r⟩:=H2 i m;clear i m;go_wp2_with (refine q.o.mono ?_;rintro e w' ⟨rfl,s⟩);go_ret;exact⟨EH (KK k c r.o (fun j l=>A.o j l)).symm,s⟩
   |false=>
    rw[m] at i;obtain⟨q,r⟩:=H2 i m;clear i m;go_wp2_with (refine q.o.mono ?_;rintro e w' ⟨rfl,s⟩)
    go_roundg (n-(k+1))
    case measure=>omega
    case rel=>
     refine⟨k+1,by omega,by omega,by go_num,s,fun j l=>?_⟩;by_cases e:j=k
     ·subst e;exact r.o
     ·exact A.o j (by omega)
  ·have D:¬(k:Int)<(n:Int):=by omega
   go_wp2;go_ret;exact⟨EH (KM (fun j l=>A.o j (by omega))).symm,a.o⟩
def Sv(v:bb)(n:Nat)(u:Nat→Nat→bb)(g:Nat)(a:Array bb)(p:Nat→Bool)(c:∀ args w,(bo g args).run prog w=.ok (.enter g args) w)(w:a6)(h:AW w v n 6 u)(i:n≤1000000)
  (d:∀ k,k<n→∀ W,Bl w W→aS prog g (#[.agg #[u k 0,u k 1,u k 2,u k 3,u k 4,u k 5]]++a) W fun e w'=>e=.returned (.bool (p k))∧Bl w w'):
  aS prog 51 #[v,.func (.func g) #[] a] w fun e w'=>e=.returned (.bool (DQ p n))∧Bl w w':=by
 have b:=HH (UZ v n u g a p c w h i d);rw[←KJ];generalize FP p n=q at b ⊢;clear h d c;go_enter func51,ntmps51;go_wp2_with (go_at_call 95;refine b.o.mono ?_;rintro e w' ⟨rfl,f⟩);go_ret;exact⟨rfl,f⟩
def UY(v:bb)(n:Nat)(u:Nat→Nat→bb)(g:Nat)(y:Array bb)(p:Nat→Bool)(H:∀ args w,(bo g args).run prog w=.ok (.enter g args) w)(w:a6)(h:AW w v n 5 u)(N:n≤1000000)
  (x:∀ k,k<n→∀ W,Bl w W→aS prog g (#[.agg #[u k 0,u k 1,u k 2,u k 3,u k 4]]++y) W fun e w'=>e=.returned (.bool (p k))∧Bl w w'):
  aS prog 99 #[v,.func (.func g) #[] y] w fun e w'=>e=.returned (I J (FP p n))∧Bl w w':=by
 obtain⟨F,cap,rfl,K,P,z⟩:=h;obtain⟨B,PA⟩:=H2 x z;clear x z;go_enter func99,ntmps99;go_wp2
 go_loopg [5,8] n (fun C _ E wr=>∃ k:Nat,k≤n∧n-k≤C∧E=I J k∧Hq (Bl w wr)∧Hq (∀ j (i:j<k),p j=false))
 case atStart=>exact⟨0,bf _,by omega,rfl,aP _ w,fun j i=>absurd i (be _)⟩
 case round=>
  obtain⟨k,M,L,rfl,a,A⟩:=hrel;by_cases c:k<n
  ·have D:(k:Int)<(n:Int):=by omega
   obtain⟨b,Q,rfl,m,d⟩:=PA.o (by omega);have t:=d k 0 c (by decide);rw[←a.o.cell (p:=⟨b,_,O⟩) m] at t;have c1:=d k 1 c (by decide);rw[←a.o.cell (p:=⟨b,_,O⟩) m] at c1;have c2:=d k 2 c (by decide);rw[←a.o.cell (p:=⟨b,_,O⟩) m] at c2;have c3:=d k 3 c (by decide);rw[←a.o.cell (p:=⟨b,_,O⟩) m] at c3;have c4:=d k 4 c (by decide);rw[←a.o.cell (p:=⟨b,_,O⟩) m] at c4;simp only[bk,bg] at t c1 c2 c3 c4;clear d;have f:=B.o k c wr a.o;cases l:p k with
   |true=>
    rw[l] at f;obtain⟨q,r⟩:=H2 f l;clear f l;go_wp2_with (refine q.o.mono ?_;rintro e w' ⟨rfl,s⟩);go_ret;exact⟨EH (KK k c r.o (fun j i=>A.o j i)).symm,s⟩
   |false=>
    rw[l] at f;obtain⟨q,r⟩:=H2 f l;clear f l;go_wp2_with (refine q.o.mono ?_;rintro e w' ⟨rfl,s⟩)
    go_roundg (n-(k+1))
    case measure=>omega
    case rel=>
     refine⟨k+1,by omega,by omega,by go_num,s,fun j i=>?_⟩;by_cases e:j=k
     ·subst e;exact r.o
     ·exact A.o j (by omega)
  ·have D:¬(k:Int)<(n:Int):=by omega
   go_wp2;go_ret;exact⟨EH (KM (fun j i=>A.o j (by omega))).symm,a.o⟩
def Su(v:bb)(n:Nat)(u:Nat→Nat→bb)(g:Nat)(a:Array bb)(p:Nat→Bool)(c:∀ args w,(bo g args).run prog w=.ok (.enter g args) w)(w:a6)(h:AW w v n 5 u)(i:n≤1000000)
  (d:∀ k,k<n→∀ W,Bl w W→aS prog g (#[.agg #[u k 0,u k 1,u k 2,u k 3,u k 4]]++a) W fun e w'=>e=.returned (.bool (p k))∧Bl w w'):
  aS prog 58 #[v,.func (.func g) #[] a] w fun e w'=>e=.returned (.bool (DQ p n))∧Bl w w':=by
 have b:=HH (UY v n u g a p c w h i d);rw[←KJ];generalize FP p n=q at b ⊢;clear h d c;go_enter func58,ntmps58;go_wp2_with (go_at_call 99;refine b.o.mono ?_;rintro e w' ⟨rfl,f⟩);go_ret;exact⟨rfl,f⟩
def D0(n:Int):Bool:=decide (0≤n) && decide (n≤1073741824)
def Dx(x:Ai):List Int:=[x.a,x.b,x.c]
def opsL(x:Ai):List Int:=(Dx x).take (lettP x.op).length
def DD(x:Ai):List Int:=(Dx x).drop (lettP x.op).length
def CJ(x:Ai):Bool:=decide (Ec x.op≠ []) && ((opsL x).all D0 && (DD x).all fun n=>decide (n=0))
def C6(w:a6)(v:bb)(l:List Int):Prop:=AW w v l.length 1 (fun k _=>I J (l.getD k 0))
def Tz:EG 192:=fun _ _=>by kernel_rfl
def Tb:EG 193:=fun _ _=>by kernel_rfl
def Mh:EG 109:=fun _ _=>by kernel_rfl
def X8(n:Int)(w:a6):aS prog 192 #[I J n] w fun e w'=>e=.returned (.bool (!D0 n))∧Bl w w':=by
 by_cases a:n<0
 ·rw[show (!D0 n)=true from by simp[D0];omega];go_enter func192,ntmps192;go_wp2;go_ret;exact⟨rfl,aP _ _⟩
 ·by_cases b:1073741824<n
  ·rw[show (!D0 n)=true from by simp[D0];omega];go_enter func192,ntmps192;go_wp2;go_ret;exact⟨rfl,aP _ _⟩
  ·rw[show (!D0 n)=false from by simp[D0];omega];go_enter func192,ntmps192;go_wp2;go_ret;exact⟨rfl,aP _ _⟩
def ZP(n:Int)(w:a6):aS prog 173 #[I J n] w fun e w'=>e=.returned (.bool (decide (n=0)))∧Bl w w':=by
 by_cases a:n=0
 ·subst a;go_enter func173,ntmps173;go_wp2;go_ret;exact⟨rfl,aP _ _⟩
 ·rw[show decide (n=0)=false from decide_eq_false a];have b:=beq_false_of_ne a;go_enter func173,ntmps173;go_wp2;go_ret;exact⟨rfl,aP _ _⟩
def Rx(n:Int)(g:Nat)(w:a6)(c:w.cell? ⟨g,0,O⟩=Z (.func (.func 173) #[] #[])):aS prog 193 #[I J n,G (Z ⟨g,0,O⟩)] w fun e w'=>e=.returned (.bool (!decide (n=0)))∧Bl w w':=by
 have a:=HH (ZP n w);go_enter func193,ntmps193;go_wp2_with (refine a.o.mono ?_;rintro e w' ⟨rfl,b⟩);go_ret;exact⟨rfl,b⟩
def Ld(v:bb)(l:List Int)(w:a6)(h:C6 w v l)(g:l.length≤1000):aS prog 170 #[v] w fun e w'=>e=.returned (.bool (l.all D0))∧Bl w w':=by
 have a:=JT v l.length _ 192 #[] (fun k=>!D0 (l.getD k 0)) Tz w h (by omega) (fun k f W b=>(X8 _ W).mono fun e w' h=>⟨h.1,b.trans (h.2.mono b.size)⟩);rw[Io (fun n=>!D0 n)] at a;have e:l.all D0=!(l.any fun n=>!D0 n):=by rw[bE];simp
 rw[e];generalize (l.any fun n=>!D0 n)=q at a ⊢;have c:=HH a;clear h e a;go_enter func170,ntmps170;go_wp2_with (go_at_call 55;refine c.o.mono ?_;rintro e w' ⟨rfl,d⟩);go_ret;exact⟨rfl,d⟩
def NX(v:bb)(l:List Int)(w:a6)(h:C6 w v l)(s:l.length≤1000):aS prog 172 #[v,.func (.func 173) #[] #[]] w fun e w'=>e=.returned (.bool (l.all fun n=>decide (n=0)))∧Bl w w':=by
 obtain⟨c,a⟩:=ex (w.alloc (T #[.func (.func 173) #[] #[]] 134));have f:Bl w c:=by rw[a];exact(aP _ w).alloc (av _) _
 have g:c.heap[w.heap.size]? =Z (T #[.func (.func 173) #[] #[]] 134 (0,0)):=by rw[a];exact a8 _ _
 have b:=JT v l.length _ 193 #[G (Z ⟨w.heap.size,0,O⟩)] (fun k=>!decide (l.getD k 0=0)) Tb c (h.below f) (by omega) (fun k r W d=>(Rx _ w.heap.size W (Cr ((d.block _ (Aa g)).trans g))).mono fun e w' h=>⟨h.1,d.trans (h.2.mono d.size)⟩);rw[Io (fun n=>!decide (n=0))] at b;have e:(l.all fun n=>decide (n=0))=!(l.any fun n=>!decide (n=0)):=by rw[bE];simp
 rw[e];generalize (l.any fun n=>!decide (n=0))=q at b ⊢;obtain⟨j,i,m⟩:=H3 b f a;clear h e b f g a;go_enter func172,ntmps172;go_wp2_with (rw[←m.o];go_at_call 55;refine j.o.mono ?_;rintro e w' ⟨rfl,p⟩);go_ret;exact⟨rfl,i.o.trans (p.mono i.o.size)⟩
def FH(B:Nat)(x:Ai)(v:bb)(w:a6):Prop:=∃ q,B≤q∧v=Y (Z ⟨q,0,O⟩) 3 3∧w.heap[q]? =Z (T #[I J x.a,I J x.b,I J x.c] 3 (0,0))
def FH.AX{B:Nat}{x:Ai}:DO (FH B x):=fun _ _ _ ⟨q,b,c,a⟩ d=>⟨q,b,c,(d.block _ (Aa a)).trans a⟩
def NT{w:a6}{q:Nat}{x:Ai}(h:w.heap[q]? =Z (T #[I J x.a,I J x.b,I J x.c] 3 (0,0)))(k:Nat)(d:k<3):w.cell? ⟨q,k,O⟩=Z (I J ((Dx x).getD k 0)):=by
 rw[Cr h];rcases(show k=0∨k=1∨k=2 by omega) with rfl|rfl|rfl<;>rfl
def MQ(x:Ai)(s:0≤x.op)(t:x.op≤255)(w:a6)(y:Ce w)(B:16≤w.heap.size):aS prog 171 #[.agg #[I U x.op,I J x.a,I J x.b,I J x.c]] w fun e w'=>∃ v,e=.returned v∧C6 w' v (opsL x)∧Bl w w':=by
 obtain⟨l,p⟩:=ex (w.alloc (T #[I U x.op,I J x.a,I J x.b,I J x.c] 64));have C:Bl w l:=by rw[p];exact(aP _ w).alloc (av _) _
 have q:l.heap[w.heap.size]? =Z (T #[I U x.op,I J x.a,I J x.b,I J x.c] 64 (0,0)):=by rw[p];exact a8 _ _
 obtain⟨i,HK,M,H,z⟩:=H5 C q p y B;have m:Hq (0≤x.op∧x.op≤255):=⟨s,t⟩;have Q:w.heap.size<l.heap.size:=Aa q;obtain⟨X,z1,z2,z3⟩:=q4 q;clear C q p y B s t;obtain⟨L,n⟩:=ex ((lettP x.op).length);have ah:L≤3:=by rw[n];exact MD _ m.o.1 m.o.2
 have A:=HH n;have aj:(⟨(lettP x.op).toArray⟩:ByteArray).size=L:=by rw[n];show(lettP x.op).toArray.size=_;simp
 clear n;go_enter func171,ntmps171;go_upto_region 1 with (fail);rw[←M.o];obtain⟨g,D⟩:=ex w.heap.size;rw[←D] at X z1 z2 z3 Q ⊢;clear D;refine BQ 13 [(6,FH l.heap.size x),(9,fun v _=>v=.string ⟨(lettP x.op).toArray⟩)] ⟨FH.AX,Ch,trivial⟩ ?_
 iterate 6 (refine AK rfl ?_;intro K hK;go_big_quiet_op;go_big_quiet_on)
 refine Ca rfl (fun w' d N=>?_) ?_
 ·exact Bn (v:=Y (Z ⟨w'.heap.size,0,O⟩) 3 3) (w':=w'.alloc (T #[I J x.a,I J x.b,I J x.c] 3)) (by simp[execOp,go_sem]) ⟨(aP _ _).alloc (av _) _,⟨w'.heap.size,d.size,rfl,a8 _ _⟩⟩
 intro v w' d u;obtain⟨F,E,rfl,r⟩:=u;clear d E r w';simp only[Au,a1,bd,bc]
 iterate 2 (refine AK rfl ?_;intro K hK;go_big_quiet_op;go_big_quiet_on)
 refine Ca rfl (fun w' d N=>?_) ?_
 ·refine AD (f:=109) (al:=[I U x.op]) rfl rfl rfl Mh ?_;exact(Lg x.op m.o.1 m.o.2 w' (H.o.below z.o (i.o.trans (d.mono i.o.size))) (by have t:=d.size;have h2:=i.o.size;have h3:=z.o;omega)).mono fun e w2 h=>⟨_,h.1,h.2,rfl⟩
 intro v w' d u;obtain rfl:=u;clear d w';simp only[Au,a1,bd,bc]
 iterate 3 (refine AK rfl ?_;intro K hK;go_big_quiet_op;go_big_quiet_on)
 refine BN ?_;intro W P V;simp only[bs,bA,bD];go_wp2_with fail;go_ret;obtain⟨q2,E,e,r⟩:FH l.heap.size x (Y (Z ⟨F,0,O⟩) 3 3) W:=V 6 _ (by decide) rfl;simp only[bp,bq,bz,and_true,true_and] at e;subst e;refine⟨_,rfl,?_,i.o.trans (P.mono i.o.size)⟩;have S:(opsL x).length=L:=by
  have h4:=A.o;rw[show (opsL x).length=min (lettP x.op).length 3 by simp[opsL,Dx]];omega
 unfold C6;rw[S];refine⟨_,_,rfl,by omega,fun e=>(by cases e),fun s=>⟨F,0,rfl,Aa r,fun k j R hj=>?_⟩⟩;obtain rfl:j=0:=by omega
 rw[bF,bk,bg,NT r k (by omega)];simp only[opsL,←A.o];rw[am,am,List.getElem?_take,if_pos R]
def VQ(x:Ai)(h0:0≤x.op)(h1:x.op≤255)(w:a6)(aU:Ce w)(aW:16≤w.heap.size):aS prog 137 #[.agg #[I U x.op,I J x.a,I J x.b,I J x.c]] w fun e w'=>e=.returned (.bool (CJ x))∧Bl w w':=by
 obtain⟨W1,hW⟩:=ex (w.alloc (T #[I U x.op,I J x.a,I J x.b,I J x.c] 64));have aX:Bl w W1:=by rw[hW];exact(aP _ w).alloc (av _) _
 have aL:W1.heap[w.heap.size]? =Z (T #[I U x.op,I J x.a,I J x.b,I J x.c] 64 (0,0)):=by rw[hW];exact a8 _ _
 obtain⟨P,HK,HW,HG,ac⟩:=H5 aX aL hW aU aW;have y:Hq (0≤x.op∧x.op≤255):=⟨h0,h1⟩;have aq:w.heap.size<W1.heap.size:=Aa aL;obtain⟨z0,z1,z2,z3⟩:=q4 aL;clear aX aL hW aU aW h0 h1;obtain⟨L,hL⟩:=ex ((lettP x.op).length);have a7:L≤3:=by rw[hL];exact MD _ y.o.1 y.o.2
 have aO:=HH hL;have ba:(⟨(lettP x.op).toArray⟩:ByteArray).size=L:=by rw[hL];show(lettP x.op).toArray.size=_;simp
 clear hL;by_cases a2:3=L
 ·subst a2;go_enter func137,ntmps137;go_upto_region 1 with (fail);rw[←HW.o];obtain⟨g,hg⟩:=ex w.heap.size;have aY:=HH hg;rw[←hg] at z0 z1 z2 z3 aq ⊢;clear hg;refine BQ 13 [(6,FH W1.heap.size x),(9,fun v _=>v=.string ⟨(lettP x.op).toArray⟩)] ⟨FH.AX,Ch,trivial⟩ ?_
  iterate 6 (refine AK rfl ?_;intro K hK;go_big_quiet_op;go_big_quiet_on)
  refine Ca rfl (fun w' l hA=>?_) ?_
  ·exact Bn (v:=Y (Z ⟨w'.heap.size,0,O⟩) 3 3) (w':=w'.alloc (T #[I J x.a,I J x.b,I J x.c] 3)) (by simp[execOp,go_sem]) ⟨(aP _ _).alloc (av _) _,⟨w'.heap.size,l.size,rfl,a8 _ _⟩⟩
  intro v w' l hv;obtain⟨q0,hq,rfl,M⟩:=hv;clear l hq M w';simp only[Au,a1,bd,bc]
  iterate 2 (refine AK rfl ?_;intro K hK;go_big_quiet_op;go_big_quiet_on)
  refine Ca rfl (fun w' l hA=>?_) ?_
  ·refine AD (f:=109) (al:=[I U x.op]) rfl rfl rfl Mh ?_;exact(Lg x.op y.o.1 y.o.2 w' (HG.o.below ac.o (P.o.trans (l.mono P.o.size))) (by have h1:=l.size;have h2:=P.o.size;have h3:=ac.o;omega)).mono fun e w2 h=>⟨_,h.1,h.2,rfl⟩
  intro v w' l hv;obtain rfl:=hv;clear l w';simp only[Au,a1,bd,bc]
  iterate 3 (refine AK rfl ?_;intro K hK;go_big_quiet_op;go_big_quiet_on)
  refine BN ?_;intro d s aF;simp only[bs,bA,bD];obtain⟨q2,hq,e,M⟩:FH W1.heap.size x (Y (Z ⟨q0,0,O⟩) 3 3) d:=aF 6 _ (by decide) rfl;simp only[bp,bq,bz,and_true,true_and] at e;subst e;have Q:Bl w d:=P.o.trans (s.mono P.o.size);have aD:(DD x).length=0:=by
   have h4:=aO.o;rw[show (DD x).length=3-(lettP x.op).length by simp[DD,Dx]];omega
  have aE:C6 d (Y (Z ⟨q0,0,O⟩) 0 0) (DD x):=by
   unfold C6;rw[aD];exact⟨_,_,rfl,av _,fun e=>(by cases e),fun h0=>absurd h0 (by omega)⟩
  have h9:16≤d.heap.size:=by have:=Q.size;have:=ac.o;omega
  have ai:=HG.o.below ac.o Q;have E:=HH (N4 x.op y.o.1 y.o.2 d ai h9);have ay:Hq (∀ W,Bl d W→aS prog 171 #[.agg #[I U x.op,I J x.a,I J x.b,I J x.c]] W fun e w'=>∃ v,e=.returned v∧C6 w' v (opsL x)∧Bl W w'):=
   fun W l=>MQ x y.o.1 y.o.2 W (ai.below h9 l) (by have:=l.size;omega)
  have V:d.cell? ⟨g,0,O⟩=Z (I U x.op):=z0 ⟨d,s⟩;have X:d.cell? ⟨g,1,O⟩=Z (I J x.a):=z1 ⟨d,s⟩;have y2:d.cell? ⟨g,2,O⟩=Z (I J x.b):=z2 ⟨d,s⟩;have y3:d.cell? ⟨g,3,O⟩=Z (I J x.c):=z3 ⟨d,s⟩;obtain⟨z,aQ⟩:=H2 Q aE;have m:Hq (g<d.heap.size):=bh aq s.size;have aB:(opsL x).length≤1000:=by
   have:(opsL x).length≤3:=by simp[opsL,Dx];omega
   omega
  have aC:(DD x).length≤1000:=by omega
  obtain⟨ax,aN⟩:=H2 aB aC;have aZ:Hq (q0<d.heap.size):=Aa M;clear aF z0 z1 z2 z3 s Q hq M aE aD ai h9 aB aC aq;cases A:Ec x.op with
  |nil=>
   have C:Hq (CJ x=false):=by show _=_;simp[CJ,A]
   rw[A] at E;clear A;go_wp2_with (go_at_call 169;refine E.o.mono ?_;rintro e w3 ⟨rfl,i⟩);go_ret;rw[C.o];exact⟨rfl,z.o.trans (i.mono z.o.size)⟩
  |cons c t=>
   have C:Hq (CJ x=((opsL x).all D0 && (DD x).all fun n=>decide (n=0))):=by show _=_;simp[CJ,A]
   rw[A] at E;clear A;cases S:(opsL x).all D0 with
   |false=>
    have D:=HH S;clear S;go_wp2_with (first
     |(go_at_call 169;refine E.o.mono ?_;rintro e w3 ⟨rfl,i⟩
       have q:=HH i;have u0:=(i.cell (p:=⟨g,0,O⟩) m.o).trans V;have u1:=(i.cell (p:=⟨g,1,O⟩) m.o).trans X;have u2:=(i.cell (p:=⟨g,2,O⟩) m.o).trans y2;have u3:=(i.cell (p:=⟨g,3,O⟩) m.o).trans y3;clear i V X y2 y3)
     |(go_at_call 171;refine(ay.o _ q.o).mono ?_;rintro e w4 ⟨v4,rfl,N,F⟩;have af:=HH N;have B:=HH F;clear N F u0 u1 u2 u3)
     |(go_at_call 170;have u:=Ld v4 (opsL x) _ af.o ax.o;rw[D.o] at u;refine u.mono ?_;rintro e w5 ⟨rfl,H⟩;have ae:=HH H;clear H u)
     |fail)
    go_ret;rw[C.o,D.o];exact⟨rfl,z.o.trans ((q.o.trans ((B.o.trans (ae.o.mono B.o.size)).mono q.o.size)).mono z.o.size)⟩
   |true=>
    have D:=HH S;clear S;obtain⟨r,hr⟩:=ex ((DD x).all fun n=>decide (n=0));rw[D.o,←hr] at C;have HR:=HH hr;clear hr;go_wp2_with (first
     |(go_at_call 169;refine E.o.mono ?_;rintro e w3 ⟨rfl,i⟩
       have q:=HH i;have u0:=(i.cell (p:=⟨g,0,O⟩) m.o).trans V;have u1:=(i.cell (p:=⟨g,1,O⟩) m.o).trans X;have u2:=(i.cell (p:=⟨g,2,O⟩) m.o).trans y2;have u3:=(i.cell (p:=⟨g,3,O⟩) m.o).trans y3;clear i V X y2 y3)
     |(go_at_call 171;refine(ay.o _ q.o).mono ?_;rintro e w4 ⟨v4,rfl,N,F⟩;have af:=HH N;have B:=HH F;clear N F u0 u1 u2 u3)
     |(go_at_call 170;have u:=Ld v4 (opsL x) _ af.o ax.o;rw[D.o] at u;refine u.mono ?_;rintro e w5 ⟨rfl,H⟩;have ae:=HH H;clear H u)
     |(go_at_call 172
       have R:Bl d _:=q.o.trans ((B.o.trans (ae.o.mono B.o.size)).mono q.o.size);have aj:=NX _ (DD x) _ (aQ.o.below R) aN.o;rw[←HR.o] at aj;refine aj.mono ?_;rintro e w6 ⟨rfl,aA⟩;have aM:=HH (R.trans (aA.mono R.size));clear aA R aj)
     |fail)
    go_ret;rw[C.o];exact⟨rfl,z.o.trans (aM.o.mono z.o.size)⟩
 ·go_enter func137,ntmps137;go_upto_region 1 with (fail);rw[←HW.o];obtain⟨g,hg⟩:=ex w.heap.size;have aY:=HH hg;rw[←hg] at z0 z1 z2 z3 aq ⊢;clear hg;refine BQ 13 [(6,FH W1.heap.size x),(9,fun v _=>v=.string ⟨(lettP x.op).toArray⟩)] ⟨FH.AX,Ch,trivial⟩ ?_
  iterate 6 (refine AK rfl ?_;intro K hK;go_big_quiet_op;go_big_quiet_on)
  refine Ca rfl (fun w' l hA=>?_) ?_
  ·exact Bn (v:=Y (Z ⟨w'.heap.size,0,O⟩) 3 3) (w':=w'.alloc (T #[I J x.a,I J x.b,I J x.c] 3)) (by simp[execOp,go_sem]) ⟨(aP _ _).alloc (av _) _,⟨w'.heap.size,l.size,rfl,a8 _ _⟩⟩
  intro v w' l hv;obtain⟨q0,hq,rfl,M⟩:=hv;clear l hq M w';simp only[Au,a1,bd,bc]
  iterate 2 (refine AK rfl ?_;intro K hK;go_big_quiet_op;go_big_quiet_on)
  refine Ca rfl (fun w' l hA=>?_) ?_
  ·refine AD (f:=109) (al:=[I U x.op]) rfl rfl rfl Mh ?_;exact(Lg x.op y.o.1 y.o.2 w' (HG.o.below ac.o (P.o.trans (l.mono P.o.size))) (by have h1:=l.size;have h2:=P.o.size;have h3:=ac.o;omega)).mono fun e w2 h=>⟨_,h.1,h.2,rfl⟩
  intro v w' l hv;obtain rfl:=hv;clear l w';simp only[Au,a1,bd,bc]
  iterate 3 (refine AK rfl ?_;intro K hK;go_big_quiet_op;go_big_quiet_on)
  refine BN ?_;intro d s aF;simp only[bs,bA,bD];obtain⟨q2,hq,e,M⟩:FH W1.heap.size x (Y (Z ⟨q0,0,O⟩) 3 3) d:=aF 6 _ (by decide) rfl;simp only[bp,bq,bz,and_true,true_and] at e;subst e;have Q:Bl w d:=P.o.trans (s.mono P.o.size);have aD:(DD x).length=3-L:=by
   have h4:=aO.o;rw[show (DD x).length=3-(lettP x.op).length by simp[DD,Dx]];omega
  have aE:C6 d (Y (Z ⟨q0,L,O⟩) (3-L) (3-L)) (DD x):=by
   unfold C6;rw[aD];refine⟨_,_,rfl,av _,fun e=>(by cases e),fun h0=>⟨q0,L,rfl,Aa M,fun k j hk hj=>?_⟩⟩;obtain rfl:j=0:=by omega
   rw[bk,bg,NT M (L+k) (by omega)];simp only[DD,←aO.o];rw[am,am,List.getElem?_drop]
  have h9:16≤d.heap.size:=by have:=Q.size;have:=ac.o;omega
  have ai:=HG.o.below ac.o Q;have E:=HH (N4 x.op y.o.1 y.o.2 d ai h9);have ay:Hq (∀ W,Bl d W→aS prog 171 #[.agg #[I U x.op,I J x.a,I J x.b,I J x.c]] W fun e w'=>∃ v,e=.returned v∧C6 w' v (opsL x)∧Bl W w'):=
   fun W l=>MQ x y.o.1 y.o.2 W (ai.below h9 l) (by have:=l.size;omega)
  have V:d.cell? ⟨g,0,O⟩=Z (I U x.op):=z0 ⟨d,s⟩;have X:d.cell? ⟨g,1,O⟩=Z (I J x.a):=z1 ⟨d,s⟩;have y2:d.cell? ⟨g,2,O⟩=Z (I J x.b):=z2 ⟨d,s⟩;have y3:d.cell? ⟨g,3,O⟩=Z (I J x.c):=z3 ⟨d,s⟩;obtain⟨z,aQ⟩:=H2 Q aE;have m:Hq (g<d.heap.size):=bh aq s.size;have aB:(opsL x).length≤1000:=by
   have:(opsL x).length≤3:=by simp[opsL,Dx];omega
   omega
  have aC:(DD x).length≤1000:=by omega
  obtain⟨ax,aN⟩:=H2 aB aC;have aZ:Hq (q0<d.heap.size):=Aa M;clear aF z0 z1 z2 z3 s Q hq M aE aD ai h9 aB aC aq;cases A:Ec x.op with
  |nil=>
   have C:Hq (CJ x=false):=by show _=_;simp[CJ,A]
   rw[A] at E;clear A;go_wp2_with (go_at_call 169;refine E.o.mono ?_;rintro e w3 ⟨rfl,i⟩);go_ret;rw[C.o];exact⟨rfl,z.o.trans (i.mono z.o.size)⟩
  |cons c t=>
   have C:Hq (CJ x=((opsL x).all D0 && (DD x).all fun n=>decide (n=0))):=by show _=_;simp[CJ,A]
   rw[A] at E;clear A;cases S:(opsL x).all D0 with
   |false=>
    have D:=HH S;clear S;go_wp2_with (first
     |(go_at_call 169;refine E.o.mono ?_;rintro e w3 ⟨rfl,i⟩
       have q:=HH i;have u0:=(i.cell (p:=⟨g,0,O⟩) m.o).trans V;have u1:=(i.cell (p:=⟨g,1,O⟩) m.o).trans X;have u2:=(i.cell (p:=⟨g,2,O⟩) m.o).trans y2;have u3:=(i.cell (p:=⟨g,3,O⟩) m.o).trans y3;clear i V X y2 y3)
     |(go_at_call 171;refine(ay.o _ q.o).mono ?_;rintro e w4 ⟨v4,rfl,N,F⟩;have af:=HH N;have B:=HH F;clear N F u0 u1 u2 u3)
     |(go_at_call 170;have u:=Ld v4 (opsL x) _ af.o ax.o;rw[D.o] at u;refine u.mono ?_;rintro e w5 ⟨rfl,H⟩;have ae:=HH H;clear H u)
     |fail)
    go_ret;rw[C.o,D.o];exact⟨rfl,z.o.trans ((q.o.trans ((B.o.trans (ae.o.mono B.o.size)).mono q.o.size)).mono z.o.size)⟩
   |true=>
    have D:=HH S;clear S;obtain⟨r,hr⟩:=ex ((DD x).all fun n=>decide (n=0));rw[D.o,←hr] at C;have HR:=HH hr;clear hr;go_wp2_with (first
     |(go_at_call 169;refine E.o.mono ?_;rintro e w3 ⟨rfl,i⟩
       have q:=HH i;have u0:=(i.cell (p:=⟨g,0,O⟩) m.o).trans V;have u1:=(i.cell (p:=⟨g,1,O⟩) m.o).trans X;have u2:=(i.cell (p:=⟨g,2,O⟩) m.o).trans y2;have u3:=(i.cell (p:=⟨g,3,O⟩) m.o).trans y3;clear i V X y2 y3)
     |(go_at_call 171;refine(ay.o _ q.o).mono ?_;rintro e w4 ⟨v4,rfl,N,F⟩;have af:=HH N;have B:=HH F;clear N F u0 u1 u2 u3)
     |(go_at_call 170;have u:=Ld v4 (opsL x) _ af.o ax.o;rw[D.o] at u;refine u.mono ?_;rintro e w5 ⟨rfl,H⟩;have ae:=HH H;clear H u)
     |(go_at_call 172
       have R:Bl d _:=q.o.trans ((B.o.trans (ae.o.mono B.o.size)).mono q.o.size);have aj:=NX _ (DD x) _ (aQ.o.below R) aN.o;rw[←HR.o] at aj;refine aj.mono ?_;rintro e w6 ⟨rfl,aA⟩;have aM:=HH (R.trans (aA.mono R.size));clear aA R aj)
     |fail)
    go_ret;rw[C.o];exact⟨rfl,z.o.trans (aM.o.mono z.o.size)⟩
def Eo(l:List Int)(s:List UInt8):List UInt8:=l.foldl (fun s n=>s++(32::bm n)) s
def IT(x:Ai):List UInt8:=Eo (opsL x) (Ec x.op)++ [59]
def YJ(l:List Int)(s:List UInt8)(k:Nat)(a:k<l.length):Eo (l.take (k+1)) s=Eo (l.take k) s++(32::bm l[k]):=by
 unfold Eo;rw[bu a,List.foldl_append];rfl
def R5(a z:ByteArray)(l m:List UInt8)(h:a.data.toList=l)(b:z.data.toList=m):(a++(⟨#[32]⟩++z:ByteArray)).data.toList=l++(32::m):=by
 simp[h,b]
def Nf(l:List Int)(s:List UInt8)(a:∀ n∈l,0≤n∧n≤1073741824):(Eo l s).length≤s.length+l.length*22:=by
 induction l generalizing s with
 |nil=>simp[Eo]
 |cons n l d=>
  have b:=d (s++(32::bm n)) (fun m c=>a m (List.mem_cons_of_mem _ c));have f:=a n (List.mem_cons_self ..);have g:=bH n (by omega) (by omega);have e:Eo (n::l) s=Eo l (s++(32::bm n)):=rfl;rw[e];simp only[bG,bK] at b ⊢;omega
def Mm{x:Ai}(a:CJ x=true):∀ n∈opsL x,0≤n∧n≤1073741824:=by
 simp only[CJ,Bool.and_eq_true] at a;intro n b;have:=bi.1 a.2.1 n b;simpa[D0] using this
def QQ(a:Int)(c:0≤a)(d:a≤255):(Ec a).length≤20:=by
 by_cases h:1≤a∧a≤25
 ·have b:(bl 26).all (fun k=>decide ((Ec (k:Nat)).length≤20))=true:=by kernel_rfl
  obtain⟨k,rfl⟩:∃ k:Nat,a=k:=⟨a.toNat,by omega⟩;exact of_decide_eq_true (bi.1 b k (br.2 (by omega)))
 ·rw[(Pq a h).1];simp
def Sn(x:Ai)(a:0≤x.op)(b:x.op≤255)(c:CJ x=true):(IT x).length≤1000:=by
 have d:=Nf (opsL x) (Ec x.op) (Mm c);have e:=QQ x.op a b;have f:(opsL x).length≤3:=by simp[opsL,Dx];omega
 simp only[IT,bG,bK,List.length_nil];omega
def VY(n:Int)(b:-9223372036854775808≤n)(c:n≤9223372036854775807)(w:a6)(a:Ce w):aS prog 174 #[I J n] w fun e w'=>e=.returned (.string ⟨(bm n).toArray⟩)∧Bl w w':=
 (Any.strconv_Itoa WM n b c w a.PI).mono fun e w' h=>by
  obtain⟨d,k,os,rfl⟩:=h;exact⟨d,Lib.below_grow _ _ (av _) _ _⟩
def Sm(x:Ai)(E:0≤x.op)(f:x.op≤255)(hf:CJ x=true)(w:a6)(ag:Ce w)(an:16≤w.heap.size):
  aS prog 138 #[.agg #[I U x.op,I J x.a,I J x.b,I J x.c]] w fun e w'=>e=.returned (.string ⟨(IT x).toArray⟩)∧Bl w w':=by
 have j:∀ n∈opsL x,0≤n∧n≤1073741824:=Mm hf;have ab:=QQ x.op E f;obtain⟨q,H⟩:=ex (w.alloc (T #[I U x.op,I J x.a,I J x.b,I J x.c] 64));have L:Bl w q:=by rw[H];exact(aP _ w).alloc (av _) _
 have S:q.heap[w.heap.size]? =Z (T #[I U x.op,I J x.a,I J x.b,I J x.c] 64 (0,0)):=by rw[H];exact a8 _ _
 have F:16≤q.heap.size:=by have:=L.size;omega
 have u:=ag.below an L;obtain⟨az,ah,y,C,ak⟩:=H5 u F L j (N4 x.op E f q u F);have ai:Hq (∀ W,Bl q W→aS prog 171 #[.agg #[I U x.op,I J x.a,I J x.b,I J x.c]] W fun e w'=>∃ v,e=.returned v∧C6 w' v (opsL x)∧Bl W w'):=
  fun W K=>MQ x E f W (u.below F K) (by have:=K.size;omega)
 obtain⟨y0,y1,y2,y3⟩:=r4 S;have t:Hq (w.heap.size<q.heap.size):=Aa S;have HW:=HH H;have aH:(opsL x).length≤3:=by simp[opsL,Dx];omega
 obtain⟨l,V⟩:=ex (opsL x);obtain⟨s0,aa⟩:=ex (Ec x.op);rw[show IT x=Eo l s0++ [59] by rw[V,aa];rfl];rw[←aa] at ak ab;have aj:=HH ab;clear ab;rw[←V] at ai C aH;clear j S L H ag u an F E f hf aa V;go_enter func138,ntmps138;go_upto_region 1 with (fail);rw[←HW.o];obtain⟨g,M⟩:=ex w.heap.size;have aO:=HH M;rw[←M] at y0 y1 y2 y3 t ⊢;clear M;go_wp2_with (first
  |(go_at_call 169;refine ak.o.mono ?_;rintro e w3 ⟨rfl,r⟩
    have P:=HH r;have u0:=(r.cell (p:=⟨g,0,O⟩) t.o).trans y0;have u1:=(r.cell (p:=⟨g,1,O⟩) t.o).trans y1;have u2:=(r.cell (p:=⟨g,2,O⟩) t.o).trans y2;have u3:=(r.cell (p:=⟨g,3,O⟩) t.o).trans y3;clear r y0 y1 y2 y3)
  |(go_at_call 171;refine(ai.o _ P.o).mono ?_;rintro e w4 ⟨v4,rfl,aI,aq⟩;obtain⟨ao,cap,rfl,aR,aU,pa⟩:=aI;have i:=HH (P.o.trans (aq.mono P.o.size));clear aq u0 u1 u2 u3)
  |fail)
 have PA:=HH pa;clear pa
 go_loopg [3,5,12] l.length (fun gg s3 _ aL wr=>∃ k:Nat,k≤l.length∧l.length-k≤gg∧aL=I J k∧∃ s:ByteArray,s3=.string s∧Hq (s.data.toList=Eo (l.take k) s0∧Bl w4 wr))
 case atStart=>exact⟨0,bf _,by omega,rfl,_,rfl,by simp[Eo],aP _ _⟩
 case round=>
  obtain⟨k,hk,M,rfl,s,rfl,A⟩:=hrel;by_cases X:k<l.length
  ·have aT:(k:Int)<(l.length:Int):=by omega
   obtain⟨b,aW,rfl,aE,ca⟩:=PA.o (by omega);have D:=ca k 0 X (by decide);obtain⟨h,d⟩:=A.o;rw[←d.cell (p:=⟨b,_,O⟩) aE] at D;have e0:l.getD k 0=l[k]:=by rw[am,ar X];rfl
   rw[e0] at D;simp only[bk,bg] at D;obtain⟨n,j⟩:=ex (l[k]);have Q:Hq (s.data.toList=Eo (l.take k) s0):=h;have HE:Hq (Eo (l.take (k+1)) s0=Eo (l.take k) s0++(32::bm n)):=by rw[j];exact YJ l s0 k X
   have aG:0≤n∧n≤1073741824:=by rw[j];exact C.o _ (bw _)
   have aw:Bl w wr:=y.o.trans ((i.o.trans (d.mono i.o.size)).mono y.o.size);have aK:16≤wr.heap.size:=by have f:=ah.o;have h2:=i.o.size;have h3:=d.size;omega
   have au:s.data.toList.length≤1000:=by
    rw[h];have f:=Nf (l.take k) s0 (fun m hm=>C.o m (List.mem_of_mem_take hm));have h2:=aj.o;simp only[List.length_take] at f;omega
   have aJ:s.size≤1000:=by simpa using au
   obtain⟨z,N⟩:∃ z:ByteArray,z=⟨(bm n).toArray⟩:=⟨_,rfl⟩;have aV:z.size≤21:=by
    rw[N];have:=bH n (by omega) (by omega);show(bm n).toArray.size≤21;simpa using this
   have HZ:Hq (z.data.toList=bm n):=by show _=_;rw[N]
   have R:=VY n (by omega) (by omega) wr (az.o.below ah.o (i.o.trans (d.mono i.o.size)));rw[←N] at R;clear N au;have HC:=HH R;clear R;have B:=HH d;rw[←j] at D;clear ca A h d aw aK j e0 aG;go_wp2_with (go_at_call 174;refine HC.o.mono ?_;rintro e w5 ⟨rfl,aD⟩)
   go_roundg (l.length-(k+1))
   case measure=>omega
   case rel=>
    refine⟨k+1,by omega,by omega,by go_num,_,rfl,?_,B.o.trans (aD.mono B.o.size)⟩;rw[HE.o];exact R5 s z _ _ Q.o HZ.o
  ·obtain rfl:k=l.length:=by omega
   obtain⟨h,d⟩:=A.o;rw[List.take_length] at h;obtain⟨Q,B⟩:=H2 h d;have aJ:s.size≤1000:=by
    have f:=Nf l s0 C.o;have h2:=aj.o;have:s.data.toList.length≤1000:=by rw[h];omega
    simpa using this
   clear A h d;go_wp2;go_ret;have K:Bl w wr:=y.o.trans ((i.o.trans (B.o.mono i.o.size)).mono y.o.size);refine⟨?_,K⟩;have:(s++⟨#[59]⟩:ByteArray)=⟨(Eo l s0++ [59]).toArray⟩:=by
    apply ByteArray.ext;apply Array.ext';simp[Q.o]
   rw[this];rfl
def fits_s(l:List UInt8)(w:a6):aS prog 139 #[.string ⟨l.toArray⟩] w fun e w'=>(∃ s,e=.returned (.tuple #[.string s,I J (if l.length≤65536 then 0 else 3)]))∧w'=w:=by
 have b:(⟨l.toArray⟩:ByteArray).size=l.length:=by show l.toArray.size=_;simp
 by_cases h:l.length≤65536
 ·rw[if_pos h];have a:¬(65536:Int)<(l.length:Int):=by omega
  go_enter func139,ntmps139;go_wp2
  go_ret2
  exact⟨⟨_,rfl⟩,rfl⟩
 ·rw[if_neg h];have a:(65536:Int)<(l.length:Int):=by omega
  go_enter func139,ntmps139;go_wp2
  go_ret2
  exact⟨⟨_,rfl⟩,rfl⟩
def Tc:EG 168:=fun _ _=>by kernel_rfl
def Ry(x:Ai)(m:0≤x.op)(n:x.op≤255)(g:Nat)(w:a6)(t:w.cell? ⟨g,0,O⟩=Z (.func (.func 137) #[] #[]))(u:g<w.heap.size)(j:Ce w)(s:16≤w.heap.size):aS prog 168 #[.agg #[I U x.op,I J x.a,I J x.b,I J x.c],G (Z ⟨g,0,O⟩)] w fun e w'=>e=.returned (.bool (!CJ x))∧Bl w w':=by
 obtain⟨h,f⟩:=ex (w.alloc (T #[I U x.op,I J x.a,I J x.b,I J x.c] 64));have d:Bl w h:=by rw[f];exact(aP _ w).alloc (av _) _
 have v:h.heap[w.heap.size]? =Z (T #[I U x.op,I J x.a,I J x.b,I J x.c] 64 (0,0)):=by rw[f];exact a8 _ _
 have l:=HH (VQ x m n h (j.below s d) (by have:=d.size;omega));generalize CJ x=q at l ⊢;obtain⟨A,B,C,D⟩:=r4 v;have F:=(d.cell (p:=⟨g,0,O⟩) u).trans t;obtain⟨k,y⟩:=H2 d f;clear d v f t u j s m n;go_enter func168,ntmps168;go_upto_region 1 with (fail);rw[←y.o];obtain⟨r,i⟩:=ex w.heap.size;have E:=HH i;rw[←i] at A B C D ⊢;clear i;go_wp2_with (refine l.o.mono ?_;rintro e w' ⟨rfl,z⟩);go_ret;exact⟨rfl,k.o.trans (z.mono k.o.size)⟩
def Jc(x:Ai):List bb:=[I U x.op,I J x.a,I J x.b,I J x.c]
def Rz(x:Ai)(u:0≤x.op)(p:x.op≤255)(q:Nat)(w:a6)(i:w.heap[q]? =Z (T #[I U x.op,I J x.a,I J x.b,I J x.c] 64 (0,0)))(s:Ce w)(v:16≤w.heap.size):aS prog 136 #[Y (Z ⟨q,0,O⟩) 1 1,.func (.func 137) #[] #[]] w fun e w'=>e=.returned (.bool (CJ x))∧Bl w w':=by
 obtain⟨g,l⟩:=ex (w.alloc (T #[.func (.func 137) #[] #[]] 138));have f:Bl w g:=by rw[l];exact(aP _ w).alloc (av _) _
 have n:g.heap[w.heap.size]? =Z (T #[.func (.func 137) #[] #[]] 138 (0,0)):=by rw[l];exact a8 _ _
 have r:g.heap[q]? =Z (T #[I U x.op,I J x.a,I J x.b,I J x.c] 64 (0,0)):=(f.block q (Aa i)).trans i;have y:AW g (Y (Z ⟨q,0,O⟩) 1 1) 1 4 (fun _ j=>(Jc x).getD j undef):=⟨_,_,rfl,av _,fun e=>(by cases e),fun _=>⟨q,0,rfl,Aa r,fun k j i D=>by
  obtain rfl:k=0:=by omega
  rw[Nat.zero_mul,bg,bF,Cr r];rcases(show j=0∨j=1∨j=2∨j=3 by omega) with rfl|rfl|rfl|rfl<;>rfl⟩⟩
 have m:=Oj _ 1 _ 168 #[G (Z ⟨w.heap.size,0,O⟩)] (fun _=>!CJ x) Tc g y (by omega) (fun k i W d=>(Ry x u p w.heap.size W (Cr ((d.block _ (Aa n)).trans n)) (bh (Aa n) d.size) ((s.below v f).below (by have:=f.size;omega) d) (by have p:=f.size;have C:=d.size;omega)).mono fun e w' h=>⟨h.1,d.trans (h.2.mono d.size)⟩);rw[show DQ (fun _=>!CJ x) 1=!CJ x by simp[DQ,List.range_succ]] at m;generalize CJ x=b at m ⊢;obtain⟨z,t,A⟩:=H3 m f l;clear m f n l y r i s v u p;go_enter func136,ntmps136;go_wp2_with (rw[←A.o];go_at_call 60;refine z.o.mono ?_;rintro e w' ⟨rfl,B⟩);go_ret;exact⟨by simp,t.o.trans (B.mono t.o.size)⟩
def QU(x:Ai)(k:0≤x.op)(l:x.op≤255)(q:Nat)(w:a6)(d:w.heap[q]? =Z (T #[I U x.op,I J x.a,I J x.b,I J x.c] 64 (0,0)))(m:Ce w)(p:16≤w.heap.size):
  aS prog 101 #[Y (Z ⟨q,0,O⟩) 1 1] w fun e w'=>(∃ s,e=.returned (.tuple #[.string s,I J (if CJ x then 0 else 2)]))∧Bl w w':=by
 have n:=HH (Rz x k l q w d m p);cases j:CJ x with
 |false=>
  rw[j] at n;clear j d m p k l;go_enter func101,ntmps101;go_wp2_with (go_at_call 136;refine n.o.mono ?_;rintro e t ⟨rfl,r⟩)
  go_ret2
  exact⟨⟨_,rfl⟩,r⟩
 |true=>
  rw[j] at n;have D:Hq (∀ W,Bl w W→aS prog 138 #[.agg #[I U x.op,I J x.a,I J x.b,I J x.c]] W fun e w'=>e=.returned (.string ⟨(IT x).toArray⟩)∧Bl W w'):=
   fun W L=>Sm x k l j W (m.below p L) (by have:=L.size;omega)
  have Q:=Sn x k l j;generalize IT x=f at D Q;obtain⟨HK,F⟩:=H2 d (Aa d);clear j d m p k l;go_enter func101,ntmps101;go_wp2_with (go_at_call 136;refine n.o.mono ?_;rintro e t ⟨rfl,r⟩);have i:=HH r;clear r
  go_loopg [4,12] 1 (fun gg S R wr=>Hq (Bl t wr)∧((R=I J 0∧1≤gg∧S=Y O 0 0)∨(R=I J 1∧∃ g c,S=Y (Z ⟨g,0,O⟩) 1 c∧Hq (wr.cell? ⟨g,0,O⟩=Z (.string ⟨f.toArray⟩)))))
  case atStart=>exact⟨aP _ _,.inl ⟨rfl,av _,rfl⟩⟩
  case round=>
   obtain⟨A,⟨rfl,ae,rfl⟩|⟨rfl,a,c,rfl,B⟩⟩:=hrel
   ·have d:=(A.o.block q (bh F.o i.o.size)).trans ((i.o.block q F.o).trans HK.o);obtain⟨y0,y1,y2,y3⟩:=r4 d;clear d;obtain⟨y,z⟩:=ex (wr.alloc (T #[I U x.op,I J x.a,I J x.b,I J x.c] 64));have M:Bl wr y:=by rw[z];exact(aP _ wr).alloc (av _) _
    have ab:=HH z;have v:Hq (Bl t y):=A.o.trans (M.mono A.o.size);have V:=HH (D.o y (i.o.trans (v.o.mono i.o.size)));clear z M;go_wp2_with (rw[←ab.o];go_at_call 138;refine V.o.mono ?_;rintro e u ⟨rfl,N⟩);have H:=v.o.trans (N.mono v.o.size);have C:=HH H;clear H N
    go_roundg 0
    case measure=>omega
    case rel=>
     have K:Bl t (u.alloc (T #[.string ⟨f.toArray⟩] 9)):=C.o.alloc C.o.size _;refine⟨(K.alloc K.size _).drew,.inr ⟨by go_num,_,_,rfl,?_⟩⟩;have ad:(u.alloc (T #[.string ⟨f.toArray⟩] 9)).heap.size=u.heap.size+1:=by simp
     rw[←ad];refine(Cr (a8 (u.alloc (T #[.string ⟨f.toArray⟩] 9)) _)).trans ?_;rw[Array.getElem?_append_left (by simp)];rfl
   ·have P:=B.o;obtain⟨X,E⟩:=H2 (Any.strings_Join_one WO extra a 0 c ⟨f.toArray⟩ ⟨#[32]⟩ wr P) (fits_s f wr);rw[if_pos (show f.length≤65536 by omega)] at E;clear P B Q;go_wp2_with (first
     |(go_at_call 140;refine X.o.mono ?_;rintro e w5 ⟨rfl,rfl⟩)
     |(go_at_call 139;refine E.o.mono ?_;rintro e w6 ⟨⟨s,rfl⟩,rfl⟩))
    go_ret2
    exact⟨⟨_,rfl⟩,i.o.trans (A.o.mono i.o.size)⟩
end Go.Proofs.YtiepijihpgijbaaGreatDoor
