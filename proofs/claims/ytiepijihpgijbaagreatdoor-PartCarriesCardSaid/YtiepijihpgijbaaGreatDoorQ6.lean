import Derived.Ground.NamesProg
import Derived.Shelf.Strings.SplitShaped
import Derived.Shelf.Strings.OnBuilder
import Derived.Shelf.Strings.PiecesUse
import Derived.Shelf.Strings.Cut
import Derived.Shelf.Strconv.Itoa3
import Derived.Lib.AppendIntMem
import Derived.Lib.ItoaLen
import Derived.Lib.OthersKept
import Derived.ProofKit
import Derived.OpenShut
import Derived.ShutString
import Derived.ChangeOld
import Derived.Deep.Slices
import Derived.Deep.Fields
import Derived.Lib.SmallJoins
import Derived.Test.YtiepijihpgijbaaGreatDoorQ5
set_option maxHeartbeats 8000000
set_option maxRecDepth 1000000
set_option linter.all false
open Go.Value renaming int→I,slice→Y,pointer→G
open Go.IntKind renaming i64→J,u8→U
open Option renaming some→Z,none→O
open Go.Obj renaming cells→T
open List renaming getD_eq_getElem?_getD→cI,getElem?_eq_getElem→cJ,setIfInBounds_toArray→cS,set_cons_zero→dy,set_cons_succ→dz,range→dA,getElem_mem→dG,getElem?_eq_some_iff→dI,not_mem_nil→dK,all_eq_true→dL,drop_succ_cons→dM,mem_cons→dO,getElem?_map→dP,mem_range→dT,getElem_range→dU,drop_zero→dV,length_map→dW,not_all_eq_any_not→dY,mem_singleton→eb,drop_nil→ec,getElem?_eq_none→ed,length_append→ef,replicate→ew,getElem_map→eB,ext_getElem→eC,mem_map→eD,getElem?_set_ne→eF,take_succ_eq_append_getElem→eK,mem_flatMap→eM,length_cons→eN,range_succ→eP,getElem_append_right→eQ,map_cons→eR,getElem_append_left→eS,not_any_eq_all_not→eV,map_nil→eW,getElem?_set_self→eX,mem_of_getElem?→e6,getElem_of_mem→fa,getElem?_take→fd,length_range→ff,ext_getElem?→fg,any_eq_true→fi,map_append→fl,length_nil→fm
open Go.RowKit.Below renaming refl→cK,heap_setCell→dZ,heap_alloc→ej
open Nat renaming le_refl→cY,lt_of_lt_of_le→dC,zero_le→dE,add_zero→dR,not_lt_zero→dS,le_trans→dX,mul_one→ea,zero_add→et,add_assoc→eU,mul_le_mul_right→e8,succ_pos→fA
open Option.some renaming inj→dc,injEq→dJ
open Go renaming World→dd,heap_alloc_new→de,Value→dx,Calls→dD,undef→dN,TypeId→ee,Addr→eh,heap_setCell_same→en,callFunc→eq,bodyPost_ret_by→eT,madeCells→fc,MemPlace→fk,Ending→fv,results_cell_row→fz
open Go.DataW renaming trod→dB,trod_int→dH,trod_struct→ez,trod_string→eJ,Trod→fC
open Go.Value.slice renaming injEq→dF
open Bool renaming and_eq_true→dQ,true_and→eI,false_and→fr
open Go.Addr.mk renaming injEq→ei
open Go.World renaming setCell→ek,frozen?→em
open Go.Lib renaming fields→eo,itoa→ey,wpList_append_run→eE,itoa_length_le→fh,cut→fj
open Go.Value renaming int→ep,string→fs,slice→fw
open Array renaming getElem?_eq_some_iff→eu,ext'→fD
open Option renaming map_eq_some_iff→eA,map_some→fe
open Go.Shelf renaming Ren→eG
open And renaming intro→eH
open Go.Builtin renaming append_→eL
open Go.Instr renaming field→eO,findNow→fq,next→fB
open Go.RowKit renaming wrap64→eZ,Below→fp
open Go.Deferred renaming ofValue→e7
open Go.Deep renaming open_slice→fo
open Go.Proofs.LaysM renaming n171→ft,n157→fu
open Go.Proofs.Lays renaming n156→fx,n145→fy
namespace Go.Proofs.YtiepijihpgijbaaGreatDoor
open Go.RowKit Tryz Go.Shelf Go.ChangeShapes Go.WideShapes Go.ChangeAt
def T6:EG 20:=fun _ _=>by kernel_rfl
def Tx:EG 38:=fun _ _=>by kernel_rfl
def Jj(x n:Int)(g:1≤n)(h:n≤1000000)(w:dd):dD prog 20 #[I J x,I J n] w fun e w'=>e=.returned (I J (x%n))∧w'=w:=by
 have b:=Int.tmod_lt_of_pos x (show 0<n by omega);have c:-n<Int.tmod x n:=by
  have:=Int.tmod_lt_of_pos (-x) (show 0<n by omega);rw[Int.neg_tmod] at this;omega
 have d:x%n=if Int.tmod x n<0 then Int.tmod x n+n else Int.tmod x n:=by
  have f:x=Int.tmod x n+n*Int.tdiv x n:=by
   have:=Int.mul_tdiv_add_tmod x n;omega
  generalize Int.tmod x n=q at*;generalize Int.tdiv x n=k at*;rw[f,Int.add_mul_emod_self_left];split
  ·rw[←Int.add_mul_emod_self_left q n 1,Int.mul_one];exact Int.emod_eq_of_lt (by omega) (by omega)
  ·exact Int.emod_eq_of_lt (by omega) (by omega)
 rw[d];generalize i:Int.tmod x n=q at b c ⊢;by_cases a:q<0
 ·rw[if_pos a];go_enter func20,ntmps20;go_wp2;go_ret;exact⟨rfl,rfl⟩
 ·rw[if_neg a];go_enter func20,ntmps20;go_wp2;go_ret;exact⟨rfl,rfl⟩
def YI(F H:dx)(a b:List Int)(w:dd)(r:Af U w 0 F a)(s:Af U w 0 H b)(ao:a.length≤1000000):dD prog 14 #[F,H] w fun e w'=>e=.returned (.bool (decide (a=b)))∧Bl w w':=by
 obtain⟨M,ca,rfl,aj,ap,u⟩:=r.open_;obtain⟨N,Q,rfl,S,aq,v⟩:=s.open_;by_cases E:(a.length:Int)=b.length
 ·have PA:Hq (0<a.length→∃ q d,M=Z ⟨q,d,O⟩∧q<w.heap.size∧∀ j,j<a.length→w.cell? ⟨q,d+j,O⟩=Z (I U (a.getD j 0))):=fun B=>by
   obtain⟨q,d,e,_,l,n⟩:=u B;exact⟨q,d,e,l,fun j f=>by rw[cI,cJ f];exact n j f⟩
  have PB:Hq (0<a.length→∃ q d,N=Z ⟨q,d,O⟩∧q<w.heap.size∧∀ j,j<a.length→w.cell? ⟨q,d+j,O⟩=Z (I U (b.getD j 0))):=fun B=>by
   obtain⟨q,d,e,_,l,n⟩:=v (by omega);exact⟨q,d,e,l,fun j f=>by rw[cI,cJ (show j<b.length by omega)];exact n j (by omega)⟩
  have L:Hq ((∀ j,j<a.length→a.getD j 0=b.getD j 0)→a=b):=fun h=>by
   apply eC
   ·omega
   ·intro j C l;have:=h j C;rw[cI,cI,cJ C,cJ l] at this;exact this
  have ak:a.length≤Q:=by omega
  have t:b.length=a.length:=by omega
  have HL:=HH t;rw[t];clear u v r s E S t;go_enter func14,ntmps14;go_wp2
  go_loopg [5] a.length (fun R s5 wr=>∃ k:Nat,k≤a.length∧a.length-k≤R∧s5=I J k∧Hq (Bl w wr)∧Hq (∀ j,j<k→a.getD j 0=b.getD j 0))
  case atStart=>exact⟨0,dE _,by omega,rfl,cK _ w,fun j f=>absurd f (dS _)⟩
  case round=>
   obtain⟨k,hk,hg,rfl,i,A⟩:=hrel;by_cases D:k<a.length
   ·have V:(k:Int)<(a.length:Int):=by omega
    obtain⟨qa,ac,rfl,W,c⟩:=PA.o (by omega);obtain⟨qb,ad,rfl,X,e⟩:=PB.o (by omega);have P:=(i.o.cell (p:=⟨qa,ac+k,O⟩) W).trans (c k D);have z:=(i.o.cell (p:=⟨qb,ad+k,O⟩) X).trans (e k D);clear c e;by_cases g:a.getD k 0=b.getD k 0
    ·rw[←g] at z;have m:=HH g;clear g;go_wp2
     go_quiet (fail)
     go_wp2
     go_roundg (a.length-(k+1))
     case measure=>omega
     case rel=>
      refine⟨k+1,by omega,by omega,by go_num,i.o.trans ⟨rfl,rfl,rfl,cY _,fun _ _=>rfl⟩,fun j f=>?_⟩;by_cases e:j=k
      ·subst e;exact m.o
      ·exact A.o j (by omega)
    ·have m:=HH g;generalize a.getD k 0=x at P g;generalize b.getD k 0=y at z g;have al:(x !=y)=true:=by simp[g]
     go_wp2
     go_quiet (fail)
     go_wp2;go_ret;exact⟨A8 (decide_eq_false (fun h=>m.o (by rw[h]))).symm,i.o.trans ⟨rfl,rfl,rfl,cY _,fun _ _=>rfl⟩⟩
   ·have V:¬(k:Int)<(a.length:Int):=by omega
    go_wp2;go_ret;exact⟨A8 (decide_eq_true (L.o fun j f=>A.o j (by omega))).symm,i.o⟩
 ·have K:Hq (¬a=b):=fun h=>E (by rw[h]);rw[show decide (a=b)=false from decide_eq_false K.o];clear u v r s;go_enter func14,ntmps14;go_wp2;go_ret;exact⟨rfl,⟨rfl,rfl,rfl,cY _,fun _ _=>rfl⟩⟩
def Qp(F H:dx)(a b:List Int)(w:dd)(r:Af J w 0 F a)(s:Af J w 0 H b)(ao:a.length≤1000000):dD prog 15 #[F,H] w fun e w'=>e=.returned (.bool (decide (a=b)))∧Bl w w':=by
 obtain⟨M,ca,rfl,aj,ap,u⟩:=r.open_;obtain⟨N,Q,rfl,S,aq,v⟩:=s.open_;by_cases E:(a.length:Int)=b.length
 ·have PA:Hq (0<a.length→∃ q d,M=Z ⟨q,d,O⟩∧q<w.heap.size∧∀ j,j<a.length→w.cell? ⟨q,d+j,O⟩=Z (I J (a.getD j 0))):=fun B=>by
   obtain⟨q,d,e,_,l,n⟩:=u B;exact⟨q,d,e,l,fun j f=>by rw[cI,cJ f];exact n j f⟩
  have PB:Hq (0<a.length→∃ q d,N=Z ⟨q,d,O⟩∧q<w.heap.size∧∀ j,j<a.length→w.cell? ⟨q,d+j,O⟩=Z (I J (b.getD j 0))):=fun B=>by
   obtain⟨q,d,e,_,l,n⟩:=v (by omega);exact⟨q,d,e,l,fun j f=>by rw[cI,cJ (show j<b.length by omega)];exact n j (by omega)⟩
  have L:Hq ((∀ j,j<a.length→a.getD j 0=b.getD j 0)→a=b):=fun h=>by
   apply eC
   ·omega
   ·intro j C l;have:=h j C;rw[cI,cI,cJ C,cJ l] at this;exact this
  have ak:a.length≤Q:=by omega
  have t:b.length=a.length:=by omega
  have HL:=HH t;rw[t];clear u v r s E S t;go_enter func15,ntmps15;go_wp2
  go_loopg [5] a.length (fun R s5 wr=>∃ k:Nat,k≤a.length∧a.length-k≤R∧s5=I J k∧Hq (Bl w wr)∧Hq (∀ j,j<k→a.getD j 0=b.getD j 0))
  case atStart=>exact⟨0,dE _,by omega,rfl,cK _ w,fun j f=>absurd f (dS _)⟩
  case round=>
   obtain⟨k,hk,hg,rfl,i,A⟩:=hrel;by_cases D:k<a.length
   ·have V:(k:Int)<(a.length:Int):=by omega
    obtain⟨qa,ac,rfl,W,c⟩:=PA.o (by omega);obtain⟨qb,ad,rfl,X,e⟩:=PB.o (by omega);have P:=(i.o.cell (p:=⟨qa,ac+k,O⟩) W).trans (c k D);have z:=(i.o.cell (p:=⟨qb,ad+k,O⟩) X).trans (e k D);clear c e;by_cases g:a.getD k 0=b.getD k 0
    ·rw[←g] at z;have m:=HH g;clear g;go_wp2
     go_quiet (fail)
     go_wp2
     go_roundg (a.length-(k+1))
     case measure=>omega
     case rel=>
      refine⟨k+1,by omega,by omega,by go_num,i.o.trans ⟨rfl,rfl,rfl,cY _,fun _ _=>rfl⟩,fun j f=>?_⟩;by_cases e:j=k
      ·subst e;exact m.o
      ·exact A.o j (by omega)
    ·have m:=HH g;generalize a.getD k 0=x at P g;generalize b.getD k 0=y at z g;have al:(x !=y)=true:=by simp[g]
     go_wp2
     go_quiet (fail)
     go_wp2;go_ret;exact⟨A8 (decide_eq_false (fun h=>m.o (by rw[h]))).symm,i.o.trans ⟨rfl,rfl,rfl,cY _,fun _ _=>rfl⟩⟩
   ·have V:¬(k:Int)<(a.length:Int):=by omega
    go_wp2;go_ret;exact⟨A8 (decide_eq_true (L.o fun j f=>A.o j (by omega))).symm,i.o⟩
 ·have K:Hq (¬a=b):=fun h=>E (by rw[h]);rw[show decide (a=b)=false from decide_eq_false K.o];clear u v r s;go_enter func15,ntmps15;go_wp2;go_ret;exact⟨rfl,⟨rfl,rfl,rfl,cY _,fun _ _=>rfl⟩⟩
def Ma(l:List CG)(k i:Nat)(b:k<l.length)(a:i<3):(Hn l)[k*3+i]? =([I J l[k].proc,I U l[k].fault,I J l[k].code]:List dx)[i]?:=
 It (cells:=fun x:CG=> [I J x.proc,I U x.fault,I J x.code]) (fun _=>rfl) l k i b a
def BJ.open_{w:dd}{B:Nat}{v:dx}{l:List CG}(h:BJ w B v l):∃ (b:Option eh) (cap:Nat),v=Y b l.length cap∧l.length≤cap∧(b=O→cap=0)∧
  (0<l.length→∃ q a,b=Z ⟨q,a,O⟩∧q<w.heap.size∧∀ k (c:k<l.length),w.cell? ⟨q,a+k*3,O⟩=Z (I J l[k].proc)∧w.cell? ⟨q,a+k*3+1,O⟩=Z (I U l[k].fault)∧w.cell? ⟨q,a+k*3+2,O⟩=Z (I J l[k].code)):=by
 obtain⟨b,cap,n,g,i,_,j⟩:=h;refine⟨b,cap,n,g,i,fun f=>?_⟩;obtain⟨q,a,e,_,m,d⟩:=j f;refine⟨q,a,e,m,fun k c=>⟨?_,?_,?_⟩⟩
 ·exact d (k*3) _ (by have:=Ma l k 0 c (by omega);simpa using this)
 ·have:=d (k*3+1) _ (by have:=Ma l k 1 c (by omega);simpa using this);rwa [←eU] at this
 ·have:=d (k*3+2) _ (by have:=Ma l k 2 c (by omega);simpa using this);rwa [←eU] at this
def Nd(va vb:dx)(a b:List CG)(w:dd)(D:BJ w 0 va a)(E:BJ w 0 vb b)(aB:a.length≤1000000):dD prog 13 #[va,vb] w fun e w'=>e=.returned (.bool (decide (a=b)))∧Bl w w':=by
 obtain⟨aa,ca,rfl,ay,aC,M⟩:=D.open_;obtain⟨ab,cb,rfl,an,aD,N⟩:=E.open_;by_cases W:(a.length:Int)=b.length
 ·have PA:Hq (0<a.length→∃ q d,aa=Z ⟨q,d,O⟩∧q<w.heap.size∧∀ k,k<a.length→w.cell? ⟨q,d+k*3,O⟩=Z (I J (a.getD k default).proc)∧w.cell? ⟨q,d+k*3+1,O⟩=Z (I U (a.getD k default).fault)∧w.cell? ⟨q,d+k*3+2,O⟩=Z (I J (a.getD k default).code)):=fun S=>by
   obtain⟨q,d,e,f,g⟩:=M S;exact⟨q,d,e,f,fun k r=>by rw[cI,cJ r];exact g k r⟩
  have PB:Hq (0<a.length→∃ q d,ab=Z ⟨q,d,O⟩∧q<w.heap.size∧∀ k,k<a.length→w.cell? ⟨q,d+k*3,O⟩=Z (I J (b.getD k default).proc)∧w.cell? ⟨q,d+k*3+1,O⟩=Z (I U (b.getD k default).fault)∧w.cell? ⟨q,d+k*3+2,O⟩=Z (I J (b.getD k default).code)):=fun S=>by
   obtain⟨q,d,e,f,g⟩:=N (by omega);exact⟨q,d,e,f,fun k r=>by rw[cI,cJ (show k<b.length by omega)];exact g k (by omega)⟩
  have HE:Hq ((∀ j,j<a.length→a.getD j default=b.getD j default)→a=b):=fun h=>by
   apply eC
   ·omega
   ·intro j m f;have:=h j m;rw[cI,cI,cJ m,cJ f] at this;exact this
  have az:a.length≤cb:=by omega
  have H:b.length=a.length:=by omega
  have HL:=HH H;rw[H];clear M N D E W an H;go_enter func13,ntmps13;go_wp2
  go_loopg [5] a.length (fun gg s5 wr=>∃ k:Nat,k≤a.length∧a.length-k≤gg∧s5=I J k∧Hq (Bl w wr)∧Hq (∀ j,j<k→a.getD j default=b.getD j default))
  case atStart=>exact⟨0,dE _,by omega,rfl,cK _ w,fun j F=>absurd F (dS _)⟩
  case round=>
   obtain⟨k,r,hg,rfl,l,A⟩:=hrel;by_cases V:k<a.length
   ·have ao:(k:Int)<(a.length:Int):=by omega
    obtain⟨qa,aE,rfl,ap,c⟩:=PA.o (by omega);obtain⟨qb,aF,rfl,aq,e⟩:=PB.o (by omega);obtain⟨v,c1,c2⟩:=c k V;obtain⟨z,B,C⟩:=e k V;rw[←l.o.cell (p:=⟨qa,_,O⟩) ap] at v c1 c2;rw[←l.o.cell (p:=⟨qb,_,O⟩) aq] at z B C;obtain⟨x,K⟩:=ex (a.getD k default);obtain⟨y,L⟩:=ex (b.getD k default);rw[←K] at v c1 c2;rw[←L] at z B C;obtain⟨t,u⟩:=H2 K L;clear c e K L;by_cases i:x=y
    ·subst i;go_wp2
     go_quiet (fail)
     go_wp2
     go_roundg (a.length-(k+1))
     case measure=>omega
     case rel=>
      refine⟨k+1,by omega,by omega,by go_num,l.o.trans ⟨rfl,rfl,rfl,cY _,fun _ _=>rfl⟩,fun j F=>?_⟩;by_cases e:j=k
      ·subst e;exact t.o.symm.trans u.o
      ·exact A.o j (by omega)
    ·have P:=HH i;have s:Hq (∀ n,Ending.returned (.bool false)=.returned (.bool (decide (a=b)))∧Bl w (wr.drewN n)):=fun n=>⟨A8 (decide_eq_false (fun h=>P.o (by rw[t.o,u.o,h]))).symm,l.o.trans ⟨rfl,rfl,rfl,cY _,fun _ _=>rfl⟩⟩;obtain⟨X,Q,cx⟩:=x;obtain⟨py,R,cy⟩:=y;simp only[] at v c1 c2 z B C;clear t u P;by_cases m:X=py
     ·subst m;by_cases f:Q=R
      ·subst f;have g:(cx==cy)=false:=by simp;rintro rfl;exact i rfl
       clear i;go_wp2
       go_quiet (fail)
       go_wp2;go_ret;exact s.o _
      ·have g:(Q==R)=false:=by simpa using f
       clear i;go_wp2
       go_quiet (fail)
       go_wp2;go_ret;exact s.o _
     ·have g:(X==py)=false:=by simpa using m
      clear i;go_wp2
      go_quiet (fail)
      go_wp2;go_ret;exact s.o _
   ·have ao:¬(k:Int)<(a.length:Int):=by omega
    go_wp2;go_ret;exact⟨A8 (decide_eq_true (HE.o fun j F=>A.o j (by omega))).symm,l.o⟩
 ·have HD:Hq (¬a=b):=fun h=>W (by rw[h]);rw[show decide (a=b)=false from decide_eq_false HD.o];clear M N D E;go_enter func13,ntmps13;go_wp2;go_ret;exact⟨rfl,⟨rfl,rfl,rfl,cY _,fun _ _=>rfl⟩⟩
def Vd:(prog.info? 5).map (fun i=>(i.zero,i.size,i.bytes))=Z (Z (I U 0),1,1):=by kernel_rfl
def Ej(n:Int):List Int:=(dA ((n%210).toNat/3+1)).map fun(i:Nat)=>(n+(i:Int))%256
def EE(n:Int):List Int:=if n%11=0 then [] else Ej n
def Py(n:Int):(EE n).length≤70∧Bf (EE n):=by
 have b:(Ej n).length≤70∧Bf (Ej n):=by
  refine⟨by simp[Ej];omega,fun z a=>?_⟩;obtain⟨i,_,rfl⟩:=eD.1 a;omega
 unfold EE;split
 ·exact⟨by simp,fun z a=>by cases a⟩
 ·exact b
def Xn(n:Int)(w:dd):dD prog 38 #[I J n] w fun e w'=>∃ v,e=.returned v∧C5 w' w.heap.size v (EE n)∧Bl w w':=by
 obtain⟨m,r⟩:∃ m:Nat,n%210=(m:Int):=⟨(n%210).toNat,by omega⟩;have ag:m<210:=by omega
 have p:Hq (∀ W,dD prog 20 #[I J n,I J 210] W fun e w'=>e=.returned (I J (m:Int))∧w'=W):=fun W=>by rw[←r];exact Jj n 210 (by decide) (by decide) W
 have M:=HH r;clear r;have B:(Ej n).length=m/3+1:=by
  simp only[Ej,dW,ff,M.o,Int.toNat_natCast]
 have x:=HH B;clear B;go_enter func38,ntmps38;go_wp2_with fail
 go_loopw [3,4] (fun s3 s4 wr=>∃ k:Nat,k≤m/3+1∧s4=I J k∧∃ g i,s3=Y g k i∧Hq (Bl w wr∧wr.ownsRow w.heap.size 5 1 (Y g k i) k (((Ej n).take k).map (ep U)))) (fun _ v _=>m/3+1-(intOf v).toNat)
 case atStart=>exact⟨0,dE _,rfl,O,0,rfl,cK _ w,by simp,.inl ⟨rfl,rfl⟩⟩
 case round=>
  obtain⟨k,af,rfl,g,i,rfl,A⟩:=hrel;by_cases hk:k<m/3+1
  ·have S:(k:Int)≤(m:Int)/3:=by omega
   obtain⟨a,c⟩:=A.o;obtain⟨y,c3,s,D,C,f⟩:=Gv (W:=wr.alloc (T #[I U (eZ (n+(k:Int))%256)] 5)) (q:=wr.heap.size) (new:=[I U (eZ (n+(k:Int))%256)]) (Bp c fun b _ a=>ej _ _ _ a) underlying34 Vd rfl (by decide) (by have:=a.size;simp;omega) (by omega) (by decide) (de _ _) rfl (by intro u F;simp only[eb] at F;subst F;rfl) 34;have z:=fun b=>F8 (b:=b) c;have E:=f.size;have X:wr.heap.size+1≤s.heap.size:=by simpa using E
   have K:Hq (Bl w s):=⟨f.os.trans a.os,f.tape.trans a.tape,f.output.trans a.output,by have:=a.size;omega,fun j Q=>(f.block j (by have:=a.size;simp;omega) (fun e=>by have:=(z j e.symm).1;omega)).trans ((ej _ _ _ (by have:=a.size;omega)).trans (a.block j Q))⟩;have N:Hq (s.ownsRow w.heap.size 5 1 (Y y (k+1) c3) (k+1) (((Ej n).take (k+1)).map (ep U))):=by
    have R:k<(Ej n).length:=by have:=x.o;omega
    have e:((Ej n).take (k+1)).map (ep U)=((Ej n).take k).map (ep U)++ [I U (eZ (n+(k:Int))%256)]:=by
     have hv:(Ej n)[k]=eZ (n+(k:Int))%256:=by
      simp only[Ej,eB,dU];unfold eZ;omega
     rw[eK R,fl,hv];rfl
    show World.ownsRow _ _ _ _ _ _ _;rw[e];exact C
   have P:=HH D;clear A a c D C f z E X;go_wp2_with (first|(go_at_call 20;refine(p.o _).mono ?_;rintro e H ⟨rfl,rfl⟩)|(at_builtin;refine eE _ rfl _ _ _ _ rfl _ _ rfl rfl _ _ P.o ?_))
   go_roundw
   case rel=>exact⟨k+1,by omega,by go_num,y,c3,rfl,K.o,N.o⟩
   case measure=>simp[intOf];omega
  ·obtain rfl:k=m/3+1:=by omega
   have S:¬((m/3+1:Nat):Int)≤(m:Int)/3:=by omega
   obtain⟨a,c⟩:=A.o;have t:=HH a;have L:Hq (C5 wr w.heap.size (Y g (m/3+1) i) (Ej n)):=by
    have V:=x.o;rw[List.take_of_length_le (by omega)] at c;show wr.ownsRow _ _ _ _ _ _;rw[V];exact c
   clear A a c;by_cases d:n%11=0
   ·have ht:Int.tmod n 11=0:=Int.tmod_eq_zero_of_dvd (Int.dvd_of_emod_eq_zero d);have l:Hq (EE n=[]):=by unfold EE;rw[if_pos d];rfl
    clear d;go_wp2_with (go_at_call 20;refine(p.o _).mono ?_;rintro e H ⟨rfl,rfl⟩);go_ret;exact⟨_,rfl,by rw[l.o];exact⟨by simp,.inl ⟨rfl,rfl⟩⟩,t.o⟩
   ·have ht:¬Int.tmod n 11=0:=fun h=>d (Int.emod_eq_zero_of_dvd (Int.dvd_of_tmod_eq_zero h));have l:Hq (EE n=Ej n):=by unfold EE;rw[if_neg d];rfl
    clear d;go_wp2_with (go_at_call 20;refine(p.o _).mono ?_;rintro e H ⟨rfl,rfl⟩);go_ret;exact⟨_,rfl,by rw[l.o];exact L.o,t.o⟩
section
variable {d:Ad} {s:Ae} {now:Int}
end
def KZ:eG:=⟨fun|157=>198|229=>210|199=>211|261=>222|311=>231|312=>232|n=>n,fun|9=>9|31=>223|3=>3|5=>5|4=>4|119=>304|0=>0|40=>306|152=>315|21=>21|154=>317|51=>229|141=>319|196=>329|193=>326|198=>332|49=>330|194=>327|201=>335|226=>338|46=>179|227=>339|n=>n,fun|0=>3|6=>5|n=>n⟩
def Kb:fu prog KZ:={mixed:=by kernel_rfl,f157:=func198.trans (congrArg Z (by kernel_rfl)),f199:=func211.trans (congrArg Z (by kernel_rfl)),f229:=func210.trans (congrArg Z (by kernel_rfl)),f261:=func222.trans (congrArg Z (by kernel_rfl)),f311:=func231.trans (congrArg Z (by kernel_rfl)),f312:=func232.trans (congrArg Z (by kernel_rfl)),t0:=underlying0,a0:=isAgg0,z0:=sizeOf0,v0:=zeroValue0,t3:=underlying3,a3:=isAgg3,z3:=sizeOf3,v3:=zeroValue3,t4:=underlying4,a4:=isAgg4,z4:=sizeOf4,v4:=zeroValue4,t5:=underlying5,a5:=isAgg5,z5:=sizeOf5,v5:=zeroValue5,t9:=underlying9,a9:=isAgg9,z9:=sizeOf9,v9:=zeroValue9,t21:=underlying21,a21:=isAgg21,z21:=sizeOf21,v21:=zeroValue21,t31:=underlying223,a31:=isAgg223,z31:=sizeOf223,v31:=zeroValue223,t40:=underlying306,a40:=isAgg306,z40:=sizeOf306,v40:=zeroValue306,t46:=underlying179,a46:=isAgg179,z46:=sizeOf179,v46:=zeroValue179,t49:=underlying330,a49:=isAgg330,z49:=sizeOf330,v49:=zeroValue330,t51:=underlying229,a51:=isAgg229,z51:=sizeOf229,v51:=zeroValue229,t119:=underlying304,a119:=isAgg304,z119:=sizeOf304,t141:=underlying319,a141:=isAgg319,z141:=sizeOf319,v141:=zeroValue319,t152:=underlying315,a152:=isAgg315,z152:=sizeOf315,v152:=zeroValue315,t154:=underlying317,a154:=isAgg317,z154:=sizeOf317,v154:=zeroValue317,t193:=underlying326,a193:=isAgg326,z193:=sizeOf326,v193:=zeroValue326,t194:=underlying327,a194:=isAgg327,z194:=sizeOf327,v194:=zeroValue327,t196:=underlying329,a196:=isAgg329,z196:=sizeOf329,v196:=zeroValue329,t198:=underlying332,a198:=isAgg332,z198:=sizeOf332,v198:=zeroValue332,t201:=underlying335,a201:=isAgg335,z201:=sizeOf335,v201:=zeroValue335,t226:=underlying338,a226:=isAgg338,z226:=sizeOf338,v226:=zeroValue338,t227:=underlying339,a227:=isAgg339,z227:=sizeOf339,v227:=zeroValue339,g0:=by kernel_rfl,g6:=by kernel_rfl,i0:=by kernel_rfl,i3:=by kernel_rfl,i4:=by kernel_rfl,i5:=by kernel_rfl,i9:=by kernel_rfl,i21:=by kernel_rfl,i31:=by kernel_rfl,i40:=by kernel_rfl,i46:=by kernel_rfl,i49:=by kernel_rfl,i51:=by kernel_rfl,i141:=by kernel_rfl,i152:=by kernel_rfl,i154:=by kernel_rfl,i193:=by kernel_rfl,i194:=by kernel_rfl,i196:=by kernel_rfl,i198:=by kernel_rfl,i201:=by kernel_rfl,i226:=by kernel_rfl,i227:=by kernel_rfl,m0:=by kernel_rfl,m6:=by kernel_rfl}
def Pg:eG:=⟨fun|156=>140|165=>175|166=>176|169=>177|240=>195|241=>196|276=>207|277=>208|n=>n,fun|31=>223|9=>9|3=>3|4=>4|0=>0|20=>20|72=>274|76=>277|70=>272|37=>34|75=>276|127=>295|164=>301|5=>5|80=>279|n=>n,fun|n=>n⟩
def WO:fx prog Pg:=⟨by kernel_rfl,func140.trans (congrArg Z (by kernel_rfl)),func175.trans (congrArg Z (by kernel_rfl)),func176.trans (congrArg Z (by kernel_rfl)),func177.trans (congrArg Z (by kernel_rfl)),func195.trans (congrArg Z (by kernel_rfl)),func196.trans (congrArg Z (by kernel_rfl)),func207.trans (congrArg Z (by kernel_rfl)),func208.trans (congrArg Z (by kernel_rfl)),underlying0,isAgg0,sizeOf0,zeroValue0,underlying3,isAgg3,sizeOf3,zeroValue3,underlying4,isAgg4,sizeOf4,zeroValue4,underlying9,isAgg9,sizeOf9,zeroValue9,underlying20,isAgg20,sizeOf20,zeroValue20,underlying223,isAgg223,sizeOf223,zeroValue223,underlying34,isAgg34,sizeOf34,zeroValue34,underlying272,isAgg272,sizeOf272,zeroValue272,underlying274,isAgg274,sizeOf274,zeroValue274,underlying276,isAgg276,sizeOf276,zeroValue276,underlying277,isAgg277,sizeOf277,zeroValue277,underlying295,isAgg295,sizeOf295,zeroValue295,underlying301,isAgg301,sizeOf301,zeroValue301⟩
def KY:eG:=⟨fun|145=>178|220=>197|219=>209|217=>218|225=>219|224=>220|267=>221|266=>229|314=>230|n=>n,fun|9=>9|4=>4|59=>280|3=>3|5=>5|46=>179|146=>230|51=>229|n=>n,fun|1=>4|n=>n⟩
def WL:fy prog KY:=⟨by kernel_rfl,func178.trans (congrArg Z (by kernel_rfl)),func218.trans (congrArg Z (by kernel_rfl)),func209.trans (congrArg Z (by kernel_rfl)),func197.trans (congrArg Z (by kernel_rfl)),func220.trans (congrArg Z (by kernel_rfl)),func219.trans (congrArg Z (by kernel_rfl)),func229.trans (congrArg Z (by kernel_rfl)),func221.trans (congrArg Z (by kernel_rfl)),func230.trans (congrArg Z (by kernel_rfl)),underlying3,isAgg3,sizeOf3,zeroValue3,underlying4,isAgg4,sizeOf4,zeroValue4,underlying5,isAgg5,sizeOf5,zeroValue5,underlying9,isAgg9,sizeOf9,zeroValue9,underlying179,isAgg179,sizeOf179,zeroValue179,underlying229,isAgg229,sizeOf229,zeroValue229,underlying280,isAgg280,sizeOf280,zeroValue280,underlying230,isAgg230,sizeOf230,zeroValue230,by kernel_rfl⟩
def WN:eG:=⟨fun|171=>174|243=>194|246=>206|283=>214|284=>215|285=>216|286=>217|129=>225|317=>224|318=>226|319=>227|320=>228|337=>233|338=>234|n=>n,fun|3=>3|9=>9|2=>2|4=>4|171=>308|0=>0|53=>232|37=>34|5=>5|173=>311|212=>322|51=>229|20=>20|213=>323|46=>179|232=>340|233=>341|n=>n,fun|17=>6|18=>7|19=>8|n=>n⟩
def WM:ft prog WN:={mixed:=by kernel_rfl,f129:=func225.trans (congrArg Z (by kernel_rfl)),f171:=func174.trans (congrArg Z (by kernel_rfl)),f243:=func194.trans (congrArg Z (by kernel_rfl)),f246:=func206.trans (congrArg Z (by kernel_rfl)),f283:=func214.trans (congrArg Z (by kernel_rfl)),f284:=func215.trans (congrArg Z (by kernel_rfl)),f285:=func216.trans (congrArg Z (by kernel_rfl)),f286:=func217.trans (congrArg Z (by kernel_rfl)),f317:=func224.trans (congrArg Z (by kernel_rfl)),f318:=func226.trans (congrArg Z (by kernel_rfl)),f319:=func227.trans (congrArg Z (by kernel_rfl)),f320:=func228.trans (congrArg Z (by kernel_rfl)),f337:=func233.trans (congrArg Z (by kernel_rfl)),f338:=func234.trans (congrArg Z (by kernel_rfl)),t0:=underlying0,a0:=isAgg0,z0:=sizeOf0,v0:=zeroValue0,t2:=underlying2,a2:=isAgg2,z2:=sizeOf2,v2:=zeroValue2,t3:=underlying3,a3:=isAgg3,z3:=sizeOf3,v3:=zeroValue3,t4:=underlying4,a4:=isAgg4,z4:=sizeOf4,v4:=zeroValue4,t5:=underlying5,a5:=isAgg5,z5:=sizeOf5,v5:=zeroValue5,t9:=underlying9,a9:=isAgg9,z9:=sizeOf9,v9:=zeroValue9,t20:=underlying20,a20:=isAgg20,z20:=sizeOf20,v20:=zeroValue20,t37:=underlying34,a37:=isAgg34,z37:=sizeOf34,v37:=zeroValue34,t46:=underlying179,a46:=isAgg179,z46:=sizeOf179,v46:=zeroValue179,t51:=underlying229,a51:=isAgg229,z51:=sizeOf229,v51:=zeroValue229,t53:=underlying232,a53:=isAgg232,z53:=sizeOf232,v53:=zeroValue232,t171:=underlying308,a171:=isAgg308,z171:=sizeOf308,v171:=zeroValue308,t173:=underlying311,a173:=isAgg311,z173:=sizeOf311,v173:=zeroValue311,t212:=underlying322,a212:=isAgg322,z212:=sizeOf322,v212:=zeroValue322,t213:=underlying323,a213:=isAgg323,z213:=sizeOf323,t232:=underlying340,a232:=isAgg340,z232:=sizeOf340,v232:=zeroValue340,t233:=underlying341,a233:=isAgg341,z233:=sizeOf341,v233:=zeroValue341,g17:=by kernel_rfl,g18:=by kernel_rfl,g19:=by kernel_rfl,i0:=by kernel_rfl,i2:=by kernel_rfl,i3:=by kernel_rfl,i4:=by kernel_rfl,i5:=by kernel_rfl,i9:=by kernel_rfl,i20:=by kernel_rfl,i37:=by kernel_rfl,i46:=by kernel_rfl,i51:=by kernel_rfl,i53:=by kernel_rfl,i171:=by kernel_rfl,i173:=by kernel_rfl,i212:=by kernel_rfl,i232:=by kernel_rfl,i233:=by kernel_rfl,m17:=by kernel_rfl,m18:=by kernel_rfl,m19:=by kernel_rfl}
def extra:Builder.Extra prog Pg:={sizeBuilder:=by kernel_rfl,liesBuilder:=by kernel_rfl,t5:=Kb.t5,a5:=Kb.a5,z5:=Kb.z5,v5:=Kb.v5,infoByte:=by kernel_rfl,cellsByte:=by kernel_rfl,sizeByte:=by kernel_rfl,neB5:=by decide}
structure Ce(w:dd):Prop where
 sp:Lib.TabIs prog w "strings.asciiSpace" U Lib.asciiSpaceTab
 PI:Lib.TabIs prog w "internal/strconv.uint64pow10" .u64 Lib.pow10Tab
 ml:∃ m:Int,w.cell? ⟨KY.g 1,0,O⟩=Z (I J m)
def Mx:prog.globalNamed "strings.asciiSpace" =Z 3:=by kernel_rfl
def Mw:prog.globalNamed "internal/strconv.uint64pow10" =Z 6:=by kernel_rfl
def QN{w w':dd}{g:Nat}{nm:String}(a:prog.globalNamed nm=Z g)(b:w'.heap[g]? =w.heap[g]?):w'.var? prog nm=w.var? prog nm:=by
 unfold World.var?;rw[a];simp only[Option.bind_some];rw[b]
def Ce.Ag{w w':dd}(h:Ce w)(a:∀ k,k<16→w'.heap[k]? =w.heap[k]?):Ce w':=by
 obtain⟨m,b⟩:=h.ml;refine⟨(QN Mx (a _ (by decide))).trans h.sp,(QN Mw (a _ (by decide))).trans h.PI,m,?_⟩;have:w'.heap[KY.g 1]? =w.heap[KY.g 1]?:=a _ (by decide);exact(Gh this 0).trans b
def Ce.below{B:Nat}{w w':dd}(h:Ce w)(b:16≤B)(a:fp B w w'):Ce w':=h.Ag fun k c=>a.block k (by omega)
def Ce.BG{B:Nat}{M:List Nat}{w w':dd}(h:Ce w)(e:16≤B)(g:B≤w.heap.size)(d:Upd M w w')(a:∀ b∈M,B≤b):Ce w':=h.Ag fun k f=>d.block k (by omega) (fun c=>by have:=a k c;omega)
def EB:ByteArray:=⟨(([119,111,114,107,58,119,32,115,101,116,58,114,118,32,97,100,100,58,114,114,32,115,117,98,58,114,114,32,108,111,97,100,58,114,97,114,32,115,116,111,114,101,58,114,97,114,32,115].append [101,110,100,58,111,114,108,32,114,101,99,118,58,105,114,114,32,119,97,105,116,58,115,32,115,105,103,110,97,108,58,115,32,114,97,105,115,101,58,101,32,108,111,119,101,114,58,101]).append ([32,117,110,116,105,108,58,101,32,112,117,116,58,98,114,32,103,101,116,58,98,114,32,115,104,111,119,58,100,114,32,108,111,111,107,58,100,114,32,99,108,101,97,114,58,100,32,110].append [101,120,116,58,32,106,117,109,112,58,106,32,122,101,114,111,58,114,106,32,108,101,115,115,58,114,114,106,32,100,105,118,58,114,114,32,102,97,117,108,116,58,99,32,115,116,111,112,58])).toArray⟩
def G8:List (List UInt8):=eo EB.data.toList
def D4(a:Int):List UInt8:=if 1≤a∧a≤(G8.length:Int) then G8.getD (a-1).toNat [] else []
def Ec(a:Int):List UInt8:=(fj (D4 a) [58]).1
def lettP(a:Int):List UInt8:=(fj (D4 a) [58]).2.1
def Kz:G8.length=25:=by kernel_rfl
def VX:EB.size<4294967281:=by decide+kernel
def VW:∀ (j:Nat) b,EB.data.toList[j]? =Z b→b.toNat<128:=by
 have h:EB.data.toList.all (fun b=>decide (b.toNat<128))=true:=by kernel_rfl
 intro j b a;exact of_decide_eq_true (dL.1 h b (e6 a))
def YV:∀ l∈G8,l.length≤20:=by
 have h:G8.all (fun l=>decide (l.length≤20))=true:=by kernel_rfl
 intro l a;exact of_decide_eq_true (dL.1 h l a)
def ZG(a:Int):(D4 a).length≤20:=by
 unfold D4;split
 ·rename_i h;have b:(a-1).toNat<G8.length:=by omega
  rw[cI,cJ b];exact YV _ (dG _)
 ·simp
def ZH(a:Int)(r:0≤a)(u:a≤255)(w:dd)(h:Ce w):
  dD prog 179 #[.string EB,I U a] w fun e w'=>e=.returned (.string ⟨(D4 a).toArray⟩)∧Bl w w':=by
 have d:=Any.strings_Fields_laid Kb EB w VX VW h.sp;have p:(eo EB.data.toList).length=25:=Kz;rw[p] at d;have g:∀ (k:Nat),k<25→(w.alloc (T ((eo EB.data.toList).map fun l=>fs ⟨l.toArray⟩).toArray (KZ.t 9))).cell? ⟨w.heap.size,k,O⟩=Z (.string ⟨(G8.getD k []).toArray⟩):=by
  intro k m;have n:k<(eo EB.data.toList).length:=by omega
  have:=Lib.pieces_cell w ((eo EB.data.toList).map fun l=>(⟨l.toArray⟩:ByteArray)) (KZ.t 9) k ⟨((eo EB.data.toList)[k]).toArray⟩ (by rw[dP,cJ n];rfl);rw[et,List.map_map] at this;rw[show G8.getD k []=(eo EB.data.toList)[k] from by simp only[G8,cI,cJ n,Option.getD_some]];exact this
 generalize i:w.alloc (T ((eo EB.data.toList).map fun l=>fs ⟨l.toArray⟩).toArray (KZ.t 9))=W at d g;have j:Bl w W:=by rw[←i];exact(cK _ w).alloc (cY _) _
 obtain⟨c,f,q⟩:=H3 d j g;clear d p i j g h;generalize EB=x at c ⊢;by_cases c1:a<1
 ·have b:D4 a=[]:=by unfold D4;rw[if_neg (by omega)]
  rw[b];have s:a=0:=by omega
  subst s;clear c1 r u b;go_enter func179,ntmps179;go_wp2_with (go_at_call 198;refine c.o.mono ?_;rintro e w' ⟨rfl,rfl⟩);go_ret;exact⟨rfl,f.o⟩
 ·by_cases c2:25<a
  ·have b:D4 a=[]:=by unfold D4;rw[Kz,if_neg (by omega)]
   rw[b];clear b;go_enter func179,ntmps179;go_wp2_with (go_at_call 198;refine c.o.mono ?_;rintro e w' ⟨rfl,rfl⟩);go_ret;exact⟨rfl,f.o⟩
  ·have b:D4 a=G8.getD (a-1).toNat []:=by unfold D4;rw[Kz,if_pos (by omega)]
   obtain⟨k,rfl⟩:∃ k:Nat,a=k+1:=⟨(a-1).toNat,by omega⟩;rw[show ((k:Int)+1-1).toNat=k by omega] at b;rw[b];have m:k<25:=by omega
   have v:=q.o k m;clear b c1 c2;go_enter func179,ntmps179;go_wp2_with (go_at_call 198;refine c.o.mono ?_;rintro e w' ⟨rfl,rfl⟩);go_ret;exact⟨rfl,f.o⟩
def OZ(a:Int)(h:0≤a)(i:a≤255)(w:dd)(d:Ce w)(g:16≤w.heap.size):
  dD prog 142 #[I U a] w fun e w'=>e=.returned (.tuple #[.string ⟨(Ec a).toArray⟩,.string ⟨(lettP a).toArray⟩])∧Bl w w':=by
 have f:=HH (ZH a h i w d);have c:Hq (∀ W,Bl w W→dD prog 178 #[.string ⟨(D4 a).toArray⟩,.string ⟨#[58]⟩] W fun e w'=>e=.returned (.tuple #[.string ⟨(Ec a).toArray⟩,.string ⟨(lettP a).toArray⟩,.bool (fj (D4 a) [58]).2.2])∧∃ n,w'=W.drewN n):=by
  intro W j;obtain⟨m,k⟩:=(d.below g j).ml;have:=Any.strings_Cut WL ⟨(D4 a).toArray⟩ ⟨#[58]⟩ m W (by
   have:=ZG a;show(D4 a).toArray.size<_;simp only[List.size_toArray];omega) k
  exact this
 generalize Ec a=t at c ⊢;generalize lettP a=p at c ⊢;generalize (fj (D4 a) [58]).2.2=l at c;generalize D4 a=wt at c f;clear d g;go_enter func142,ntmps142;go_wp2_with (first
  |(go_at_call 179;refine f.o.mono ?_;rintro e r ⟨rfl,b⟩)
  |(go_at_call 178;refine(c.o _ b).mono ?_;rintro e s ⟨rfl,q,rfl⟩))
 go_ret2
 exact⟨rfl,⟨b.os,b.tape,b.output,b.size,b.block⟩⟩
def N4(a:Int)(f:0≤a)(g:a≤255)(w:dd)(c:Ce w)(d:16≤w.heap.size):
  dD prog 169 #[I U a] w fun e w'=>e=.returned (.string ⟨(Ec a).toArray⟩)∧Bl w w':=by
 have b:=HH (OZ a f g w c d);generalize Ec a=k at b ⊢;generalize lettP a=i at b;clear c d;go_enter func169,ntmps169;go_wp2_with (go_at_call 142;refine b.o.mono ?_;rintro e j ⟨rfl,h⟩);go_ret;exact⟨rfl,h⟩
def Lg(a:Int)(f:0≤a)(g:a≤255)(w:dd)(c:Ce w)(d:16≤w.heap.size):
  dD prog 109 #[I U a] w fun e w'=>e=.returned (.string ⟨(lettP a).toArray⟩)∧Bl w w':=by
 have b:=HH (OZ a f g w c d);generalize Ec a=k at b;generalize lettP a=i at b ⊢;clear c d;go_enter func109,ntmps109;go_wp2_with (go_at_call 142;refine b.o.mono ?_;rintro e j ⟨rfl,h⟩);go_ret;exact⟨rfl,h⟩
def MD(a:Int)(c:0≤a)(d:a≤255):(lettP a).length≤3:=by
 by_cases h:1≤a∧a≤25
 ·have b:(dA 26).all (fun k=>decide ((lettP (k:Nat)).length≤3))=true:=by kernel_rfl
  obtain⟨k,rfl⟩:∃ k:Nat,a=k:=⟨a.toNat,by omega⟩;exact of_decide_eq_true (dL.1 b k (dT.2 (by omega)))
 ·unfold lettP D4;rw[Kz,if_neg (by omega)];decide+kernel
def Pq(a:Int)(h:¬(1≤a∧a≤25)):Ec a=[]∧lettP a=[]:=by
 unfold Ec lettP D4;rw[Kz,if_neg (by omega)];decide+kernel
def AW(w:dd)(v:dx)(n sz:Nat)(u:Nat→Nat→dx):Prop:=
 ∃ (a:Option eh) (cap:Nat),v=Y a n cap∧n≤cap∧(a=O→cap=0)∧
  (0<n→∃ b c,a=Z ⟨b,c,O⟩∧b<w.heap.size∧∀ k j,k<n→j<sz→w.cell? ⟨b,c+k*sz+j,O⟩=Z (u k j))
def AW.below{w w':dd}{v:dx}{n sz:Nat}{u:Nat→Nat→dx}(h:AW w v n sz u)(a:Bl w w'):AW w' v n sz u:=by
 obtain⟨d,cap,q,m,o,p⟩:=h;refine⟨d,cap,q,m,o,fun e=>?_⟩;obtain⟨b,r,f,c,g⟩:=p e;exact⟨b,r,f,dC c a.size,fun k j l i=>(Gh (a.block b c) _).trans (g k j l i)⟩
def AW.same{w:dd}{v:dx}{n sz:Nat}{u d:Nat→Nat→dx}(h:AW w v n sz u)(m:∀ k j,k<n→j<sz→u k j=d k j):AW w v n sz d:=by
 obtain⟨e,cap,r,o,p,q⟩:=h;refine⟨e,cap,r,o,p,fun f=>?_⟩;obtain⟨b,s,g,i,l⟩:=q f;exact⟨b,s,g,i,fun k j c a=>by rw[←m k j c a];exact l k j c a⟩
def FP(p:Nat→Bool)(n:Nat):Int:=DL p (dA n)
def DQ(p:Nat→Bool)(n:Nat):Bool:=(dA n).any p
def KK{p:Nat→Bool}{n:Nat}(k:Nat)(c:k<n)(h:p k=true)(a:∀ j,j<k→p j=false):FP p n=k:=
 JY p (dA n) k (by simpa using c) (by simpa using h) (fun j b d=>by simpa using a j b)
def KM{p:Nat→Bool}{n:Nat}(a:∀ j,j<n→p j=false):FP p n=-1:=
 JZ p (dA n) (fun j b=>by simpa using a j (by simpa using b))
def KJ(p:Nat→Bool)(n:Nat):decide (0≤FP p n)=DQ p n:=KI p _
def Io{α:Type}(q:α→Bool)(l:List α)(d:α):DQ (fun k=>q (l.getD k d)) l.length=l.any q:=by
 unfold DQ;rw[Bool.eq_iff_iff,fi,fi];constructor
 ·rintro⟨k,a,h⟩;have a:=dT.1 a;rw[cI,cJ a] at h;exact⟨_,dG a,h⟩
 ·rintro⟨x,b,h⟩;obtain⟨k,a,rfl⟩:=fa b;refine⟨k,dT.2 a,?_⟩;rw[cI,cJ a];exact h
def UX(v:dx)(n:Nat)(u:Nat→Nat→dx)(g:Nat)(x:Array dx)(p:Nat→Bool)(H:∀ args w,(eq g args).run prog w=.ok (.enter g args) w)(w:dd)(h:AW w v n 1 u)(N:n≤1000000)
  (t:∀ k,k<n→∀ W,Bl w W→dD prog g (#[u k 0]++x) W fun e w'=>e=.returned (.bool (p k))∧Bl w w'):
  dD prog 98 #[v,.func (.func g) #[] x] w fun e w'=>e=.returned (I J (FP p n))∧Bl w w':=by
 obtain⟨F,cap,rfl,K,P,y⟩:=h;obtain⟨z,PA⟩:=H2 t y;clear t y;go_enter func98,ntmps98;go_wp2
 go_loopg [5,8] n (fun B _ E wr=>∃ k:Nat,k≤n∧n-k≤B∧E=I J k∧Hq (Bl w wr)∧Hq (∀ j (c:j<k),p j=false))
 case atStart=>exact⟨0,dE _,by omega,rfl,cK _ w,fun j c=>absurd c (dS _)⟩
 case round=>
  obtain⟨k,M,L,rfl,f,A⟩:=hrel;by_cases q:k<n
  ·have D:(k:Int)<(n:Int):=by omega
   obtain⟨b,Q,rfl,C,s⟩:=PA.o (by omega);have r:=s k 0 q (by decide);rw[←f.o.cell (p:=⟨b,_,O⟩) C] at r;simp only[ea,dR] at r;clear s;have a:=z.o k q wr f.o;cases d:p k with
   |true=>
    rw[d] at a;obtain⟨i,l⟩:=H2 a d;clear a d;go_wp2_with (refine i.o.mono ?_;rintro e w' ⟨rfl,m⟩);go_ret;exact⟨EH (KK k q l.o (fun j c=>A.o j c)).symm,m⟩
   |false=>
    rw[d] at a;obtain⟨i,l⟩:=H2 a d;clear a d;go_wp2_with (refine i.o.mono ?_;rintro e w' ⟨rfl,m⟩)
    go_roundg (n-(k+1))
    case measure=>omega
    case rel=>
     refine⟨k+1,by omega,by omega,by go_num,m,fun j c=>?_⟩;by_cases e:j=k
     ·subst e;exact l.o
     ·exact A.o j (by omega)
  ·have D:¬(k:Int)<(n:Int):=by omega
   go_wp2;go_ret;exact⟨EH (KM (fun j c=>A.o j (by omega))).symm,f.o⟩
def JT(v:dx)(n:Nat)(u:Nat→Nat→dx)(g:Nat)(a:Array dx)(p:Nat→Bool)(c:∀ args w,(eq g args).run prog w=.ok (.enter g args) w)(w:dd)(h:AW w v n 1 u)(i:n≤1000000)
  (d:∀ k,k<n→∀ W,Bl w W→dD prog g (#[u k 0]++a) W fun e w'=>e=.returned (.bool (p k))∧Bl w w'):
  dD prog 55 #[v,.func (.func g) #[] a] w fun e w'=>e=.returned (.bool (DQ p n))∧Bl w w':=by
 have b:=HH (UX v n u g a p c w h i d);rw[←KJ];generalize FP p n=q at b ⊢;clear h d c;go_enter func55,ntmps55;go_wp2_with (go_at_call 98;refine b.o.mono ?_;rintro e w' ⟨rfl,f⟩);go_ret;exact⟨rfl,f⟩
def UW(v:dx)(n:Nat)(u:Nat→Nat→dx)(g:Nat)(y:Array dx)(p:Nat→Bool)(H:∀ args w,(eq g args).run prog w=.ok (.enter g args) w)(w:dd)(h:AW w v n 4 u)(N:n≤1000000)
  (x:∀ k,k<n→∀ W,Bl w W→dD prog g (#[.agg #[u k 0,u k 1,u k 2,u k 3]]++y) W fun e w'=>e=.returned (.bool (p k))∧Bl w w'):
  dD prog 100 #[v,.func (.func g) #[] y] w fun e w'=>e=.returned (I J (FP p n))∧Bl w w':=by
 obtain⟨F,cap,rfl,K,P,z⟩:=h;obtain⟨B,PA⟩:=H2 x z;clear x z;go_enter func100,ntmps100;go_wp2
 go_loopg [5,8] n (fun C _ E wr=>∃ k:Nat,k≤n∧n-k≤C∧E=I J k∧Hq (Bl w wr)∧Hq (∀ j (d:j<k),p j=false))
 case atStart=>exact⟨0,dE _,by omega,rfl,cK _ w,fun j d=>absurd d (dS _)⟩
 case round=>
  obtain⟨k,M,L,rfl,a,A⟩:=hrel;by_cases f:k<n
  ·have D:(k:Int)<(n:Int):=by omega
   obtain⟨b,Q,rfl,m,l⟩:=PA.o (by omega);have t:=l k 0 f (by decide);rw[←a.o.cell (p:=⟨b,_,O⟩) m] at t;have c1:=l k 1 f (by decide);rw[←a.o.cell (p:=⟨b,_,O⟩) m] at c1;have c2:=l k 2 f (by decide);rw[←a.o.cell (p:=⟨b,_,O⟩) m] at c2;have c3:=l k 3 f (by decide);rw[←a.o.cell (p:=⟨b,_,O⟩) m] at c3;simp only[ea,dR] at t c1 c2 c3;clear l;have c:=B.o k f wr a.o;cases i:p k with
   |true=>
    rw[i] at c;obtain⟨q,r⟩:=H2 c i;clear c i;go_wp2_with (refine q.o.mono ?_;rintro e w' ⟨rfl,s⟩);go_ret;exact⟨EH (KK k f r.o (fun j d=>A.o j d)).symm,s⟩
   |false=>
    rw[i] at c;obtain⟨q,r⟩:=H2 c i;clear c i;go_wp2_with (refine q.o.mono ?_;rintro e w' ⟨rfl,s⟩)
    go_roundg (n-(k+1))
    case measure=>omega
    case rel=>
     refine⟨k+1,by omega,by omega,by go_num,s,fun j d=>?_⟩;by_cases e:j=k
     ·subst e;exact r.o
     ·exact A.o j (by omega)
  ·have D:¬(k:Int)<(n:Int):=by omega
   go_wp2;go_ret;exact⟨EH (KM (fun j d=>A.o j (by omega))).symm,a.o⟩
def Oj(v:dx)(n:Nat)(u:Nat→Nat→dx)(g:Nat)(a:Array dx)(p:Nat→Bool)(c:∀ args w,(eq g args).run prog w=.ok (.enter g args) w)(w:dd)(h:AW w v n 4 u)(i:n≤1000000)
  (d:∀ k,k<n→∀ W,Bl w W→dD prog g (#[.agg #[u k 0,u k 1,u k 2,u k 3]]++a) W fun e w'=>e=.returned (.bool (p k))∧Bl w w'):
  dD prog 60 #[v,.func (.func g) #[] a] w fun e w'=>e=.returned (.bool (DQ p n))∧Bl w w':=by
 have b:=HH (UW v n u g a p c w h i d);rw[←KJ];generalize FP p n=q at b ⊢;clear h d c;go_enter func60,ntmps60;go_wp2_with (go_at_call 100;refine b.o.mono ?_;rintro e w' ⟨rfl,f⟩);go_ret;exact⟨rfl,f⟩
def UZ(v:dx)(n:Nat)(u:Nat→Nat→dx)(g:Nat)(y:Array dx)(p:Nat→Bool)(H:∀ args w,(eq g args).run prog w=.ok (.enter g args) w)(w:dd)(h:AW w v n 6 u)(N:n≤1000000)
  (x:∀ k,k<n→∀ W,Bl w W→dD prog g (#[.agg #[u k 0,u k 1,u k 2,u k 3,u k 4,u k 5]]++y) W fun e w'=>e=.returned (.bool (p k))∧Bl w w'):
  dD prog 95 #[v,.func (.func g) #[] y] w fun e w'=>e=.returned (I J (FP p n))∧Bl w w':=by
 obtain⟨F,cap,rfl,K,P,z⟩:=h;obtain⟨B,PA⟩:=H2 x z;clear x z;go_enter func95,ntmps95;go_wp2
 go_loopg [5,8] n (fun C _ E wr=>∃ k:Nat,k≤n∧n-k≤C∧E=I J k∧Hq (Bl w wr)∧Hq (∀ j (l:j<k),p j=false))
 case atStart=>exact⟨0,dE _,by omega,rfl,cK _ w,fun j l=>absurd l (dS _)⟩
 case round=>
  obtain⟨k,M,L,rfl,a,A⟩:=hrel;by_cases c:k<n
  ·have D:(k:Int)<(n:Int):=by omega
   obtain⟨b,Q,rfl,f,d⟩:=PA.o (by omega);have t:=d k 0 c (by decide);rw[←a.o.cell (p:=⟨b,_,O⟩) f] at t;have c1:=d k 1 c (by decide);rw[←a.o.cell (p:=⟨b,_,O⟩) f] at c1;have c2:=d k 2 c (by decide);rw[←a.o.cell (p:=⟨b,_,O⟩) f] at c2;have c3:=d k 3 c (by decide);rw[←a.o.cell (p:=⟨b,_,O⟩) f] at c3;have c4:=d k 4 c (by decide);rw[←a.o.cell (p:=⟨b,_,O⟩) f] at c4;have c5:=d k 5 c (by decide);rw[←a.o.cell (p:=⟨b,_,O⟩) f] at c5;simp only[ea,dR] at t c1 c2 c3 c4 c5;clear d;have i:=B.o k c wr a.o;cases m:p k with
   |true=>
    rw[m] at i;obtain⟨q,r⟩:=H2 i m;clear i m;go_wp2_with (refine q.o.mono ?_;rintro e w' ⟨rfl,s⟩);go_ret;exact⟨EH (KK k c r.o (fun j l=>A.o j l)).symm,s⟩
   |false=>
    rw[m] at i;obtain⟨q,r⟩:=H2 i m;clear i m;go_wp2_with (refine q.o.mono ?_;rintro e w' ⟨rfl,s⟩)
    go_roundg (n-(k+1))
    case measure=>omega
    case rel=>
     refine⟨k+1,by omega,by omega,by go_num,s,fun j l=>?_⟩;by_cases e:j=k
     ·subst e;exact r.o
     ·exact A.o j (by omega)
  ·have D:¬(k:Int)<(n:Int):=by omega
   go_wp2;go_ret;exact⟨EH (KM (fun j l=>A.o j (by omega))).symm,a.o⟩
def Sv(v:dx)(n:Nat)(u:Nat→Nat→dx)(g:Nat)(a:Array dx)(p:Nat→Bool)(c:∀ args w,(eq g args).run prog w=.ok (.enter g args) w)(w:dd)(h:AW w v n 6 u)(i:n≤1000000)
  (d:∀ k,k<n→∀ W,Bl w W→dD prog g (#[.agg #[u k 0,u k 1,u k 2,u k 3,u k 4,u k 5]]++a) W fun e w'=>e=.returned (.bool (p k))∧Bl w w'):
  dD prog 51 #[v,.func (.func g) #[] a] w fun e w'=>e=.returned (.bool (DQ p n))∧Bl w w':=by
 have b:=HH (UZ v n u g a p c w h i d);rw[←KJ];generalize FP p n=q at b ⊢;clear h d c;go_enter func51,ntmps51;go_wp2_with (go_at_call 95;refine b.o.mono ?_;rintro e w' ⟨rfl,f⟩);go_ret;exact⟨rfl,f⟩
def UY(v:dx)(n:Nat)(u:Nat→Nat→dx)(g:Nat)(y:Array dx)(p:Nat→Bool)(H:∀ args w,(eq g args).run prog w=.ok (.enter g args) w)(w:dd)(h:AW w v n 5 u)(N:n≤1000000)
  (x:∀ k,k<n→∀ W,Bl w W→dD prog g (#[.agg #[u k 0,u k 1,u k 2,u k 3,u k 4]]++y) W fun e w'=>e=.returned (.bool (p k))∧Bl w w'):
  dD prog 99 #[v,.func (.func g) #[] y] w fun e w'=>e=.returned (I J (FP p n))∧Bl w w':=by
 obtain⟨F,cap,rfl,K,P,z⟩:=h;obtain⟨B,PA⟩:=H2 x z;clear x z;go_enter func99,ntmps99;go_wp2
 go_loopg [5,8] n (fun C _ E wr=>∃ k:Nat,k≤n∧n-k≤C∧E=I J k∧Hq (Bl w wr)∧Hq (∀ j (i:j<k),p j=false))
 case atStart=>exact⟨0,dE _,by omega,rfl,cK _ w,fun j i=>absurd i (dS _)⟩
 case round=>
  obtain⟨k,M,L,rfl,a,A⟩:=hrel;by_cases c:k<n
  ·have D:(k:Int)<(n:Int):=by omega
   obtain⟨b,Q,rfl,m,d⟩:=PA.o (by omega);have t:=d k 0 c (by decide);rw[←a.o.cell (p:=⟨b,_,O⟩) m] at t;have c1:=d k 1 c (by decide);rw[←a.o.cell (p:=⟨b,_,O⟩) m] at c1;have c2:=d k 2 c (by decide);rw[←a.o.cell (p:=⟨b,_,O⟩) m] at c2;have c3:=d k 3 c (by decide);rw[←a.o.cell (p:=⟨b,_,O⟩) m] at c3;have c4:=d k 4 c (by decide);rw[←a.o.cell (p:=⟨b,_,O⟩) m] at c4;simp only[ea,dR] at t c1 c2 c3 c4;clear d;have f:=B.o k c wr a.o;cases l:p k with
   |true=>
    rw[l] at f;obtain⟨q,r⟩:=H2 f l;clear f l;go_wp2_with (refine q.o.mono ?_;rintro e w' ⟨rfl,s⟩);go_ret;exact⟨EH (KK k c r.o (fun j i=>A.o j i)).symm,s⟩
   |false=>
    rw[l] at f;obtain⟨q,r⟩:=H2 f l;clear f l;go_wp2_with (refine q.o.mono ?_;rintro e w' ⟨rfl,s⟩)
    go_roundg (n-(k+1))
    case measure=>omega
    case rel=>
     refine⟨k+1,by omega,by omega,by go_num,s,fun j i=>?_⟩;by_cases e:j=k
     ·subst e;exact r.o
     ·exact A.o j (by omega)
  ·have D:¬(k:Int)<(n:Int):=by omega
   go_wp2;go_ret;exact⟨EH (KM (fun j i=>A.o j (by omega))).symm,a.o⟩
def Su(v:dx)(n:Nat)(u:Nat→Nat→dx)(g:Nat)(a:Array dx)(p:Nat→Bool)(c:∀ args w,(eq g args).run prog w=.ok (.enter g args) w)(w:dd)(h:AW w v n 5 u)(i:n≤1000000)
  (d:∀ k,k<n→∀ W,Bl w W→dD prog g (#[.agg #[u k 0,u k 1,u k 2,u k 3,u k 4]]++a) W fun e w'=>e=.returned (.bool (p k))∧Bl w w'):
  dD prog 58 #[v,.func (.func g) #[] a] w fun e w'=>e=.returned (.bool (DQ p n))∧Bl w w':=by
 have b:=HH (UY v n u g a p c w h i d);rw[←KJ];generalize FP p n=q at b ⊢;clear h d c;go_enter func58,ntmps58;go_wp2_with (go_at_call 99;refine b.o.mono ?_;rintro e w' ⟨rfl,f⟩);go_ret;exact⟨rfl,f⟩
def D0(n:Int):Bool:=decide (0≤n) && decide (n≤1073741824)
def Dx(x:Ai):List Int:=[x.a,x.b,x.c]
def opsL(x:Ai):List Int:=(Dx x).take (lettP x.op).length
def DD(x:Ai):List Int:=(Dx x).drop (lettP x.op).length
def CJ(x:Ai):Bool:=decide (Ec x.op≠ []) && ((opsL x).all D0 && (DD x).all fun n=>decide (n=0))
def C6(w:dd)(v:dx)(l:List Int):Prop:=AW w v l.length 1 (fun k _=>I J (l.getD k 0))
def Tz:EG 192:=fun _ _=>by kernel_rfl
def Tb:EG 193:=fun _ _=>by kernel_rfl
def Mh:EG 109:=fun _ _=>by kernel_rfl
def X8(n:Int)(w:dd):dD prog 192 #[I J n] w fun e w'=>e=.returned (.bool (!D0 n))∧Bl w w':=by
 by_cases a:n<0
 ·rw[show (!D0 n)=true from by simp[D0];omega];go_enter func192,ntmps192;go_wp2;go_ret;exact⟨rfl,cK _ _⟩
 ·by_cases b:1073741824<n
  ·rw[show (!D0 n)=true from by simp[D0];omega];go_enter func192,ntmps192;go_wp2;go_ret;exact⟨rfl,cK _ _⟩
  ·rw[show (!D0 n)=false from by simp[D0];omega];go_enter func192,ntmps192;go_wp2;go_ret;exact⟨rfl,cK _ _⟩
def ZP(n:Int)(w:dd):dD prog 173 #[I J n] w fun e w'=>e=.returned (.bool (decide (n=0)))∧Bl w w':=by
 by_cases a:n=0
 ·subst a;go_enter func173,ntmps173;go_wp2;go_ret;exact⟨rfl,cK _ _⟩
 ·rw[show decide (n=0)=false from decide_eq_false a];have b:=beq_false_of_ne a;go_enter func173,ntmps173;go_wp2;go_ret;exact⟨rfl,cK _ _⟩
def Rx(n:Int)(g:Nat)(w:dd)(c:w.cell? ⟨g,0,O⟩=Z (.func (.func 173) #[] #[])):dD prog 193 #[I J n,G (Z ⟨g,0,O⟩)] w fun e w'=>e=.returned (.bool (!decide (n=0)))∧Bl w w':=by
 have a:=HH (ZP n w);go_enter func193,ntmps193;go_wp2_with (refine a.o.mono ?_;rintro e w' ⟨rfl,b⟩);go_ret;exact⟨rfl,b⟩
def Ld(v:dx)(l:List Int)(w:dd)(h:C6 w v l)(g:l.length≤1000):dD prog 170 #[v] w fun e w'=>e=.returned (.bool (l.all D0))∧Bl w w':=by
 have a:=JT v l.length _ 192 #[] (fun k=>!D0 (l.getD k 0)) Tz w h (by omega) (fun k f W b=>(X8 _ W).mono fun e w' h=>⟨h.1,b.trans (h.2.mono b.size)⟩);rw[Io (fun n=>!D0 n)] at a;have e:l.all D0=!(l.any fun n=>!D0 n):=by rw[eV];simp
 rw[e];generalize (l.any fun n=>!D0 n)=q at a ⊢;have c:=HH a;clear h e a;go_enter func170,ntmps170;go_wp2_with (go_at_call 55;refine c.o.mono ?_;rintro e w' ⟨rfl,d⟩);go_ret;exact⟨rfl,d⟩
def NX(v:dx)(l:List Int)(w:dd)(h:C6 w v l)(s:l.length≤1000):dD prog 172 #[v,.func (.func 173) #[] #[]] w fun e w'=>e=.returned (.bool (l.all fun n=>decide (n=0)))∧Bl w w':=by
 obtain⟨c,a⟩:=ex (w.alloc (T #[.func (.func 173) #[] #[]] 134));have f:Bl w c:=by rw[a];exact(cK _ w).alloc (cY _) _
 have g:c.heap[w.heap.size]? =Z (T #[.func (.func 173) #[] #[]] 134 (0,0)):=by rw[a];exact de _ _
 have b:=JT v l.length _ 193 #[G (Z ⟨w.heap.size,0,O⟩)] (fun k=>!decide (l.getD k 0=0)) Tb c (h.below f) (by omega) (fun k r W d=>(Rx _ w.heap.size W (Cr ((d.block _ (Aa g)).trans g))).mono fun e w' h=>⟨h.1,d.trans (h.2.mono d.size)⟩);rw[Io (fun n=>!decide (n=0))] at b;have e:(l.all fun n=>decide (n=0))=!(l.any fun n=>!decide (n=0)):=by rw[eV];simp
 rw[e];generalize (l.any fun n=>!decide (n=0))=q at b ⊢;obtain⟨j,i,m⟩:=H3 b f a;clear h e b f g a;go_enter func172,ntmps172;go_wp2_with (rw[←m.o];go_at_call 55;refine j.o.mono ?_;rintro e w' ⟨rfl,p⟩);go_ret;exact⟨rfl,i.o.trans (p.mono i.o.size)⟩
def FH(B:Nat)(x:Ai)(v:dx)(w:dd):Prop:=∃ q,B≤q∧v=Y (Z ⟨q,0,O⟩) 3 3∧w.heap[q]? =Z (T #[I J x.a,I J x.b,I J x.c] 3 (0,0))
def FH.AX{B:Nat}{x:Ai}:DO (FH B x):=fun _ _ _ ⟨q,b,c,a⟩ d=>⟨q,b,c,(d.block _ (Aa a)).trans a⟩
def NT{w:dd}{q:Nat}{x:Ai}(h:w.heap[q]? =Z (T #[I J x.a,I J x.b,I J x.c] 3 (0,0)))(k:Nat)(d:k<3):w.cell? ⟨q,k,O⟩=Z (I J ((Dx x).getD k 0)):=by
 rw[Cr h];rcases(show k=0∨k=1∨k=2 by omega) with rfl|rfl|rfl<;>rfl
def MQ(x:Ai)(s:0≤x.op)(t:x.op≤255)(w:dd)(y:Ce w)(B:16≤w.heap.size):dD prog 171 #[.agg #[I U x.op,I J x.a,I J x.b,I J x.c]] w fun e w'=>∃ v,e=.returned v∧C6 w' v (opsL x)∧Bl w w':=by
 obtain⟨l,p⟩:=ex (w.alloc (T #[I U x.op,I J x.a,I J x.b,I J x.c] 64));have C:Bl w l:=by rw[p];exact(cK _ w).alloc (cY _) _
 have q:l.heap[w.heap.size]? =Z (T #[I U x.op,I J x.a,I J x.b,I J x.c] 64 (0,0)):=by rw[p];exact de _ _
 obtain⟨i,HK,M,H,z⟩:=H5 C q p y B;have m:Hq (0≤x.op∧x.op≤255):=⟨s,t⟩;have Q:w.heap.size<l.heap.size:=Aa q;obtain⟨X,z1,z2,z3⟩:=q4 q;clear C q p y B s t;obtain⟨L,n⟩:=ex ((lettP x.op).length);have ah:L≤3:=by rw[n];exact MD _ m.o.1 m.o.2
 have A:=HH n;have aj:(⟨(lettP x.op).toArray⟩:ByteArray).size=L:=by rw[n];show(lettP x.op).toArray.size=_;simp
 clear n;go_enter func171,ntmps171;go_upto_region 1 with (fail);rw[←M.o];obtain⟨g,D⟩:=ex w.heap.size;rw[←D] at X z1 z2 z3 Q ⊢;clear D;refine BQ 13 [(6,FH l.heap.size x),(9,fun v _=>v=.string ⟨(lettP x.op).toArray⟩)] ⟨FH.AX,Ch,trivial⟩ ?_
 iterate 6 (refine AK rfl ?_;intro K hK;go_big_quiet_op;go_big_quiet_on)
 refine Ca rfl (fun w' d N=>?_) ?_
 ·exact Bn (v:=Y (Z ⟨w'.heap.size,0,O⟩) 3 3) (w':=w'.alloc (T #[I J x.a,I J x.b,I J x.c] 3)) (by simp[execOp,go_sem]) ⟨(cK _ _).alloc (cY _) _,⟨w'.heap.size,d.size,rfl,de _ _⟩⟩
 intro v w' d u;obtain⟨F,E,rfl,r⟩:=u;clear d E r w';simp only[Au,cS,dz,dy]
 iterate 2 (refine AK rfl ?_;intro K hK;go_big_quiet_op;go_big_quiet_on)
 refine Ca rfl (fun w' d N=>?_) ?_
 ·refine AD (f:=109) (al:=[I U x.op]) rfl rfl rfl Mh ?_;exact(Lg x.op m.o.1 m.o.2 w' (H.o.below z.o (i.o.trans (d.mono i.o.size))) (by have t:=d.size;have h2:=i.o.size;have h3:=z.o;omega)).mono fun e w2 h=>⟨_,h.1,h.2,rfl⟩
 intro v w' d u;obtain rfl:=u;clear d w';simp only[Au,cS,dz,dy]
 iterate 3 (refine AK rfl ?_;intro K hK;go_big_quiet_op;go_big_quiet_on)
 refine BN ?_;intro W P V;simp only[dM,dV,ec];go_wp2_with fail;go_ret;obtain⟨q2,E,e,r⟩:FH l.heap.size x (Y (Z ⟨F,0,O⟩) 3 3) W:=V 6 _ (by decide) rfl;simp only[dF,dJ,ei,and_true,true_and] at e;subst e;refine⟨_,rfl,?_,i.o.trans (P.mono i.o.size)⟩;have S:(opsL x).length=L:=by
  have h4:=A.o;rw[show (opsL x).length=min (lettP x.op).length 3 by simp[opsL,Dx]];omega
 unfold C6;rw[S];refine⟨_,_,rfl,by omega,fun e=>(by cases e),fun s=>⟨F,0,rfl,Aa r,fun k j R hj=>?_⟩⟩;obtain rfl:j=0:=by omega
 rw[et,ea,dR,NT r k (by omega)];simp only[opsL,←A.o];rw[cI,cI,fd,if_pos R]
def VQ(x:Ai)(h0:0≤x.op)(h1:x.op≤255)(w:dd)(aU:Ce w)(aW:16≤w.heap.size):dD prog 137 #[.agg #[I U x.op,I J x.a,I J x.b,I J x.c]] w fun e w'=>e=.returned (.bool (CJ x))∧Bl w w':=by
 obtain⟨W1,hW⟩:=ex (w.alloc (T #[I U x.op,I J x.a,I J x.b,I J x.c] 64));have aX:Bl w W1:=by rw[hW];exact(cK _ w).alloc (cY _) _
 have aL:W1.heap[w.heap.size]? =Z (T #[I U x.op,I J x.a,I J x.b,I J x.c] 64 (0,0)):=by rw[hW];exact de _ _
 obtain⟨P,HK,HW,HG,ac⟩:=H5 aX aL hW aU aW;have y:Hq (0≤x.op∧x.op≤255):=⟨h0,h1⟩;have aq:w.heap.size<W1.heap.size:=Aa aL;obtain⟨z0,z1,z2,z3⟩:=q4 aL;clear aX aL hW aU aW h0 h1;obtain⟨L,hL⟩:=ex ((lettP x.op).length);have a7:L≤3:=by rw[hL];exact MD _ y.o.1 y.o.2
 have aO:=HH hL;have ba:(⟨(lettP x.op).toArray⟩:ByteArray).size=L:=by rw[hL];show(lettP x.op).toArray.size=_;simp
 clear hL;by_cases a2:3=L
 ·subst a2;go_enter func137,ntmps137;go_upto_region 1 with (fail);rw[←HW.o];obtain⟨g,hg⟩:=ex w.heap.size;have aY:=HH hg;rw[←hg] at z0 z1 z2 z3 aq ⊢;clear hg;refine BQ 13 [(6,FH W1.heap.size x),(9,fun v _=>v=.string ⟨(lettP x.op).toArray⟩)] ⟨FH.AX,Ch,trivial⟩ ?_
  iterate 6 (refine AK rfl ?_;intro K hK;go_big_quiet_op;go_big_quiet_on)
  refine Ca rfl (fun w' l hA=>?_) ?_
  ·exact Bn (v:=Y (Z ⟨w'.heap.size,0,O⟩) 3 3) (w':=w'.alloc (T #[I J x.a,I J x.b,I J x.c] 3)) (by simp[execOp,go_sem]) ⟨(cK _ _).alloc (cY _) _,⟨w'.heap.size,l.size,rfl,de _ _⟩⟩
  intro v w' l hv;obtain⟨q0,hq,rfl,M⟩:=hv;clear l hq M w';simp only[Au,cS,dz,dy]
  iterate 2 (refine AK rfl ?_;intro K hK;go_big_quiet_op;go_big_quiet_on)
  refine Ca rfl (fun w' l hA=>?_) ?_
  ·refine AD (f:=109) (al:=[I U x.op]) rfl rfl rfl Mh ?_;exact(Lg x.op y.o.1 y.o.2 w' (HG.o.below ac.o (P.o.trans (l.mono P.o.size))) (by have h1:=l.size;have h2:=P.o.size;have h3:=ac.o;omega)).mono fun e w2 h=>⟨_,h.1,h.2,rfl⟩
  intro v w' l hv;obtain rfl:=hv;clear l w';simp only[Au,cS,dz,dy]
  iterate 3 (refine AK rfl ?_;intro K hK;go_big_quiet_op;go_big_quiet_on)
  refine BN ?_;intro d s aF;simp only[dM,dV,ec];obtain⟨q2,hq,e,M⟩:FH W1.heap.size x (Y (Z ⟨q0,0,O⟩) 3 3) d:=aF 6 _ (by decide) rfl;simp only[dF,dJ,ei,and_true,true_and] at e;subst e;have Q:Bl w d:=P.o.trans (s.mono P.o.size);have aD:(DD x).length=0:=by
   have h4:=aO.o;rw[show (DD x).length=3-(lettP x.op).length by simp[DD,Dx]];omega
  have aE:C6 d (Y (Z ⟨q0,0,O⟩) 0 0) (DD x):=by
   unfold C6;rw[aD];exact⟨_,_,rfl,cY _,fun e=>(by cases e),fun h0=>absurd h0 (by omega)⟩
  have h9:16≤d.heap.size:=by have:=Q.size;have:=ac.o;omega
  have ai:=HG.o.below ac.o Q;have E:=HH (N4 x.op y.o.1 y.o.2 d ai h9);have ay:Hq (∀ W,Bl d W→dD prog 171 #[.agg #[I U x.op,I J x.a,I J x.b,I J x.c]] W fun e w'=>∃ v,e=.returned v∧C6 w' v (opsL x)∧Bl W w'):=
   fun W l=>MQ x y.o.1 y.o.2 W (ai.below h9 l) (by have:=l.size;omega)
  have V:d.cell? ⟨g,0,O⟩=Z (I U x.op):=z0 ⟨d,s⟩;have X:d.cell? ⟨g,1,O⟩=Z (I J x.a):=z1 ⟨d,s⟩;have y2:d.cell? ⟨g,2,O⟩=Z (I J x.b):=z2 ⟨d,s⟩;have y3:d.cell? ⟨g,3,O⟩=Z (I J x.c):=z3 ⟨d,s⟩;obtain⟨z,aQ⟩:=H2 Q aE;have m:Hq (g<d.heap.size):=dC aq s.size;have aB:(opsL x).length≤1000:=by
   have:(opsL x).length≤3:=by simp[opsL,Dx];omega
   omega
  have aC:(DD x).length≤1000:=by omega
  obtain⟨ax,aN⟩:=H2 aB aC;have aZ:Hq (q0<d.heap.size):=Aa M;clear aF z0 z1 z2 z3 s Q hq M aE aD ai h9 aB aC aq;cases A:Ec x.op with
  |nil=>
   have C:Hq (CJ x=false):=by show _=_;simp[CJ,A]
   rw[A] at E;clear A;go_wp2_with (go_at_call 169;refine E.o.mono ?_;rintro e w3 ⟨rfl,i⟩);go_ret;rw[C.o];exact⟨rfl,z.o.trans (i.mono z.o.size)⟩
  |cons c t=>
   have C:Hq (CJ x=((opsL x).all D0 && (DD x).all fun n=>decide (n=0))):=by show _=_;simp[CJ,A]
   rw[A] at E;clear A;cases S:(opsL x).all D0 with
   |false=>
    have D:=HH S;clear S;go_wp2_with (first
     |(go_at_call 169;refine E.o.mono ?_;rintro e w3 ⟨rfl,i⟩
       have q:=HH i;have u0:=(i.cell (p:=⟨g,0,O⟩) m.o).trans V;have u1:=(i.cell (p:=⟨g,1,O⟩) m.o).trans X;have u2:=(i.cell (p:=⟨g,2,O⟩) m.o).trans y2;have u3:=(i.cell (p:=⟨g,3,O⟩) m.o).trans y3;clear i V X y2 y3)
     |(go_at_call 171;refine(ay.o _ q.o).mono ?_;rintro e w4 ⟨v4,rfl,N,F⟩;have af:=HH N;have B:=HH F;clear N F u0 u1 u2 u3)
     |(go_at_call 170;have u:=Ld v4 (opsL x) _ af.o ax.o;rw[D.o] at u;refine u.mono ?_;rintro e w5 ⟨rfl,H⟩;have ae:=HH H;clear H u)
     |fail)
    go_ret;rw[C.o,D.o];exact⟨rfl,z.o.trans ((q.o.trans ((B.o.trans (ae.o.mono B.o.size)).mono q.o.size)).mono z.o.size)⟩
   |true=>
    have D:=HH S;clear S;obtain⟨r,hr⟩:=ex ((DD x).all fun n=>decide (n=0));rw[D.o,←hr] at C;have HR:=HH hr;clear hr;go_wp2_with (first
     |(go_at_call 169;refine E.o.mono ?_;rintro e w3 ⟨rfl,i⟩
       have q:=HH i;have u0:=(i.cell (p:=⟨g,0,O⟩) m.o).trans V;have u1:=(i.cell (p:=⟨g,1,O⟩) m.o).trans X;have u2:=(i.cell (p:=⟨g,2,O⟩) m.o).trans y2;have u3:=(i.cell (p:=⟨g,3,O⟩) m.o).trans y3;clear i V X y2 y3)
     |(go_at_call 171;refine(ay.o _ q.o).mono ?_;rintro e w4 ⟨v4,rfl,N,F⟩;have af:=HH N;have B:=HH F;clear N F u0 u1 u2 u3)
     |(go_at_call 170;have u:=Ld v4 (opsL x) _ af.o ax.o;rw[D.o] at u;refine u.mono ?_;rintro e w5 ⟨rfl,H⟩;have ae:=HH H;clear H u)
     |(go_at_call 172
       have R:Bl d _:=q.o.trans ((B.o.trans (ae.o.mono B.o.size)).mono q.o.size);have aj:=NX _ (DD x) _ (aQ.o.below R) aN.o;rw[←HR.o] at aj;refine aj.mono ?_;rintro e w6 ⟨rfl,aA⟩;have aM:=HH (R.trans (aA.mono R.size));clear aA R aj)
     |fail)
    go_ret;rw[C.o];exact⟨rfl,z.o.trans (aM.o.mono z.o.size)⟩
 ·go_enter func137,ntmps137;go_upto_region 1 with (fail);rw[←HW.o];obtain⟨g,hg⟩:=ex w.heap.size;have aY:=HH hg;rw[←hg] at z0 z1 z2 z3 aq ⊢;clear hg;refine BQ 13 [(6,FH W1.heap.size x),(9,fun v _=>v=.string ⟨(lettP x.op).toArray⟩)] ⟨FH.AX,Ch,trivial⟩ ?_
  iterate 6 (refine AK rfl ?_;intro K hK;go_big_quiet_op;go_big_quiet_on)
  refine Ca rfl (fun w' l hA=>?_) ?_
  ·exact Bn (v:=Y (Z ⟨w'.heap.size,0,O⟩) 3 3) (w':=w'.alloc (T #[I J x.a,I J x.b,I J x.c] 3)) (by simp[execOp,go_sem]) ⟨(cK _ _).alloc (cY _) _,⟨w'.heap.size,l.size,rfl,de _ _⟩⟩
  intro v w' l hv;obtain⟨q0,hq,rfl,M⟩:=hv;clear l hq M w';simp only[Au,cS,dz,dy]
  iterate 2 (refine AK rfl ?_;intro K hK;go_big_quiet_op;go_big_quiet_on)
  refine Ca rfl (fun w' l hA=>?_) ?_
  ·refine AD (f:=109) (al:=[I U x.op]) rfl rfl rfl Mh ?_;exact(Lg x.op y.o.1 y.o.2 w' (HG.o.below ac.o (P.o.trans (l.mono P.o.size))) (by have h1:=l.size;have h2:=P.o.size;have h3:=ac.o;omega)).mono fun e w2 h=>⟨_,h.1,h.2,rfl⟩
  intro v w' l hv;obtain rfl:=hv;clear l w';simp only[Au,cS,dz,dy]
  iterate 3 (refine AK rfl ?_;intro K hK;go_big_quiet_op;go_big_quiet_on)
  refine BN ?_;intro d s aF;simp only[dM,dV,ec];obtain⟨q2,hq,e,M⟩:FH W1.heap.size x (Y (Z ⟨q0,0,O⟩) 3 3) d:=aF 6 _ (by decide) rfl;simp only[dF,dJ,ei,and_true,true_and] at e;subst e;have Q:Bl w d:=P.o.trans (s.mono P.o.size);have aD:(DD x).length=3-L:=by
   have h4:=aO.o;rw[show (DD x).length=3-(lettP x.op).length by simp[DD,Dx]];omega
  have aE:C6 d (Y (Z ⟨q0,L,O⟩) (3-L) (3-L)) (DD x):=by
   unfold C6;rw[aD];refine⟨_,_,rfl,cY _,fun e=>(by cases e),fun h0=>⟨q0,L,rfl,Aa M,fun k j hk hj=>?_⟩⟩;obtain rfl:j=0:=by omega
   rw[ea,dR,NT M (L+k) (by omega)];simp only[DD,←aO.o];rw[cI,cI,List.getElem?_drop]
  have h9:16≤d.heap.size:=by have:=Q.size;have:=ac.o;omega
  have ai:=HG.o.below ac.o Q;have E:=HH (N4 x.op y.o.1 y.o.2 d ai h9);have ay:Hq (∀ W,Bl d W→dD prog 171 #[.agg #[I U x.op,I J x.a,I J x.b,I J x.c]] W fun e w'=>∃ v,e=.returned v∧C6 w' v (opsL x)∧Bl W w'):=
   fun W l=>MQ x y.o.1 y.o.2 W (ai.below h9 l) (by have:=l.size;omega)
  have V:d.cell? ⟨g,0,O⟩=Z (I U x.op):=z0 ⟨d,s⟩;have X:d.cell? ⟨g,1,O⟩=Z (I J x.a):=z1 ⟨d,s⟩;have y2:d.cell? ⟨g,2,O⟩=Z (I J x.b):=z2 ⟨d,s⟩;have y3:d.cell? ⟨g,3,O⟩=Z (I J x.c):=z3 ⟨d,s⟩;obtain⟨z,aQ⟩:=H2 Q aE;have m:Hq (g<d.heap.size):=dC aq s.size;have aB:(opsL x).length≤1000:=by
   have:(opsL x).length≤3:=by simp[opsL,Dx];omega
   omega
  have aC:(DD x).length≤1000:=by omega
  obtain⟨ax,aN⟩:=H2 aB aC;have aZ:Hq (q0<d.heap.size):=Aa M;clear aF z0 z1 z2 z3 s Q hq M aE aD ai h9 aB aC aq;cases A:Ec x.op with
  |nil=>
   have C:Hq (CJ x=false):=by show _=_;simp[CJ,A]
   rw[A] at E;clear A;go_wp2_with (go_at_call 169;refine E.o.mono ?_;rintro e w3 ⟨rfl,i⟩);go_ret;rw[C.o];exact⟨rfl,z.o.trans (i.mono z.o.size)⟩
  |cons c t=>
   have C:Hq (CJ x=((opsL x).all D0 && (DD x).all fun n=>decide (n=0))):=by show _=_;simp[CJ,A]
   rw[A] at E;clear A;cases S:(opsL x).all D0 with
   |false=>
    have D:=HH S;clear S;go_wp2_with (first
     |(go_at_call 169;refine E.o.mono ?_;rintro e w3 ⟨rfl,i⟩
       have q:=HH i;have u0:=(i.cell (p:=⟨g,0,O⟩) m.o).trans V;have u1:=(i.cell (p:=⟨g,1,O⟩) m.o).trans X;have u2:=(i.cell (p:=⟨g,2,O⟩) m.o).trans y2;have u3:=(i.cell (p:=⟨g,3,O⟩) m.o).trans y3;clear i V X y2 y3)
     |(go_at_call 171;refine(ay.o _ q.o).mono ?_;rintro e w4 ⟨v4,rfl,N,F⟩;have af:=HH N;have B:=HH F;clear N F u0 u1 u2 u3)
     |(go_at_call 170;have u:=Ld v4 (opsL x) _ af.o ax.o;rw[D.o] at u;refine u.mono ?_;rintro e w5 ⟨rfl,H⟩;have ae:=HH H;clear H u)
     |fail)
    go_ret;rw[C.o,D.o];exact⟨rfl,z.o.trans ((q.o.trans ((B.o.trans (ae.o.mono B.o.size)).mono q.o.size)).mono z.o.size)⟩
   |true=>
    have D:=HH S;clear S;obtain⟨r,hr⟩:=ex ((DD x).all fun n=>decide (n=0));rw[D.o,←hr] at C;have HR:=HH hr;clear hr;go_wp2_with (first
     |(go_at_call 169;refine E.o.mono ?_;rintro e w3 ⟨rfl,i⟩
       have q:=HH i;have u0:=(i.cell (p:=⟨g,0,O⟩) m.o).trans V;have u1:=(i.cell (p:=⟨g,1,O⟩) m.o).trans X;have u2:=(i.cell (p:=⟨g,2,O⟩) m.o).trans y2;have u3:=(i.cell (p:=⟨g,3,O⟩) m.o).trans y3;clear i V X y2 y3)
     |(go_at_call 171;refine(ay.o _ q.o).mono ?_;rintro e w4 ⟨v4,rfl,N,F⟩;have af:=HH N;have B:=HH F;clear N F u0 u1 u2 u3)
     |(go_at_call 170;have u:=Ld v4 (opsL x) _ af.o ax.o;rw[D.o] at u;refine u.mono ?_;rintro e w5 ⟨rfl,H⟩;have ae:=HH H;clear H u)
     |(go_at_call 172
       have R:Bl d _:=q.o.trans ((B.o.trans (ae.o.mono B.o.size)).mono q.o.size);have aj:=NX _ (DD x) _ (aQ.o.below R) aN.o;rw[←HR.o] at aj;refine aj.mono ?_;rintro e w6 ⟨rfl,aA⟩;have aM:=HH (R.trans (aA.mono R.size));clear aA R aj)
     |fail)
    go_ret;rw[C.o];exact⟨rfl,z.o.trans (aM.o.mono z.o.size)⟩
def Eo(l:List Int)(s:List UInt8):List UInt8:=l.foldl (fun s n=>s++(32::ey n)) s
def IT(x:Ai):List UInt8:=Eo (opsL x) (Ec x.op)++ [59]
def YJ(l:List Int)(s:List UInt8)(k:Nat)(a:k<l.length):Eo (l.take (k+1)) s=Eo (l.take k) s++(32::ey l[k]):=by
 unfold Eo;rw[eK a,List.foldl_append];rfl
def R5(a z:ByteArray)(l m:List UInt8)(h:a.data.toList=l)(b:z.data.toList=m):(a++(⟨#[32]⟩++z:ByteArray)).data.toList=l++(32::m):=by
 simp[h,b]
def Nf(l:List Int)(s:List UInt8)(a:∀ n∈l,0≤n∧n≤1073741824):(Eo l s).length≤s.length+l.length*22:=by
 induction l generalizing s with
 |nil=>simp[Eo]
 |cons n l d=>
  have b:=d (s++(32::ey n)) (fun m c=>a m (List.mem_cons_of_mem _ c));have f:=a n (List.mem_cons_self ..);have g:=fh n (by omega) (by omega);have e:Eo (n::l) s=Eo l (s++(32::ey n)):=rfl;rw[e];simp only[ef,eN] at b ⊢;omega
def Mm{x:Ai}(a:CJ x=true):∀ n∈opsL x,0≤n∧n≤1073741824:=by
 simp only[CJ,dQ] at a;intro n b;have:=dL.1 a.2.1 n b;simpa[D0] using this
def QQ(a:Int)(c:0≤a)(d:a≤255):(Ec a).length≤20:=by
 by_cases h:1≤a∧a≤25
 ·have b:(dA 26).all (fun k=>decide ((Ec (k:Nat)).length≤20))=true:=by kernel_rfl
  obtain⟨k,rfl⟩:∃ k:Nat,a=k:=⟨a.toNat,by omega⟩;exact of_decide_eq_true (dL.1 b k (dT.2 (by omega)))
 ·rw[(Pq a h).1];simp
def Sn(x:Ai)(a:0≤x.op)(b:x.op≤255)(c:CJ x=true):(IT x).length≤1000:=by
 have d:=Nf (opsL x) (Ec x.op) (Mm c);have e:=QQ x.op a b;have f:(opsL x).length≤3:=by simp[opsL,Dx];omega
 simp only[IT,ef,eN,fm];omega
def VY(n:Int)(b:-9223372036854775808≤n)(c:n≤9223372036854775807)(w:dd)(a:Ce w):dD prog 174 #[I J n] w fun e w'=>e=.returned (.string ⟨(ey n).toArray⟩)∧Bl w w':=
 (Any.strconv_Itoa WM n b c w a.PI).mono fun e w' h=>by
  obtain⟨d,k,os,rfl⟩:=h;exact⟨d,Lib.below_grow _ _ (cY _) _ _⟩
def Sm(x:Ai)(E:0≤x.op)(f:x.op≤255)(hf:CJ x=true)(w:dd)(ag:Ce w)(an:16≤w.heap.size):
  dD prog 138 #[.agg #[I U x.op,I J x.a,I J x.b,I J x.c]] w fun e w'=>e=.returned (.string ⟨(IT x).toArray⟩)∧Bl w w':=by
 have j:∀ n∈opsL x,0≤n∧n≤1073741824:=Mm hf;have ab:=QQ x.op E f;obtain⟨q,H⟩:=ex (w.alloc (T #[I U x.op,I J x.a,I J x.b,I J x.c] 64));have L:Bl w q:=by rw[H];exact(cK _ w).alloc (cY _) _
 have S:q.heap[w.heap.size]? =Z (T #[I U x.op,I J x.a,I J x.b,I J x.c] 64 (0,0)):=by rw[H];exact de _ _
 have F:16≤q.heap.size:=by have:=L.size;omega
 have u:=ag.below an L;obtain⟨az,ah,y,C,ak⟩:=H5 u F L j (N4 x.op E f q u F);have ai:Hq (∀ W,Bl q W→dD prog 171 #[.agg #[I U x.op,I J x.a,I J x.b,I J x.c]] W fun e w'=>∃ v,e=.returned v∧C6 w' v (opsL x)∧Bl W w'):=
  fun W K=>MQ x E f W (u.below F K) (by have:=K.size;omega)
 obtain⟨y0,y1,y2,y3⟩:=r4 S;have t:Hq (w.heap.size<q.heap.size):=Aa S;have HW:=HH H;have aH:(opsL x).length≤3:=by simp[opsL,Dx];omega
 obtain⟨l,V⟩:=ex (opsL x);obtain⟨s0,aa⟩:=ex (Ec x.op);rw[show IT x=Eo l s0++ [59] by rw[V,aa];rfl];rw[←aa] at ak ab;have aj:=HH ab;clear ab;rw[←V] at ai C aH;clear j S L H ag u an F E f hf aa V;go_enter func138,ntmps138;go_upto_region 1 with (fail);rw[←HW.o];obtain⟨g,M⟩:=ex w.heap.size;have aO:=HH M;rw[←M] at y0 y1 y2 y3 t ⊢;clear M;go_wp2_with (first
  |(go_at_call 169;refine ak.o.mono ?_;rintro e w3 ⟨rfl,r⟩
    have P:=HH r;have u0:=(r.cell (p:=⟨g,0,O⟩) t.o).trans y0;have u1:=(r.cell (p:=⟨g,1,O⟩) t.o).trans y1;have u2:=(r.cell (p:=⟨g,2,O⟩) t.o).trans y2;have u3:=(r.cell (p:=⟨g,3,O⟩) t.o).trans y3;clear r y0 y1 y2 y3)
  |(go_at_call 171;refine(ai.o _ P.o).mono ?_;rintro e w4 ⟨v4,rfl,aI,aq⟩;obtain⟨ao,cap,rfl,aR,aU,pa⟩:=aI;have i:=HH (P.o.trans (aq.mono P.o.size));clear aq u0 u1 u2 u3)
  |fail)
 have PA:=HH pa;clear pa
 go_loopg [3,5,12] l.length (fun gg s3 _ aL wr=>∃ k:Nat,k≤l.length∧l.length-k≤gg∧aL=I J k∧∃ s:ByteArray,s3=.string s∧Hq (s.data.toList=Eo (l.take k) s0∧Bl w4 wr))
 case atStart=>exact⟨0,dE _,by omega,rfl,_,rfl,by simp[Eo],cK _ _⟩
 case round=>
  obtain⟨k,hk,M,rfl,s,rfl,A⟩:=hrel;by_cases X:k<l.length
  ·have aT:(k:Int)<(l.length:Int):=by omega
   obtain⟨b,aW,rfl,aE,ca⟩:=PA.o (by omega);have D:=ca k 0 X (by decide);obtain⟨h,d⟩:=A.o;rw[←d.cell (p:=⟨b,_,O⟩) aE] at D;have e0:l.getD k 0=l[k]:=by rw[cI,cJ X];rfl
   rw[e0] at D;simp only[ea,dR] at D;obtain⟨n,j⟩:=ex (l[k]);have Q:Hq (s.data.toList=Eo (l.take k) s0):=h;have HE:Hq (Eo (l.take (k+1)) s0=Eo (l.take k) s0++(32::ey n)):=by rw[j];exact YJ l s0 k X
   have aG:0≤n∧n≤1073741824:=by rw[j];exact C.o _ (dG _)
   have aw:Bl w wr:=y.o.trans ((i.o.trans (d.mono i.o.size)).mono y.o.size);have aK:16≤wr.heap.size:=by have f:=ah.o;have h2:=i.o.size;have h3:=d.size;omega
   have au:s.data.toList.length≤1000:=by
    rw[h];have f:=Nf (l.take k) s0 (fun m hm=>C.o m (List.mem_of_mem_take hm));have h2:=aj.o;simp only[List.length_take] at f;omega
   have aJ:s.size≤1000:=by simpa using au
   obtain⟨z,N⟩:∃ z:ByteArray,z=⟨(ey n).toArray⟩:=⟨_,rfl⟩;have aV:z.size≤21:=by
    rw[N];have:=fh n (by omega) (by omega);show(ey n).toArray.size≤21;simpa using this
   have HZ:Hq (z.data.toList=ey n):=by show _=_;rw[N]
   have R:=VY n (by omega) (by omega) wr (az.o.below ah.o (i.o.trans (d.mono i.o.size)));rw[←N] at R;clear N au;have HC:=HH R;clear R;have B:=HH d;rw[←j] at D;clear ca A h d aw aK j e0 aG;go_wp2_with (go_at_call 174;refine HC.o.mono ?_;rintro e w5 ⟨rfl,aD⟩)
   go_roundg (l.length-(k+1))
   case measure=>omega
   case rel=>
    refine⟨k+1,by omega,by omega,by go_num,_,rfl,?_,B.o.trans (aD.mono B.o.size)⟩;rw[HE.o];exact R5 s z _ _ Q.o HZ.o
  ·obtain rfl:k=l.length:=by omega
   obtain⟨h,d⟩:=A.o;rw[List.take_length] at h;obtain⟨Q,B⟩:=H2 h d;have aJ:s.size≤1000:=by
    have f:=Nf l s0 C.o;have h2:=aj.o;have:s.data.toList.length≤1000:=by rw[h];omega
    simpa using this
   clear A h d;go_wp2;go_ret;have K:Bl w wr:=y.o.trans ((i.o.trans (B.o.mono i.o.size)).mono y.o.size);refine⟨?_,K⟩;have:(s++⟨#[59]⟩:ByteArray)=⟨(Eo l s0++ [59]).toArray⟩:=by
    apply ByteArray.ext;apply fD;simp[Q.o]
   rw[this];rfl
def fits_s(l:List UInt8)(w:dd):dD prog 139 #[.string ⟨l.toArray⟩] w fun e w'=>(∃ s,e=.returned (.tuple #[.string s,I J (if l.length≤65536 then 0 else 3)]))∧w'=w:=by
 have b:(⟨l.toArray⟩:ByteArray).size=l.length:=by show l.toArray.size=_;simp
 by_cases h:l.length≤65536
 ·rw[if_pos h];have a:¬(65536:Int)<(l.length:Int):=by omega
  go_enter func139,ntmps139;go_wp2
  go_ret2
  exact⟨⟨_,rfl⟩,rfl⟩
 ·rw[if_neg h];have a:(65536:Int)<(l.length:Int):=by omega
  go_enter func139,ntmps139;go_wp2
  go_ret2
  exact⟨⟨_,rfl⟩,rfl⟩
def Tc:EG 168:=fun _ _=>by kernel_rfl
def Ry(x:Ai)(m:0≤x.op)(n:x.op≤255)(g:Nat)(w:dd)(t:w.cell? ⟨g,0,O⟩=Z (.func (.func 137) #[] #[]))(u:g<w.heap.size)(j:Ce w)(s:16≤w.heap.size):dD prog 168 #[.agg #[I U x.op,I J x.a,I J x.b,I J x.c],G (Z ⟨g,0,O⟩)] w fun e w'=>e=.returned (.bool (!CJ x))∧Bl w w':=by
 obtain⟨h,f⟩:=ex (w.alloc (T #[I U x.op,I J x.a,I J x.b,I J x.c] 64));have d:Bl w h:=by rw[f];exact(cK _ w).alloc (cY _) _
 have v:h.heap[w.heap.size]? =Z (T #[I U x.op,I J x.a,I J x.b,I J x.c] 64 (0,0)):=by rw[f];exact de _ _
 have l:=HH (VQ x m n h (j.below s d) (by have:=d.size;omega));generalize CJ x=q at l ⊢;obtain⟨A,B,C,D⟩:=r4 v;have F:=(d.cell (p:=⟨g,0,O⟩) u).trans t;obtain⟨k,y⟩:=H2 d f;clear d v f t u j s m n;go_enter func168,ntmps168;go_upto_region 1 with (fail);rw[←y.o];obtain⟨r,i⟩:=ex w.heap.size;have E:=HH i;rw[←i] at A B C D ⊢;clear i;go_wp2_with (refine l.o.mono ?_;rintro e w' ⟨rfl,z⟩);go_ret;exact⟨rfl,k.o.trans (z.mono k.o.size)⟩
def Jc(x:Ai):List dx:=[I U x.op,I J x.a,I J x.b,I J x.c]
def Rz(x:Ai)(u:0≤x.op)(p:x.op≤255)(q:Nat)(w:dd)(i:w.heap[q]? =Z (T #[I U x.op,I J x.a,I J x.b,I J x.c] 64 (0,0)))(s:Ce w)(v:16≤w.heap.size):dD prog 136 #[Y (Z ⟨q,0,O⟩) 1 1,.func (.func 137) #[] #[]] w fun e w'=>e=.returned (.bool (CJ x))∧Bl w w':=by
 obtain⟨g,l⟩:=ex (w.alloc (T #[.func (.func 137) #[] #[]] 138));have f:Bl w g:=by rw[l];exact(cK _ w).alloc (cY _) _
 have n:g.heap[w.heap.size]? =Z (T #[.func (.func 137) #[] #[]] 138 (0,0)):=by rw[l];exact de _ _
 have r:g.heap[q]? =Z (T #[I U x.op,I J x.a,I J x.b,I J x.c] 64 (0,0)):=(f.block q (Aa i)).trans i;have y:AW g (Y (Z ⟨q,0,O⟩) 1 1) 1 4 (fun _ j=>(Jc x).getD j dN):=⟨_,_,rfl,cY _,fun e=>(by cases e),fun _=>⟨q,0,rfl,Aa r,fun k j i D=>by
  obtain rfl:k=0:=by omega
  rw[Nat.zero_mul,dR,et,Cr r];rcases(show j=0∨j=1∨j=2∨j=3 by omega) with rfl|rfl|rfl|rfl<;>rfl⟩⟩
 have m:=Oj _ 1 _ 168 #[G (Z ⟨w.heap.size,0,O⟩)] (fun _=>!CJ x) Tc g y (by omega) (fun k i W d=>(Ry x u p w.heap.size W (Cr ((d.block _ (Aa n)).trans n)) (dC (Aa n) d.size) ((s.below v f).below (by have:=f.size;omega) d) (by have p:=f.size;have C:=d.size;omega)).mono fun e w' h=>⟨h.1,d.trans (h.2.mono d.size)⟩);rw[show DQ (fun _=>!CJ x) 1=!CJ x by simp[DQ,eP]] at m;generalize CJ x=b at m ⊢;obtain⟨z,t,A⟩:=H3 m f l;clear m f n l y r i s v u p;go_enter func136,ntmps136;go_wp2_with (rw[←A.o];go_at_call 60;refine z.o.mono ?_;rintro e w' ⟨rfl,B⟩);go_ret;exact⟨by simp,t.o.trans (B.mono t.o.size)⟩
def QU(x:Ai)(k:0≤x.op)(l:x.op≤255)(q:Nat)(w:dd)(d:w.heap[q]? =Z (T #[I U x.op,I J x.a,I J x.b,I J x.c] 64 (0,0)))(m:Ce w)(p:16≤w.heap.size):
  dD prog 101 #[Y (Z ⟨q,0,O⟩) 1 1] w fun e w'=>(∃ s,e=.returned (.tuple #[.string s,I J (if CJ x then 0 else 2)]))∧Bl w w':=by
 have n:=HH (Rz x k l q w d m p);cases j:CJ x with
 |false=>
  rw[j] at n;clear j d m p k l;go_enter func101,ntmps101;go_wp2_with (go_at_call 136;refine n.o.mono ?_;rintro e t ⟨rfl,r⟩)
  go_ret2
  exact⟨⟨_,rfl⟩,r⟩
 |true=>
  rw[j] at n;have D:Hq (∀ W,Bl w W→dD prog 138 #[.agg #[I U x.op,I J x.a,I J x.b,I J x.c]] W fun e w'=>e=.returned (.string ⟨(IT x).toArray⟩)∧Bl W w'):=
   fun W L=>Sm x k l j W (m.below p L) (by have:=L.size;omega)
  have Q:=Sn x k l j;generalize IT x=f at D Q;obtain⟨HK,F⟩:=H2 d (Aa d);clear j d m p k l;go_enter func101,ntmps101;go_wp2_with (go_at_call 136;refine n.o.mono ?_;rintro e t ⟨rfl,r⟩);have i:=HH r;clear r
  go_loopg [4,12] 1 (fun gg S R wr=>Hq (Bl t wr)∧((R=I J 0∧1≤gg∧S=Y O 0 0)∨(R=I J 1∧∃ g c,S=Y (Z ⟨g,0,O⟩) 1 c∧Hq (wr.cell? ⟨g,0,O⟩=Z (.string ⟨f.toArray⟩)))))
  case atStart=>exact⟨cK _ _,.inl ⟨rfl,cY _,rfl⟩⟩
  case round=>
   obtain⟨A,⟨rfl,ae,rfl⟩|⟨rfl,a,c,rfl,B⟩⟩:=hrel
   ·have d:=(A.o.block q (dC F.o i.o.size)).trans ((i.o.block q F.o).trans HK.o);obtain⟨y0,y1,y2,y3⟩:=r4 d;clear d;obtain⟨y,z⟩:=ex (wr.alloc (T #[I U x.op,I J x.a,I J x.b,I J x.c] 64));have M:Bl wr y:=by rw[z];exact(cK _ wr).alloc (cY _) _
    have ab:=HH z;have v:Hq (Bl t y):=A.o.trans (M.mono A.o.size);have V:=HH (D.o y (i.o.trans (v.o.mono i.o.size)));clear z M;go_wp2_with (rw[←ab.o];go_at_call 138;refine V.o.mono ?_;rintro e u ⟨rfl,N⟩);have H:=v.o.trans (N.mono v.o.size);have C:=HH H;clear H N
    go_roundg 0
    case measure=>omega
    case rel=>
     have K:Bl t (u.alloc (T #[.string ⟨f.toArray⟩] 9)):=C.o.alloc C.o.size _;refine⟨(K.alloc K.size _).drew,.inr ⟨by go_num,_,_,rfl,?_⟩⟩;have ad:(u.alloc (T #[.string ⟨f.toArray⟩] 9)).heap.size=u.heap.size+1:=by simp
     rw[←ad];refine(Cr (de (u.alloc (T #[.string ⟨f.toArray⟩] 9)) _)).trans ?_;rw[Array.getElem?_append_left (by simp)];rfl
   ·have P:=B.o;obtain⟨X,E⟩:=H2 (Any.strings_Join_one WO extra a 0 c ⟨f.toArray⟩ ⟨#[32]⟩ wr P) (fits_s f wr);rw[if_pos (show f.length≤65536 by omega)] at E;clear P B Q;go_wp2_with (first
     |(go_at_call 140;refine X.o.mono ?_;rintro e w5 ⟨rfl,rfl⟩)
     |(go_at_call 139;refine E.o.mono ?_;rintro e w6 ⟨⟨s,rfl⟩,rfl⟩))
    go_ret2
    exact⟨⟨_,rfl⟩,i.o.trans (A.o.mono i.o.size)⟩
def BD(d:Ad)(n a c v:Int):Bool:=
 if c=119 then decide (1≤v) && decide (v≤2000)
 else if c=108 then decide (a<(d.Ab.length:Int)) && (decide (1≤v) && decide (v≤(d.Ab.getD a.toNat default).size))
 else if c=114 then decide (v<4)
 else if c=118 then decide (v<256)
 else if c=99 then decide (v<256)
 else if c=97 then decide (v<4096)
 else if c=111 then decide (v<(d.Ab.length:Int)) && ((d.Ab.getD v.toNat default).o==true)
 else if c=105 then decide (v<(d.Ab.length:Int)) && ((d.Ab.getD v.toNat default).o==false)
 else if c=115 then decide (v<(d.semas.length:Int))
 else if c=98 then decide (v<(d.bufs.length:Int))
 else if c=101 then decide (v<d.events)
 else if c=100 then decide (v<d.boards)
 else decide (v<n)
def Ki(nm:ByteArray)(x:CV):List dx:=[.string nm,I U x.kind,.bool x.o,I J x.size,I J x.depth,I J x.At]
def Ex(w:dd)(v:dx)(l:List CV):Prop:=∃ a:Nat→ByteArray,AW w v l.length 6 (fun k j=>(Ki (a k) (l.getD k default)).getD j dN)
def Ex.below{w w':dd}{v:dx}{l:List CV}(h:Ex w v l)(a:Bl w w'):Ex w' v l:=by
 obtain⟨b,h⟩:=h;exact⟨b,h.below a⟩
structure GC(w:dd)(g:Nat)(d:Ad):Prop where
 blk:∃ nm pe le sa cs ab cb ao co ac cc,w.heap[g]? =Z (T #[.string nm,I J pe,I J le,I J d.mem,Y sa d.semas.length cs,I J d.events,I J d.boards,Y ab d.bufs.length cb,Y ao d.Ab.length co,Y ac d.procs.length cc] 26 (0,0))∧Ex w (Y ao d.Ab.length co) d.Ab
def GC.below{w w':dd}{g:Nat}{d:Ad}(h:GC w g d)(b:Bl w w'):GC w' g d:=by
 obtain⟨nm,n,m,o,k,c,i,f,co,e,j,a,l⟩:=h.blk;exact⟨nm,n,m,o,k,c,i,f,co,e,j,(b.block _ (Aa a)).trans a,l.below b⟩
def GC.lt{w:dd}{g:Nat}{d:Ad}(h:GC w g d):g<w.heap.size:=by
 obtain⟨nm,m,l,n,j,b,f,e,co,c,i,a,k⟩:=h.blk;exact Aa a
def Ti:EG 141:=fun _ _=>by kernel_rfl
def RY(b a n:Int)(c d:Nat)(w:dd)(f:w.cell? ⟨c,0,O⟩=Z (I J b))(g:w.cell? ⟨d,0,O⟩=Z (I J a)):
  dD prog 141 #[I J n,G (Z ⟨c,0,O⟩),G (Z ⟨d,0,O⟩)] w fun e w'=>e=.returned (.bool (!(decide (b≤n) && decide (n≤a))))∧Bl w w':=by
 by_cases c1:n<b
 ·rw[show (!(decide (b≤n) && decide (n≤a)))=true by simp;omega];go_enter func141,ntmps141;go_wp2;go_ret;exact⟨rfl,cK _ _⟩
 ·by_cases c2:a<n
  ·rw[show (!(decide (b≤n) && decide (n≤a)))=true by simp;omega];go_enter func141,ntmps141;go_wp2;go_ret;exact⟨rfl,cK _ _⟩
  ·rw[show (!(decide (b≤n) && decide (n≤a)))=false by simp;omega];go_enter func141,ntmps141;go_wp2;go_ret;exact⟨rfl,cK _ _⟩
def Oh(d a n:Int)(q c:Nat)(w:dd)(v:w.cell? ⟨q,0,O⟩=Z (I J n))(t:q<w.heap.size)(C:1≤c):
  dD prog 107 #[I J d,I J a,Y (Z ⟨q,0,O⟩) 1 c] w fun e w'=>e=.returned (.bool (decide (d≤n) && decide (n≤a)))∧Bl w w':=by
 obtain⟨f,g⟩:=ex ((w.alloc (T #[I J d] 3)).alloc (T #[I J a] 3));have l:Bl w f:=by rw[g];exact DX w _ _
 have r:f.heap[w.heap.size]? =Z (T #[I J d] 3 (0,0)):=by rw[g];exact(Da w _ _).1
 have s:f.heap[w.heap.size+1]? =Z (T #[I J a] 3 (0,0)):=by rw[g];exact(Da w _ _).2
 have x:=(l.cell (p:=⟨q,0,O⟩) t).trans v;have y:AW f (Y (Z ⟨q,0,O⟩) 1 c) 1 1 (fun _ _=>I J n):=⟨_,_,rfl,C,fun e=>(by cases e),fun _=>⟨q,0,rfl,dC t l.size,fun k j D E=>by
  obtain rfl:k=0:=by omega
  obtain rfl:j=0:=by omega
  exact x⟩⟩
 have m:=JT _ 1 _ 141 #[G (Z ⟨w.heap.size,0,O⟩),G (Z ⟨w.heap.size+1,0,O⟩)] (fun _=>!(decide (d≤n) && decide (n≤a))) Ti f y (by omega)
  (fun k D W i=>(RY d a n w.heap.size (w.heap.size+1) W (Cr ((i.block _ (Aa r)).trans r)) (Cr ((i.block _ (Aa s)).trans s))).mono fun e w' h=>⟨h.1,i.trans (h.2.mono i.size)⟩)
 rw[show DQ (fun _=>!(decide (d≤n) && decide (n≤a))) 1=!(decide (d≤n) && decide (n≤a)) by simp[DQ,eP]] at m;generalize (decide (d≤n) && decide (n≤a))=b at m ⊢;obtain⟨z,u,A⟩:=H3 m l g;clear m l r s g y x v t;go_enter func107,ntmps107;go_wp2_with (rw[←A.o];go_at_call 55;refine z.o.mono ?_;rintro e w' ⟨rfl,B⟩);go_ret;exact⟨by simp,u.o.trans (B.mono u.o.size)⟩
def VN(n:Int)(w:dd):dD prog 106 #[I J n] w fun e w'=>e=.returned (.bool (decide (1≤n) && decide (n≤2000)))∧Bl w w':=by
 obtain⟨c,a⟩:=ex (w.alloc (T #[I J n] 3));have h:Bl w c:=by rw[a];exact(cK _ w).alloc (cY _) _
 have d:c.heap[w.heap.size]? =Z (T #[I J n] 3 (0,0)):=by rw[a];exact de _ _
 have g:=HH (Oh 1 2000 n w.heap.size 1 c (Cr d) (Aa d) (cY _));generalize (decide (1≤n) && decide (n≤2000))=b at g ⊢;obtain⟨f,i⟩:=H2 h a;clear h d a;go_enter func106,ntmps106;go_wp2_with (rw[←i.o];go_at_call 107;refine g.o.mono ?_;rintro e w' ⟨rfl,j⟩);go_ret;exact⟨rfl,f.o.trans (j.mono f.o.size)⟩
def GI(n K:Int)(g:Nat)(w:dd)(h:w.cell? ⟨g,0,O⟩=Z (I J K)):dD prog 105 #[I J n,G (Z ⟨g,0,O⟩)] w fun e w'=>e=.returned (.bool (decide (n<K)))∧Bl w w':=by
 go_enter func105,ntmps105;go_wp2;go_ret;exact⟨rfl,cK _ _⟩
def Db(B:Nat)(K:Int)(v:dx)(w:dd):Prop:=∃ g,B≤g∧v=.func (.func 105) #[] #[G (Z ⟨g,0,O⟩)]∧w.heap[g]? =Z (T #[I J K] 3 (0,0))
def GJ(K:Int)(w:dd):dD prog 104 #[I J K] w fun e w'=>∃ v,e=.returned v∧Db w.heap.size K v w'∧Bl w w':=by
 go_enter func104,ntmps104;go_wp2;go_ret;exact⟨_,rfl,⟨w.heap.size,cY _,rfl,de _ _⟩,(cK _ w).alloc (cY _) _⟩
def Hg(B a:Nat)(o:Bool)(v:dx)(w:dd):Prop:=∃ g,B≤g∧v=.func (.func 103) #[] #[G (Z ⟨a,0,O⟩),G (Z ⟨g,0,O⟩)]∧w.heap[g]? =Z (T #[.bool o] 4 (0,0))
def PQ(a:Nat)(o:Bool)(w:dd):dD prog 102 #[.bool o,G (Z ⟨a,0,O⟩)] w fun e w'=>∃ v,e=.returned v∧Hg w.heap.size a o v w'∧Bl w w':=by
 go_enter func102,ntmps102;go_wp2;go_ret;exact⟨_,rfl,⟨w.heap.size,cY _,rfl,de _ _⟩,(cK _ w).alloc (cY _) _⟩
def PO(d:Ad)(c g:Nat)(o:Bool)(n:Int)(B:0≤n)(w:dd)(h:GC w c d)(D:w.cell? ⟨g,0,O⟩=Z (.bool o)):
  dD prog 103 #[I J n,G (Z ⟨c,0,O⟩),G (Z ⟨g,0,O⟩)] w fun e w'=>e=.returned (.bool (decide (n<(d.Ab.length:Int)) && ((d.Ab.getD n.toNat default).o==o)))∧Bl w w':=by
 obtain⟨nm,K,E,L,y,r,v,m,co,s,x,f,F,t,cap,l,A,C,i⟩:=h.blk;simp only[dF,true_and] at l;obtain⟨rfl,rfl⟩:=l;have u:w.cell? ⟨c,8,O⟩=Z (Y m d.Ab.length co):=Cr f;by_cases a:n<(d.Ab.length:Int)
 ·obtain⟨k,rfl⟩:∃ k:Nat,n=k:=⟨n.toNat,by omega⟩;obtain⟨b,q,rfl,z,j⟩:=i (by omega);have c2:w.cell? ⟨b,q+k*6+2,O⟩=Z (.bool (d.Ab.getD k default).o):=j k 2 (by omega) (by decide);rw[decide_eq_true a,eI,Int.toNat_natCast];generalize (d.Ab.getD k default).o=H at c2 ⊢;have p:decide ((k:Int)<(d.Ab.length:Int))=true:=decide_eq_true a;clear j i f h;go_enter func103,ntmps103;go_upto_region 1 with (fail)
  go_quiet (fail)
  go_wp2;go_ret;exact⟨rfl,⟨rfl,rfl,rfl,cY _,fun _ _=>rfl⟩⟩
 ·rw[decide_eq_false a,fr];have p:decide (n<(d.Ab.length:Int))=false:=decide_eq_false a;clear i f h;go_enter func103,ntmps103;go_upto_region 1 with (fail)
  go_quiet (fail)
  go_wp2;go_ret;exact⟨rfl,⟨rfl,rfl,rfl,cY _,fun _ _=>rfl⟩⟩
def VJ(d:Ad)(g s:Nat)(x:Ai)(n:Int)(C:0≤x.a)(w:dd)(l:GC w g d)(A:w.cell? ⟨s,1,O⟩=Z (I J x.a)):
  dD prog 108 #[I J n,G (Z ⟨s,0,O⟩),G (Z ⟨g,0,O⟩)] w fun e w'=>e=.returned (.bool (decide (x.a<(d.Ab.length:Int)) && (decide (1≤n) && decide (n≤(d.Ab.getD x.a.toNat default).size))))∧Bl w w':=by
 obtain⟨nm,X,V,sa,P,E,M,z,co,F,N,h,W,H,cap,v,R,S,m⟩:=l.blk;simp only[dF,true_and] at v;obtain⟨rfl,rfl⟩:=v;have L:w.cell? ⟨g,8,O⟩=Z (Y z d.Ab.length co):=Cr h;by_cases j:x.a<(d.Ab.length:Int)
 ·obtain⟨k,u⟩:∃ k:Nat,x.a=k:=⟨x.a.toNat,by omega⟩;rw[u] at j A ⊢;obtain⟨b,D,rfl,Q,r⟩:=m (by omega);have c3:w.cell? ⟨b,D+k*6+3,O⟩=Z (I J (d.Ab.getD k default).size):=r k 3 (by omega) (by decide);rw[decide_eq_true j,eI,Int.toNat_natCast];generalize (d.Ab.getD k default).size=sz at c3 ⊢;obtain⟨f,c⟩:=ex (w.alloc (T #[I J n] 3));have t:Bl w f:=by rw[c];exact(cK _ w).alloc (cY _) _
  have i:f.heap[w.heap.size]? =Z (T #[I J n] 3 (0,0)):=by rw[c];exact de _ _
  have q:=HH (Oh 1 sz n w.heap.size 1 f (Cr i) (Aa i) (cY _));generalize (decide (1≤n) && decide (n≤sz))=K at q ⊢;obtain⟨p,y⟩:=H2 t c;clear t i c r m h l u C;go_enter func108,ntmps108;go_wp2_with (rw[←y.o];go_at_call 107;refine q.o.mono ?_;rintro e w' ⟨rfl,B⟩);go_ret;exact⟨rfl,p.o.trans (B.mono p.o.size)⟩
 ·rw[decide_eq_false j,fr];clear m h l;go_enter func108,ntmps108;go_wp2_with (fail);go_ret;exact⟨rfl,cK _ _⟩
def MM.Rel.cells{w w' f:dd}(h:MM.Rel w w' f){b:Nat}{c:Array dx}{t:ee}{d:Nat×Nat}(a:w'.heap[b]? =Z (T c t d)):f.heap[b]? =Z (T c t d):=by
 rcases h.block b (Aa a) with g|⟨_,j,i,e⟩
 ·exact g.trans a
 ·rw[a] at e;cases e
def Fs{P:Program}{o:Oper}{A:Act}{f:FuncId}{al:List dx}{a:Array dx}{c:Call}{x:Operand}{b:dx→dd→Prop}(l:o.op=.call c)(i:c.callee=.value x)(m:A.eval x=.func (.func f) #[] a)(g:c.args.toList.map A.eval=al)(d:∀ args w,(eq f args).run P w=.ok (.enter f args) w)
  {w':dd} (h:dD P f (al.toArray++a) w' (fun e n=>∃ v,e=.returned v∧b v n)):Bd P o A w' b:=by
 refine OO (f:=f) (args:=al.toArray++a) (w':=w') ?_ h;have j:Array.map A.eval c.args=al.toArray:=fD (by rw[Array.toList_map,g]);have k:∀ args:Array dx,(e7 (.func (.func f) #[] a) args).run P w'=.ok {target:=.fn (.func f) a,args:=args} w':=fun args=>by
  simp[e7]
 unfold execOp;simp only[l,resolve,i,m,Sem.run_bind,j];rw[k];simp only[Result.andThen_ok,invoke];exact d _ _
def CS{A:Act}{k:Tmp}{v:dx}(h:A.eval (.tmp k)=v):A.tmps[k]?.getD dN=v:=by
 rw[←h];show _=A.tmps.getD k dN;simp
def Db.rel{w w' a:dd}{B:Nat}{K:Int}{v:dx}(h:Db B K v w')(e:MM.Rel w w' a):Db B K v a:=by
 obtain⟨g,b,c,d⟩:=h;exact⟨g,b,c,e.cells d⟩
def Hg.rel{w w' b:dd}{B a:Nat}{o:Bool}{v:dx}(h:Hg B a o v w')(f:MM.Rel w w' b):Hg B a o v b:=by
 obtain⟨g,c,d,e⟩:=h;exact⟨g,c,d,f.cells e⟩
def GM:EG 104:=fun _ _=>by kernel_rfl
def Oy:EG 102:=fun _ _=>by kernel_rfl
def Ij(a f:Nat)(d:Ad)(n:Int)(g b:Option eh)(e c:Nat)(i:Nat)(v:dx)(w:dd):Prop:=
 match i with
 |2=>v=.func (.func 108) #[] #[G (Z ⟨f,0,O⟩),G (Z ⟨a,0,O⟩)]
 |4=>v=.func (.func 104) #[] #[]
 |5=>Db 0 4 v w
 |7=>v=.func (.func 104) #[] #[]
 |8=>Db 0 256 v w
 |10=>v=.func (.func 104) #[] #[]
 |11=>Db 0 256 v w
 |13=>v=.func (.func 104) #[] #[]
 |14=>Db 0 4096 v w
 |16=>v=.func (.func 102) #[] #[G (Z ⟨a,0,O⟩)]
 |17=>Hg 0 a true v w
 |19=>v=.func (.func 102) #[] #[G (Z ⟨a,0,O⟩)]
 |20=>Hg 0 a false v w
 |22=>v=.func (.func 104) #[] #[]
 |23=>v=G (Z ⟨a,4,O⟩)
 |24=>v=Y g d.semas.length e
 |25=>v=I J d.semas.length
 |26=>Db 0 d.semas.length v w
 |28=>v=.func (.func 104) #[] #[]
 |29=>v=G (Z ⟨a,7,O⟩)
 |30=>v=Y b d.bufs.length c
 |31=>v=I J d.bufs.length
 |32=>Db 0 d.bufs.length v w
 |34=>v=.func (.func 104) #[] #[]
 |35=>v=G (Z ⟨a,5,O⟩)
 |36=>v=I J d.events
 |37=>Db 0 d.events v w
 |39=>v=.func (.func 104) #[] #[]
 |40=>v=G (Z ⟨a,6,O⟩)
 |41=>v=I J d.boards
 |42=>Db 0 d.boards v w
 |44=>v=.func (.func 104) #[] #[]
 |45=>v=I J n
 |46=>Db 0 n v w
 | _=>True
def Ij.rel{w w' j:dd}{e f:Nat}{d:Ad}{n:Int}{g a:Option eh}{c b:Nat}(i:Nat)(v:dx)(h:Ij e f d n g a c b i v w')(k:MM.Rel w w' j):Ij e f d n g a c b i v j:=by
 unfold Ij at*;split<;>simp only at h<;>first
  |exact h
  |exact h.rel k
  |trivial
def D8:List (Nat×Int×MM.Src):=[(1,119,.inl (.func (.func 106) #[] #[])),(3,108,.inr 2),(6,114,.inr 5),(9,118,.inr 8),(12,99,.inr 11),(15,97,.inr 14),(18,111,.inr 17),(21,105,.inr 20),(27,115,.inr 26),(33,98,.inr 32),(38,101,.inr 37),(43,100,.inr 42),(47,106,.inr 46)]
def WZ(a:Int)(e:0≤a)(f:a≤255)(i:Nat)(c:i<(lettP a).length):((lettP a).getD i 0).toNat<128∧(((lettP a).getD i 0).toNat:Int)∈([119,108,114,118,99,97,111,105,115,98,101,100,106]:List Int):=by
 by_cases h:1≤a∧a≤25
 ·have d:(dA 26).all (fun k=>(lettP (k:Nat)).all fun b=>decide (b.toNat<128) && decide ((b.toNat:Int)∈([119,108,114,118,99,97,111,105,115,98,101,100,106]:List Int)))=true:=by kernel_rfl
  obtain⟨k,rfl⟩:∃ k:Nat,a=k:=⟨a.toNat,by omega⟩;have:=dL.1 (dL.1 d k (dT.2 (by omega))) ((lettP (k:Nat)).getD i 0) (by rw[cI,cJ c];exact dG c);simpa only[dQ,decide_eq_true_eq] using this
 ·rw[(Pq a h).2] at c;exact absurd c (by simp)
def NS{x:Ai}(b:CJ x=true)(i:Nat)(c:i<(lettP x.op).length):0≤(Dx x).getD i 0:=by
 by_cases a:i<(Dx x).length
 ·refine(Mm b _ ?_).1;rw[cI,cJ a];show(Dx x)[i]∈(Dx x).take _;rw[List.mem_take_iff_getElem];exact⟨i,by omega,rfl⟩
 ·rw[cI,ed (by omega)];exact Int.le_refl _
def N9(d:Ad)(n:Int)(x:Ai)(w:dd)(f:Array MapEntry):Prop:=0≤x.a→∀ c∈([119,108,114,118,99,97,111,105,115,98,101,100,106]:List Int),
 ∃ p F b,fq (.int .i32) (I .i32 c) f.toList 0=Z (Z (p,.func (.func F) #[] b))∧(∀ args w,(eq F args).run prog w=.ok (.enter F args) w)∧
  ∀ W v,Bl w W→0≤v→dD prog F (#[I J v]++b) W fun e w'=>e=.returned (.bool (BD d n x.a c v))∧Bl W w'
def Jk(d:Ad)(n:Int)(x:Ai)(i:Nat):Bool:=BD d n x.a (((lettP x.op).getD i 0).toNat:Int) ((Dx x).getD i 0)
def Eh(d:Ad)(n:Int)(x:Ai):Bool:=CJ x && (dA (lettP x.op).length).all (Jk d n x)
def WW(d:Ad)(n a v:Int):BD d n a 119 v=(decide (1≤v) && decide (v≤2000)):=by simp[BD]
def WT(d:Ad)(n a v:Int):BD d n a 108 v=(decide (a<(d.Ab.length:Int)) && (decide (1≤v) && decide (v≤(d.Ab.getD a.toNat default).size))):=by simp[BD]
def WU(d:Ad)(n a v:Int):BD d n a 114 v=(decide (v<4)):=by simp[BD]
def WV(d:Ad)(n a v:Int):BD d n a 118 v=(decide (v<256)):=by simp[BD]
def WY(d:Ad)(n a v:Int):BD d n a 99 v=(decide (v<256)):=by simp[BD]
def WX(d:Ad)(n a v:Int):BD d n a 97 v=(decide (v<4096)):=by simp[BD]
def Pn(d:Ad)(n a v:Int):BD d n a 111 v=(decide (v<(d.Ab.length:Int)) && ((d.Ab.getD v.toNat default).o==true)):=by simp[BD]
def Pm(d:Ad)(n a v:Int):BD d n a 105 v=(decide (v<(d.Ab.length:Int)) && ((d.Ab.getD v.toNat default).o==false)):=by simp[BD]
def Po(d:Ad)(n a v:Int):BD d n a 115 v=(decide (v<(d.semas.length:Int))):=by simp[BD]
def Pp(d:Ad)(n a v:Int):BD d n a 98 v=(decide (v<(d.bufs.length:Int))):=by simp[BD]
def Pk(d:Ad)(n a v:Int):BD d n a 101 v=(decide (v<d.events)):=by simp[BD]
def Pj(d:Ad)(n a v:Int):BD d n a 100 v=(decide (v<d.boards)):=by simp[BD]
def WS(d:Ad)(n a v:Int):BD d n a 106 v=(decide (v<n)):=by simp[BD]
def GN:EG 105:=fun _ _=>by kernel_rfl
def Oz:EG 103:=fun _ _=>by kernel_rfl
def Tt:EG 106:=fun _ _=>by kernel_rfl
def Ts:EG 108:=fun _ _=>by kernel_rfl
def VK{d:Ad}{n:Int}{x:Ai}{k:dd}{t:Array MapEntry}{vs:Nat→dx}{q r:Nat}{C y:Option eh}{A z:Nat}(o:∀ i,i<48→Ij q r d n C y A z i (vs i) k)
  (m:∀ e∈D8,∃ p,fq (.int .i32) (I .i32 e.2.1) t.toList 0=Z (Z (p,MM.srcV vs e.2.2))) (s:GC k q d) (w:k.heap[r]? =Z (T #[I U x.op,I J x.a,I J x.b,I J x.c] 64 (0,0))):N9 d n x k t:=by
 intro B c u;simp only[dO,dK,or_false] at u;rcases u with rfl|rfl|rfl|rfl|rfl|rfl|rfl|rfl|rfl|rfl|rfl|rfl|rfl
 ·obtain⟨p,f⟩:=m (1,119,.inl (.func (.func 106) #[] #[])) (by simp[D8]);refine⟨p,_,_,f,Tt,fun W v j l=>?_⟩;rw[WW];exact VN v W
 ·obtain⟨p,f⟩:=m (3,108,.inr 2) (by simp[D8]);have e:vs 2=.func (.func 108) #[] #[G (Z ⟨r,0,O⟩),G (Z ⟨q,0,O⟩)]:=o 2 (by decide);rw[show MM.srcV vs (.inr 2)=vs 2 from rfl,e] at f;refine⟨p,_,_,f,Ts,fun W v j l=>?_⟩;rw[WT];exact VJ d q r x v B W (s.below j) (Cr ((j.block _ (Aa w)).trans w))
 ·obtain⟨p,f⟩:=m (6,114,.inr 5) (by simp[D8]);obtain⟨g,_,e,h⟩:Db 0 4 (vs 5) k:=o 5 (by decide);rw[show MM.srcV vs (.inr 5)=vs 5 from rfl,e] at f;refine⟨p,_,_,f,GN,fun W v j l=>?_⟩;rw[WU];exact GI v _ g W (Cr ((j.block _ (Aa h)).trans h))
 ·obtain⟨p,f⟩:=m (9,118,.inr 8) (by simp[D8]);obtain⟨g,_,e,h⟩:Db 0 256 (vs 8) k:=o 8 (by decide);rw[show MM.srcV vs (.inr 8)=vs 8 from rfl,e] at f;refine⟨p,_,_,f,GN,fun W v j l=>?_⟩;rw[WV];exact GI v _ g W (Cr ((j.block _ (Aa h)).trans h))
 ·obtain⟨p,f⟩:=m (12,99,.inr 11) (by simp[D8]);obtain⟨g,_,e,h⟩:Db 0 256 (vs 11) k:=o 11 (by decide);rw[show MM.srcV vs (.inr 11)=vs 11 from rfl,e] at f;refine⟨p,_,_,f,GN,fun W v j l=>?_⟩;rw[WY];exact GI v _ g W (Cr ((j.block _ (Aa h)).trans h))
 ·obtain⟨p,f⟩:=m (15,97,.inr 14) (by simp[D8]);obtain⟨g,_,e,h⟩:Db 0 4096 (vs 14) k:=o 14 (by decide);rw[show MM.srcV vs (.inr 14)=vs 14 from rfl,e] at f;refine⟨p,_,_,f,GN,fun W v j l=>?_⟩;rw[WX];exact GI v _ g W (Cr ((j.block _ (Aa h)).trans h))
 ·obtain⟨p,f⟩:=m (18,111,.inr 17) (by simp[D8]);obtain⟨g,_,e,h⟩:Hg 0 q true (vs 17) k:=o 17 (by decide);rw[show MM.srcV vs (.inr 17)=vs 17 from rfl,e] at f;refine⟨p,_,_,f,Oz,fun W v j l=>?_⟩;rw[Pn];exact PO d q g true v l W (s.below j) (Cr ((j.block _ (Aa h)).trans h))
 ·obtain⟨p,f⟩:=m (21,105,.inr 20) (by simp[D8]);obtain⟨g,_,e,h⟩:Hg 0 q false (vs 20) k:=o 20 (by decide);rw[show MM.srcV vs (.inr 20)=vs 20 from rfl,e] at f;refine⟨p,_,_,f,Oz,fun W v j l=>?_⟩;rw[Pm];exact PO d q g false v l W (s.below j) (Cr ((j.block _ (Aa h)).trans h))
 ·obtain⟨p,f⟩:=m (27,115,.inr 26) (by simp[D8]);obtain⟨g,_,e,h⟩:Db 0 d.semas.length (vs 26) k:=o 26 (by decide);rw[show MM.srcV vs (.inr 26)=vs 26 from rfl,e] at f;refine⟨p,_,_,f,GN,fun W v j l=>?_⟩;rw[Po];exact GI v _ g W (Cr ((j.block _ (Aa h)).trans h))
 ·obtain⟨p,f⟩:=m (33,98,.inr 32) (by simp[D8]);obtain⟨g,_,e,h⟩:Db 0 d.bufs.length (vs 32) k:=o 32 (by decide);rw[show MM.srcV vs (.inr 32)=vs 32 from rfl,e] at f;refine⟨p,_,_,f,GN,fun W v j l=>?_⟩;rw[Pp];exact GI v _ g W (Cr ((j.block _ (Aa h)).trans h))
 ·obtain⟨p,f⟩:=m (38,101,.inr 37) (by simp[D8]);obtain⟨g,_,e,h⟩:Db 0 d.events (vs 37) k:=o 37 (by decide);rw[show MM.srcV vs (.inr 37)=vs 37 from rfl,e] at f;refine⟨p,_,_,f,GN,fun W v j l=>?_⟩;rw[Pk];exact GI v _ g W (Cr ((j.block _ (Aa h)).trans h))
 ·obtain⟨p,f⟩:=m (43,100,.inr 42) (by simp[D8]);obtain⟨g,_,e,h⟩:Db 0 d.boards (vs 42) k:=o 42 (by decide);rw[show MM.srcV vs (.inr 42)=vs 42 from rfl,e] at f;refine⟨p,_,_,f,GN,fun W v j l=>?_⟩;rw[Pj];exact GI v _ g W (Cr ((j.block _ (Aa h)).trans h))
 ·obtain⟨p,f⟩:=m (47,106,.inr 46) (by simp[D8]);obtain⟨g,_,e,h⟩:Db 0 n (vs 46) k:=o 46 (by decide);rw[show MM.srcV vs (.inr 46)=vs 46 from rfl,e] at f;refine⟨p,_,_,f,GN,fun W v j l=>?_⟩;rw[WS];exact GI v _ g W (Cr ((j.block _ (Aa h)).trans h))
def Rd(d:Ad)(n:Int)(x:Ai)(nm:ByteArray)(pe le:Int)(sa S ao ac:Option eh)(X V co cc:Nat)(h0:0≤x.op)(h1:x.op≤255)(w:dd)(bW:Ex w (Y ao d.Ab.length co) d.Ab)(bq:Ce w)(bH:16≤w.heap.size):
  dD prog 62 #[.agg #[.string nm,I J pe,I J le,I J d.mem,Y sa d.semas.length X,I J d.events,I J d.boards,Y S d.bufs.length V,Y ao d.Ab.length co,Y ac d.procs.length cc],I J n,.agg #[I U x.op,I J x.a,I J x.b,I J x.c]] w fun e w'=>e=.returned (.bool (Eh d n x))∧Bl w w':=by
 obtain⟨D,hW⟩:=ex ((w.alloc (T #[.string nm,I J pe,I J le,I J d.mem,Y sa d.semas.length X,I J d.events,I J d.boards,Y S d.bufs.length V,Y ao d.Ab.length co,Y ac d.procs.length cc] 26)).alloc (T #[I U x.op,I J x.a,I J x.b,I J x.c] 64));have aB:Bl w D:=by rw[hW];exact DX w _ _
 have aY:D.heap[w.heap.size]? =Z (T #[.string nm,I J pe,I J le,I J d.mem,Y sa d.semas.length X,I J d.events,I J d.boards,Y S d.bufs.length V,Y ao d.Ab.length co,Y ac d.procs.length cc] 26 (0,0)):=by rw[hW];exact(Da w _ _).1
 have aZ:D.heap[w.heap.size+1]? =Z (T #[I U x.op,I J x.a,I J x.b,I J x.c] 64 (0,0)):=by rw[hW];exact(Da w _ _).2
 have a9:16≤D.heap.size:=by have:=aB.size;omega
 have G1:=bq.below bH aB;have bb:GC D w.heap.size d:=⟨_,_,_,_,_,_,_,_,_,_,_,aY,bW.below aB⟩;obtain⟨m,af⟩:=ex w.heap.size;obtain⟨Q,bi⟩:=ex (w.heap.size+1);rw[←af] at aY bb;rw[←bi] at aZ;obtain⟨HW,aF,bw,am,b8,b9,br,b7,cf⟩:=H9 hW aB aY aZ af bi a9 G1 bb;have H0:Hq (0≤x.op∧x.op≤255):=⟨h0,h1⟩;obtain⟨y0,y1,y2,y3⟩:=r4 aZ;obtain⟨W2,aP⟩:=ex (D.alloc (T #[I U x.op,I J x.a,I J x.b,I J x.c] 64));have aT:Bl D W2:=by rw[aP];exact(cK _ D).alloc (cY _) _
 have bP:W2.heap[D.heap.size]? =Z (T #[I U x.op,I J x.a,I J x.b,I J x.c] 64 (0,0)):=by rw[aP];exact de _ _
 obtain⟨bB,aH,aI⟩:=H3 aP aT (QU x h0 h1 D.heap.size W2 bP (G1.below a9 aT) (by have:=aT.size;omega));clear hW aB aY aZ af bi a9 G1 bb aP aT bP bq bH bW h0 h1;go_enter func62,ntmps62;go_upto_region 1 with (fail);rw[←HW.o,←b9.o,←b8.o];cases hf:CJ x with
 |false=>
  have HF:=HH hf;rw[hf] at aI;clear hf;go_wp2_with (rw[←bB.o];go_at_call 101;refine aI.o.mono ?_;rintro e w3 ⟨⟨s,rfl⟩,aU⟩);go_ret;refine⟨?_,aF.o.trans ((aH.o.trans (aU.mono aH.o.size)).mono aF.o.size)⟩;rw[Eh,HF.o];rfl
 |true=>
  have HF:=HH hf;rw[hf] at aI;clear hf;go_upto_region 6 with (rw[←bB.o];go_at_call 101;refine aI.o.mono ?_;rintro e w3 ⟨⟨s,rfl⟩,aU⟩);have aL:Bl D w3:=aH.o.trans (aU.mono aH.o.size);have bM:∀ w',Bl w3 w'→w'.heap[m]? =Z (T #[.string nm,I J pe,I J le,I J d.mem,Y sa d.semas.length X,I J d.events,I J d.boards,Y S d.bufs.length V,Y ao d.Ab.length co,Y ac d.procs.length cc] 26 (0,0)):=fun w' C=>((aL.trans (C.mono aL.size)).block _ (Aa bw.o)).trans bw.o;obtain⟨aw,b5⟩:=H2 aL bM;clear aU aL bM;refine MM.ZN 48 0 24 .i32 176 _ _ D8 (Ij m Q d n sa S X V) (by kernel_rfl) (by kernel_rfl) (by kernel_rfl) underlying176 underlying21 rfl (by decide) ⟨_,rfl,rfl⟩ ?hK (by decide) (by decide) ?hFf (fun i v w' cZ h hr=>Ij.rel i v h hr) ?hoth ?hend
  case hK=>
   intro e u;simp only[D8,dO,dK,or_false] at u;rcases u with rfl|rfl|rfl|rfl|rfl|rfl|rfl|rfl|rfl|rfl|rfl|rfl|rfl
   ·exact⟨_,_,⟨rfl,by decide,rfl,rfl,by kernel_rfl,fun A=>rfl⟩⟩
   all_goals exact⟨_,_,⟨rfl,by decide,rfl,rfl,by kernel_rfl,⟨_,rfl,rfl,by kernel_rfl⟩⟩⟩
  case hFf=>
   rintro i v w' (rfl|hi)
   ·trivial
   ·simp only[D8,eR,eW,dO,dK,or_false] at hi;rcases hi with rfl|rfl|rfl|rfl|rfl|rfl|rfl|rfl|rfl|rfl|rfl|rfl|rfl<;>trivial
  case hoth=>
   intro i o l hi cV cO A w' C t hO;simp only[D8,eR,eW,dO,dK,or_false,not_or] at cO;have af:=b5.o w' C;have e1:A.eval (.tmp 1)=I J n:=hO 1 (of_decide_eq_true (by kernel_rfl));have e3:A.eval (.tmp 3)=G (Z ⟨m,0,O⟩):=hO 3 (of_decide_eq_true (by kernel_rfl));have e5:A.eval (.tmp 5)=G (Z ⟨Q,0,O⟩):=hO 5 (of_decide_eq_true (by kernel_rfl));have e9:A.eval (.tmp 9)=.func (.func 102) #[] #[G (Z ⟨m,0,O⟩)]:=hO 9 (of_decide_eq_true (by kernel_rfl));have aa:A.eval (.tmp 10)=.func (.func 104) #[] #[]:=hO 10 (of_decide_eq_true (by kernel_rfl));have cN:i=2∨i=4∨i=5∨i=7∨i=8∨i=10∨i=11∨i=13∨i=14∨i=16∨i=17∨i=19∨i=20∨i=22∨i=23∨i=24∨i=25∨i=26∨i=28∨i=29∨i=30∨i=31∨i=32∨i=34∨i=35∨i=36∨i=37∨i=39∨i=40∨i=41∨i=42∨i=44∨i=45∨i=46:=by omega
   clear hO;rcases cN with rfl|rfl|rfl|rfl|rfl|rfl|rfl|rfl|rfl|rfl|rfl|rfl|rfl|rfl|rfl|rfl|rfl|rfl|rfl|rfl|rfl|rfl|rfl|rfl|rfl|rfl|rfl|rfl|rfl|rfl|rfl|rfl|rfl|rfl
   ·obtain rfl:_=o:=dc l;exact Bn (v:=.func (.func 108) #[] #[G (Z ⟨Q,0,O⟩),G (Z ⟨m,0,O⟩)]) (w':=w') (by simp[execOp,go_sem,CS e5,CS e3]) ⟨cK _ _,rfl⟩
   ·obtain rfl:_=o:=dc l;exact Bn (v:=.func (.func 104) #[] #[]) (w':=w') (by simp[execOp,go_sem,CS aa]) ⟨cK _ _,rfl⟩
   ·obtain rfl:_=o:=dc l;have cj:A.eval (.tmp 26)=.func (.func 104) #[] #[]:=t 4 26 rfl (by decide) (.base (by kernel_rfl));refine Fs (f:=104) (al:=[I J (4)]) rfl rfl cj rfl GM ?_;exact(GJ (4) w').mono fun e M h=>by
     obtain⟨v,u,⟨g,_,r,y⟩,z⟩:=h;exact⟨v,u,z,g,dE _,r,y⟩
   ·obtain rfl:_=o:=dc l;exact Bn (v:=.func (.func 104) #[] #[]) (w':=w') (by simp[execOp,go_sem,CS aa]) ⟨cK _ _,rfl⟩
   ·obtain rfl:_=o:=dc l;have ck:A.eval (.tmp 28)=.func (.func 104) #[] #[]:=t 7 28 rfl (by decide) (.base (by kernel_rfl));refine Fs (f:=104) (al:=[I J (256)]) rfl rfl ck rfl GM ?_;exact(GJ (256) w').mono fun e M h=>by
     obtain⟨v,u,⟨g,_,r,y⟩,z⟩:=h;exact⟨v,u,z,g,dE _,r,y⟩
   ·obtain rfl:_=o:=dc l;exact Bn (v:=.func (.func 104) #[] #[]) (w':=w') (by simp[execOp,go_sem,CS aa]) ⟨cK _ _,rfl⟩
   ·obtain rfl:_=o:=dc l;have cl:A.eval (.tmp 30)=.func (.func 104) #[] #[]:=t 10 30 rfl (by decide) (.base (by kernel_rfl));refine Fs (f:=104) (al:=[I J (256)]) rfl rfl cl rfl GM ?_;exact(GJ (256) w').mono fun e M h=>by
     obtain⟨v,u,⟨g,_,r,y⟩,z⟩:=h;exact⟨v,u,z,g,dE _,r,y⟩
   ·obtain rfl:_=o:=dc l;exact Bn (v:=.func (.func 104) #[] #[]) (w':=w') (by simp[execOp,go_sem,CS aa]) ⟨cK _ _,rfl⟩
   ·obtain rfl:_=o:=dc l;have cm:A.eval (.tmp 32)=.func (.func 104) #[] #[]:=t 13 32 rfl (by decide) (.base (by kernel_rfl));refine Fs (f:=104) (al:=[I J (4096)]) rfl rfl cm rfl GM ?_;exact(GJ (4096) w').mono fun e M h=>by
     obtain⟨v,u,⟨g,_,r,y⟩,z⟩:=h;exact⟨v,u,z,g,dE _,r,y⟩
   ·obtain rfl:_=o:=dc l;exact Bn (v:=.func (.func 102) #[] #[G (Z ⟨m,0,O⟩)]) (w':=w') (by simp[execOp,go_sem,CS e9]) ⟨cK _ _,rfl⟩
   ·obtain rfl:_=o:=dc l;have cn:A.eval (.tmp 34)=.func (.func 102) #[] #[G (Z ⟨m,0,O⟩)]:=t 16 34 rfl (by decide) (.base (by kernel_rfl));refine Fs (f:=102) (al:=[.bool true]) rfl rfl cn rfl Oy ?_;exact(PQ m true w').mono fun e M h=>by
     obtain⟨v,u,⟨g,_,r,y⟩,z⟩:=h;exact⟨v,u,z,g,dE _,r,y⟩
   ·obtain rfl:_=o:=dc l;exact Bn (v:=.func (.func 102) #[] #[G (Z ⟨m,0,O⟩)]) (w':=w') (by simp[execOp,go_sem,CS e9]) ⟨cK _ _,rfl⟩
   ·obtain rfl:_=o:=dc l;have cp:A.eval (.tmp 36)=.func (.func 102) #[] #[G (Z ⟨m,0,O⟩)]:=t 19 36 rfl (by decide) (.base (by kernel_rfl));refine Fs (f:=102) (al:=[.bool false]) rfl rfl cp rfl Oy ?_;exact(PQ m false w').mono fun e M h=>by
     obtain⟨v,u,⟨g,_,r,y⟩,z⟩:=h;exact⟨v,u,z,g,dE _,r,y⟩
   ·obtain rfl:_=o:=dc l;exact Bn (v:=.func (.func 104) #[] #[]) (w':=w') (by simp[execOp,go_sem,CS aa]) ⟨cK _ _,rfl⟩
   ·obtain rfl:_=o:=dc l;exact Bn (v:=G (Z ⟨m,4,O⟩)) (w':=w') (by simp[execOp,go_sem,CS e3]) ⟨cK _ _,rfl⟩
   ·obtain rfl:_=o:=dc l;have cr:A.eval (.tmp 39)=G (Z ⟨m,4,O⟩):=t 23 39 rfl (by decide) (.base (by kernel_rfl));have L:w'.cell? ⟨m,4,O⟩=Z (Y sa d.semas.length X):=Cr af;exact Bn (v:=Y sa d.semas.length X) (w':=w') (by simp[execOp,go_sem,CS cr,L]) ⟨cK _ _,rfl⟩
   ·obtain rfl:_=o:=dc l;have ct:A.eval (.tmp 40)=Y sa d.semas.length X:=t 24 40 rfl (by decide) (.base (by kernel_rfl));exact Bn (v:=I J d.semas.length) (w':=w') (by simp[execOp,go_sem,CS ct]) ⟨cK _ _,rfl⟩
   ·obtain rfl:_=o:=dc l;have cq:A.eval (.tmp 38)=.func (.func 104) #[] #[]:=t 22 38 rfl (by decide) (.base (by kernel_rfl));have cu:A.eval (.tmp 41)=I J d.semas.length:=t 25 41 rfl (by decide) (.base (by kernel_rfl));refine Fs (f:=104) (al:=[I J (d.semas.length)]) rfl rfl cq (by simp;exact cu) GM ?_;exact(GJ (d.semas.length) w').mono fun e M h=>by
     obtain⟨v,u,⟨g,_,r,y⟩,z⟩:=h;exact⟨v,u,z,g,dE _,r,y⟩
   ·obtain rfl:_=o:=dc l;exact Bn (v:=.func (.func 104) #[] #[]) (w':=w') (by simp[execOp,go_sem,CS aa]) ⟨cK _ _,rfl⟩
   ·obtain rfl:_=o:=dc l;exact Bn (v:=G (Z ⟨m,7,O⟩)) (w':=w') (by simp[execOp,go_sem,CS e3]) ⟨cK _ _,rfl⟩
   ·obtain rfl:_=o:=dc l;have cw:A.eval (.tmp 44)=G (Z ⟨m,7,O⟩):=t 29 44 rfl (by decide) (.base (by kernel_rfl));have L:w'.cell? ⟨m,7,O⟩=Z (Y S d.bufs.length V):=Cr af;exact Bn (v:=Y S d.bufs.length V) (w':=w') (by simp[execOp,go_sem,CS cw,L]) ⟨cK _ _,rfl⟩
   ·obtain rfl:_=o:=dc l;have cx:A.eval (.tmp 45)=Y S d.bufs.length V:=t 30 45 rfl (by decide) (.base (by kernel_rfl));exact Bn (v:=I J d.bufs.length) (w':=w') (by simp[execOp,go_sem,CS cx]) ⟨cK _ _,rfl⟩
   ·obtain rfl:_=o:=dc l;have cv:A.eval (.tmp 43)=.func (.func 104) #[] #[]:=t 28 43 rfl (by decide) (.base (by kernel_rfl));have cy:A.eval (.tmp 46)=I J d.bufs.length:=t 31 46 rfl (by decide) (.base (by kernel_rfl));refine Fs (f:=104) (al:=[I J (d.bufs.length)]) rfl rfl cv (by simp;exact cy) GM ?_;exact(GJ (d.bufs.length) w').mono fun e M h=>by
     obtain⟨v,u,⟨g,_,r,y⟩,z⟩:=h;exact⟨v,u,z,g,dE _,r,y⟩
   ·obtain rfl:_=o:=dc l;exact Bn (v:=.func (.func 104) #[] #[]) (w':=w') (by simp[execOp,go_sem,CS aa]) ⟨cK _ _,rfl⟩
   ·obtain rfl:_=o:=dc l;exact Bn (v:=G (Z ⟨m,5,O⟩)) (w':=w') (by simp[execOp,go_sem,CS e3]) ⟨cK _ _,rfl⟩
   ·obtain rfl:_=o:=dc l;have cA:A.eval (.tmp 49)=G (Z ⟨m,5,O⟩):=t 35 49 rfl (by decide) (.base (by kernel_rfl));have L:w'.cell? ⟨m,5,O⟩=Z (I J d.events):=Cr af;exact Bn (v:=I J d.events) (w':=w') (by simp[execOp,go_sem,CS cA,L]) ⟨cK _ _,rfl⟩
   ·obtain rfl:_=o:=dc l;have cz:A.eval (.tmp 48)=.func (.func 104) #[] #[]:=t 34 48 rfl (by decide) (.base (by kernel_rfl));have cB:A.eval (.tmp 50)=I J d.events:=t 36 50 rfl (by decide) (.base (by kernel_rfl));refine Fs (f:=104) (al:=[I J (d.events)]) rfl rfl cz (by simp;exact cB) GM ?_;exact(GJ (d.events) w').mono fun e M h=>by
     obtain⟨v,u,⟨g,_,r,y⟩,z⟩:=h;exact⟨v,u,z,g,dE _,r,y⟩
   ·obtain rfl:_=o:=dc l;exact Bn (v:=.func (.func 104) #[] #[]) (w':=w') (by simp[execOp,go_sem,CS aa]) ⟨cK _ _,rfl⟩
   ·obtain rfl:_=o:=dc l;exact Bn (v:=G (Z ⟨m,6,O⟩)) (w':=w') (by simp[execOp,go_sem,CS e3]) ⟨cK _ _,rfl⟩
   ·obtain rfl:_=o:=dc l;have cD:A.eval (.tmp 53)=G (Z ⟨m,6,O⟩):=t 40 53 rfl (by decide) (.base (by kernel_rfl));have L:w'.cell? ⟨m,6,O⟩=Z (I J d.boards):=Cr af;exact Bn (v:=I J d.boards) (w':=w') (by simp[execOp,go_sem,CS cD,L]) ⟨cK _ _,rfl⟩
   ·obtain rfl:_=o:=dc l;have cC:A.eval (.tmp 52)=.func (.func 104) #[] #[]:=t 39 52 rfl (by decide) (.base (by kernel_rfl));have cE:A.eval (.tmp 54)=I J d.boards:=t 41 54 rfl (by decide) (.base (by kernel_rfl));refine Fs (f:=104) (al:=[I J (d.boards)]) rfl rfl cC (by simp;exact cE) GM ?_;exact(GJ (d.boards) w').mono fun e M h=>by
     obtain⟨v,u,⟨g,_,r,y⟩,z⟩:=h;exact⟨v,u,z,g,dE _,r,y⟩
   ·obtain rfl:_=o:=dc l;exact Bn (v:=.func (.func 104) #[] #[]) (w':=w') (by simp[execOp,go_sem,CS aa]) ⟨cK _ _,rfl⟩
   ·obtain rfl:_=o:=dc l;exact Bn (v:=I J n) (w':=w') (by simp[execOp,go_sem,CS e1]) ⟨cK _ _,rfl⟩
   ·obtain rfl:_=o:=dc l;have cF:A.eval (.tmp 56)=.func (.func 104) #[] #[]:=t 44 56 rfl (by decide) (.base (by kernel_rfl));have cG:A.eval (.tmp 57)=I J n:=t 45 57 rfl (by decide) (.base (by kernel_rfl));refine Fs (f:=104) (al:=[I J (n)]) rfl rfl cF (by simp;exact cG) GM ?_;exact(GJ (n) w').mono fun e M h=>by
     obtain⟨v,u,⟨g,_,r,y⟩,z⟩:=h;exact⟨v,u,z,g,dE _,r,y⟩
  case hend=>
   intro vs H b0 es cH aV hF bT cM bU bN;rw[show Ar _ vs _ 48=(⟨#[.agg #[.string nm,I J pe,I J le,I J d.mem,Y sa d.semas.length X,I J d.events,I J d.boards,Y S d.bufs.length V,Y ao d.Ab.length co,Y ac d.procs.length cc],I J n,.agg #[I U x.op,I J x.a,I J x.b,I J x.c],G (Z ⟨m,0,O⟩),dN,G (Z ⟨Q,0,O⟩),.bool false,.string s,I J 0,.func (.func 102) #[] #[G (Z ⟨m,0,O⟩)],.func (.func 104) #[] #[],dN,dN,dN,dN,.tuple #[.string s,I J 0],.agg #[I U x.op,I J x.a,I J x.b,I J x.c],Y (Z ⟨D.heap.size,0,O⟩) 1 1,.tuple #[.string s,I J 0],.string s,I J 0,I J 0,.bool false,.func (.func 102) #[] #[G (Z ⟨m,0,O⟩)],vs 0,vs 2,vs 4,vs 5,vs 7,vs 8,vs 10,vs 11,vs 13,vs 14,vs 16,vs 17,vs 19,vs 20,vs 22,vs 23,vs 24,vs 25,vs 26,vs 28,vs 29,vs 30,vs 31,vs 32,vs 34,vs 35,vs 36,vs 37,vs 39,vs 40,vs 41,vs 42,vs 44,vs 45,vs 46,dN,dN,dN,dN,dN,dN,dN,dN,dN,dN,dN,dN,dN,dN,dN,dN,dN,dN,dN,dN,dN,dN,dN,dN],[]⟩:Act) from by kernel_rfl,bT];have bK:N9 d n x H es:=VK hF bN ((cf.o.below aw.o).below aV) ((aV.block _ (dC (Aa am.o) aw.o.size)).trans ((aw.o.block _ (Aa am.o)).trans am.o));obtain⟨ce,bx⟩:=H2 bK bU;have aj:Hq (Bl D H):=aw.o.trans (aV.mono aw.o.size);obtain⟨y0,y1,y2,y3⟩:H.cell? ⟨Q,0,O⟩=Z (I U x.op)∧H.cell? ⟨Q,1,O⟩=Z (I J x.a)∧H.cell? ⟨Q,2,O⟩=Z (I J x.b)∧H.cell? ⟨Q,3,O⟩=Z (I J x.c):=by
    have hk:=(aj.o.block _ (Aa am.o)).trans am.o;exact⟨Cr hk,Cr hk,Cr hk,Cr hk⟩
   clear hF bN bT cM bU bK aV;simp only[dM,dV];go_upto_region 8 with (fail);obtain⟨ae,aO⟩:=ex (H.alloc (T #[I J x.a,I J x.b,I J x.c] 177));rw[←aO];have aS:Bl H ae:=by rw[aO];exact(cK _ H).alloc (cY _) _
   have bQ:ae.heap[H.heap.size]? =Z (T #[I J x.a,I J x.b,I J x.c] 177 (0,0)):=by rw[aO];exact de _ _
   obtain⟨aJ,aG⟩:=H2 bQ aS;have ba:Bl D ae:=aj.o.trans (aS.mono aj.o.size);have bz:=HH (Lg x.op H0.o.1 H0.o.2 ae (b7.o.below br.o ba) (by have h1:=ba.size;have r:=br.o;omega));obtain⟨B,bk⟩:∃ s:ByteArray,s=⟨(lettP x.op).toArray⟩:=⟨_,rfl⟩;rw[←bk] at bz;have a4:=HH bk;obtain⟨gv,bh⟩:=ex H.heap.size;rw[←bh] at aJ ⊢;have cT:=HH bh;have z0:ae.cell? ⟨Q,0,O⟩=Z (I U x.op):=(aS.cell (p:=⟨Q,0,O⟩) (dC (Aa am.o) aj.o.size)).trans y0;clear aO aS bQ ba bk bh y0 y1 y2 y3;go_wp2_with (go_at_call 109;refine bz.o.mono ?_;rintro e E ⟨rfl,bL⟩);have ai:=HH bL;have bC:Hq (∀ {W},Bl E W→Bl w W):=fun C=>by
    have h1:Bl ae _:=ai.o.trans (C.mono ai.o.size);have r:Bl H _:=aG.o.trans (h1.mono aG.o.size);have y:Bl D _:=aj.o.trans (r.mono aj.o.size);exact aF.o.trans (y.mono aF.o.size)
   clear bL
   go_loopg [13,14] B.size (fun gg _ _ wr=>∃ k:Nat,k≤B.size∧B.size-k≤gg∧Hq (wr.heap[E.heap.size]? =Z (.stringIter B k)∧Bl E wr∧∀ j,j<k→Jk d n x j=true))
   case atStart=>exact⟨0,dE _,by omega,World.iter_heap E B 0,(cK _ E).alloc (cY _) _,fun j hj=>absurd hj (dS _)⟩
   case round=>
    obtain⟨k,cX,cU,A⟩:=hrel;obtain⟨hit,ar,aR⟩:=A.o;have bI:Bl ae wr:=ai.o.trans (ar.mono ai.o.size);by_cases R:k<B.size
    ·have bX:(⟨(lettP x.op).toArray⟩:ByteArray).size=(lettP x.op).length:=by show(lettP x.op).toArray.size=_;simp
     have aC:k<(lettP x.op).length:=by rw[←bX,←a4.o];exact R
     have cL:=MD x.op H0.o.1 H0.o.2;obtain⟨bS,bV⟩:=WZ x.op H0.o.1 H0.o.2 k aC;have bd:B[k]'R=(lettP x.op).getD k 0:=by
      have:∀ (s:ByteArray) (hs:s=⟨(lettP x.op).toArray⟩) (h:k<s.size),s[k]'h=(lettP x.op).getD k 0:=by
       rintro s rfl h;rw[cI,cJ aC];rfl
      exact this B a4.o R
     have bY:0≤x.a:=NS HF.o 0 (by omega);have bn:0≤(Dx x).getD k 0:=NS HF.o k aC;obtain⟨p,F,aK,bg,eg,be⟩:=ce.o bY _ bV;obtain⟨c,L⟩:∃ c:Int,c=(((lettP x.op).getD k 0).toNat:Int):=⟨_,rfl⟩;rw[←L] at bg be;obtain⟨q,hq⟩:=ex (BD d n x.a c ((Dx x).getD k 0));have HQ:Hq (Jk d n x k=q):=by show _=_;rw[hq,L];rfl
     have bm:∀ ty,(fB (G (Z ⟨E.heap.size,0,O⟩)) true ty).run prog wr=.ok (.tuple #[.bool true,I J k,I .i32 c]) (wr.iterAt E.heap.size B (k+1)):=fun ty=>by
      have:=Lib.run_next_ascii_at (P:=prog) wr E.heap.size B k ty hit R (by rw[bd];exact bS);rw[bd,←L] at this;exact this
     obtain⟨N,aQ⟩:=ex (wr.iterAt E.heap.size B (k+1));rw[←aQ] at bm;have bu:Hq (N.heap[E.heap.size]? =Z (.stringIter B (k+1))):=by show _=_;rw[aQ];exact Lib.iterAt_heap wr _ B k (k+1) hit
     have a3:Hq (Bl E N):=by show fp _ _ _;rw[aQ];exact Lib.below_iterAt ar (cY _) B (k+1)
     have aM:Bl ae N:=ai.o.trans (a3.o.mono ai.o.size);have aN:Bl H N:=aG.o.trans (aM.mono aG.o.size);have bO:gv<N.heap.size:=dC (Aa aJ.o) aM.size;have bR:N.heap[gv]? =Z (T #[I J x.a,I J x.b,I J x.c] 177 (0,0)):=(aM.block _ (Aa aJ.o)).trans aJ.o;have bl:N.heap[b0]? =Z (.map es cH):=(aN.block _ (eu.1 bx.o).1).trans bx.o;have bf:N.cell? ⟨gv,k,O⟩=Z (I J ((Dx x).getD k 0)):=by
      rw[Cr bR];rcases(show k=0∨k=1∨k=2 by omega) with rfl|rfl|rfl<;>rfl
     obtain⟨v,hv⟩:=ex ((Dx x).getD k 0);rw[←hv] at bf bn hq;have zv:=qC bf bO;have b4:Hq (∀ W,Bl N W→dD prog F (#[I J v]++aK) W fun e w'=>e=.returned (.bool q)∧Bl W w'):=fun W C=>by
      have:=be W v (aN.trans (C.mono aN.size)) bn;rw[←hq] at this;exact this
     have cd:Hq (∀ W,Bl N W→(Instr.lookup 176 (.map (Z b0)) (I .i32 c) false).run prog W=.ok (.func (.func F) #[] aK) W):=fun W C=>
      YF underlying176 underlying21 ((C.block _ (eu.1 bl).1).trans bl) bg
     have cW:(k:Int)<3:=by omega
     obtain⟨a2,cg,bt,b6,HP⟩:=H5 aR aC ar eg R;clear A hit ar aR bI bX aC cL bS bV bd bY bn bg eg be L hq aQ aM aN bO bR bl bf hv R;go_upto_region 11 with (fail);refine BQ 8 [(2,fun v _=>v=.func (.func F) #[] aK),(6,fun v _=>v=.bool q)] ⟨Ch,Ch,trivial⟩ ?_
     iterate 2 (refine AK rfl ?_;intro K hK;go_big_quiet_op;go_big_quiet_on)
     refine Ca rfl (fun w' C t=>?_) ?_
     ·exact Bn (v:=.func (.func F) #[] aK) (w':=w') (by simp[execOp,go_sem,cd.o w' C]) ⟨cK _ _,rfl⟩
     intro v' w' C hv;obtain rfl:=hv;clear C w';simp only[Au,cS,dz,dy]
     iterate 3 (refine AK rfl ?_;intro K hK;go_big_quiet_op;go_big_quiet_on)
     refine Ca rfl (fun w' C t=>?_) ?_
     ·refine Fs (f:=F) (al:=[I J v]) rfl rfl rfl rfl b6.o ?_;exact(b4.o w' C).mono fun e M h=>⟨_,h.1,h.2,rfl⟩
     intro v' w' C hv;obtain rfl:=hv;clear C w';simp only[Au,cS,dz,dy]
     iterate 1 (refine AK rfl ?_;intro K hK;go_big_quiet_op;go_big_quiet_on)
     refine BN ?_;intro w6 bc cQ;simp only[dM,dV,ec];have bs:Hq (Bl E w6):=a3.o.trans (bc.mono a3.o.size);have ca:Hq (w6.heap[E.heap.size]? =Z (.stringIter B (k+1))):=(bc.block _ (eu.1 bu.o).1).trans bu.o;clear cQ bc zv bm;cases q with
     |true=>
      go_wp2_with fail
      go_roundg (B.size-(k+1))
      case measure=>have R:=HP.o;omega
      case rel=>exact⟨k+1,by have R:=HP.o;omega,by have R:=HP.o;omega,ca.o,bs.o,fun j hj=>by
       by_cases e:j=k
       ·subst e;exact HQ.o
       ·exact a2.o j (by omega)⟩
     |false=>
      go_wp2_with fail;go_ret;refine⟨?_,bC.o (bs.o)⟩;rw[Eh,HF.o,eI];have:((dA (lettP x.op).length).all (Jk d n x))=false:=by
       rw[List.all_eq_false];exact⟨k,dT.2 cg.o,by rw[HQ.o];simp⟩
      rw[this];rfl
    ·have bm:∀ ty,(fB (G (Z ⟨E.heap.size,0,O⟩)) true ty).run prog wr=.ok (.tuple #[.bool false]) wr:=fun ty=>Lib.run_next_end_at (P:=prog) wr E.heap.size B k ty hit R;obtain⟨a2,bt⟩:=H2 aR ar;have ch:Hq (B.size=(lettP x.op).length):=by
      show _=_;rw[a4.o];show(lettP x.op).toArray.size=_;simp
     clear A hit ar aR bI;go_wp2_with fail;go_ret;refine⟨?_,bC.o bt.o⟩;rw[Eh,HF.o,eI];have:((dA (lettP x.op).length).all (Jk d n x))=true:=by
      rw[dL];intro j hj;refine a2.o j ?_;have:=dT.1 hj;have r:=ch.o;omega
     rw[this];rfl
def FU(k:CV):Bool:=DZ k ⟨[],0,false⟩||BP k.kind k.size k.depth k.At [] [] 0
def Gx(d:Ad)(c:Eu):Bool:=A5 0 255 c.prio && (A5 0 1073741824 c.period && (A5 0 1073741824 c.Cf && (decide (c.code.length≤24) && c.code.all (Eh d c.code.length))))
def E6(d:Ad):Bool:=
 A5 0 4096 d.mem && (decide (d.Ab.length≤8) && (A5 0 8 (max (d.semas.length:Int) d.bufs.length) && (A5 0 8 d.events && (A5 0 8 d.boards && (decide (d.procs.length≤6) &&
 (d.Ab.all FU && (d.semas.all (fun n=>A5 0 255 n) && (d.bufs.all (fun n=>A5 0 15 (n-1)) && d.procs.all (Gx d)))))))))
def Ew(w:dd)(v:dx)(l:List Ai):Prop:=AW w v l.length 4 (fun k j=>(Jc (l.getD k default)).getD j dN)
def I1(nm:ByteArray)(c:dx)(x:Eu):List dx:=[.string nm,I J x.prio,I J x.period,I J x.Cf,c]
def Gd(w:dd)(v:dx)(l:List Eu):Prop:=∃ (b:Nat→ByteArray) (a:Nat→dx),AW w v l.length 5 (fun k j=>(I1 (b k) (a k) (l.getD k default)).getD j dN)∧∀ k,k<l.length→Ew w (a k) (l.getD k default).code
def Ew.below{w w':dd}{v:dx}{l:List Ai}(h:Ew w v l)(a:Bl w w'):Ew w' v l:=AW.below h a
def Gd.below{w w':dd}{v:dx}{l:List Eu}(h:Gd w v l)(a:Bl w w'):Gd w' v l:=by
 obtain⟨f,b,c,d⟩:=h;exact⟨f,b,c.below a,fun k e=>(d k e).below a⟩
def Ew.shape{w:dd}{v:dx}{l:List Ai}(h:Ew w v l):∃ a c,v=Y a l.length c:=by
 obtain⟨a,c,h,_⟩:=h;exact⟨a,c,h⟩
def Td:EG 52:=fun _ _=>by kernel_rfl
def Te:EG 56:=fun _ _=>by kernel_rfl
def Tf:EG 57:=fun _ _=>by kernel_rfl
def Tg:EG 59:=fun _ _=>by kernel_rfl
def Th:EG 61:=fun _ _=>by kernel_rfl
def DA(n a:Int)(w:dd):dD prog 40 #[I J n,I J a] w fun e w'=>e=.returned (.bool (A5 0 a n))∧w'=w:=by
 by_cases b:0≤n
 ·by_cases c:n≤a
  ·rw[show A5 0 a n=true by simp[A5];omega];go_enter func40,ntmps40;go_wp2;go_ret;exact⟨rfl,rfl⟩
  ·rw[show A5 0 a n=false by simp[A5];omega];go_enter func40,ntmps40;go_wp2;go_ret;exact⟨rfl,rfl⟩
 ·rw[show A5 0 a n=false by simp[A5];omega];go_enter func40,ntmps40;go_wp2;go_ret;exact⟨rfl,rfl⟩
def RL(n:Int)(w:dd):dD prog 56 #[I J n] w fun e w'=>e=.returned (.bool (!A5 0 255 n))∧Bl w w':=by
 have H:=HH (DA n 255 w);generalize A5 0 255 n=b at H ⊢;go_enter func56,ntmps56;go_wp2_with (go_at_call 40;refine H.o.mono ?_;rintro e w' ⟨rfl,rfl⟩);go_ret;exact⟨rfl,cK _ _⟩
def RM(n:Int)(c:-9223372036854775808≤n)(d:n≤9223372036854775807)(w:dd):dD prog 57 #[I J n] w fun e w'=>e=.returned (.bool (!A5 0 15 (n-1)))∧Bl w w':=by
 by_cases a:n=-9223372036854775808
 ·subst a;have H:=HH (DA (eZ (-9223372036854775809)) 15 w);rw[show A5 0 15 (eZ (-9223372036854775809))=false by kernel_rfl] at H;rw[show A5 0 15 (-9223372036854775808-1)=false by simp[A5]];go_enter func57,ntmps57;go_wp2_with (go_at_call 40;refine H.o.mono ?_;rintro e w' ⟨rfl,rfl⟩);go_ret;exact⟨rfl,cK _ _⟩
 ·have H:=HH (DA (n-1) 15 w);generalize A5 0 15 (n-1)=b at H ⊢;have f:-9223372036854775808≤n-1:=by omega
  have g:n-1≤9223372036854775807:=by omega
  clear a c d;go_enter func57,ntmps57;go_wp2_with (go_at_call 40;refine H.o.mono ?_;rintro e w' ⟨rfl,rfl⟩);go_ret;exact⟨rfl,cK _ _⟩
def RJ(k:CV)(nm:ByteArray)(w:dd):dD prog 52 #[.agg #[.string nm,I U k.kind,.bool k.o,I J k.size,I J k.depth,I J k.At]] w fun e w'=>e=.returned (.bool (!FU k))∧Bl w w':=by
 obtain⟨j,f⟩:=ex (w.alloc (T #[.string nm,I U k.kind,.bool k.o,I J k.size,I J k.depth,I J k.At] 62));have y:Bl w j:=by rw[f];exact(cK _ w).alloc (cY _) _
 have h:j.heap[w.heap.size]? =Z (T #[.string nm,I U k.kind,.bool k.o,I J k.size,I J k.depth,I J k.At] 62 (0,0)):=by rw[f];exact de _ _
 obtain⟨v,d,F⟩:=H3 f y h;obtain⟨l,m,n,q,r,s⟩:=r6 h;have i:Hq (∀ W,dD prog 53 #[.agg #[.string nm,I U k.kind,.bool k.o,I J k.size,I J k.depth,I J k.At],.agg #[Y O 0 0,I J 0,.bool false]] W fun e w'=>e=.returned (.bool (DZ k ⟨[],0,false⟩))∧Bl W w'):=fun W=>QJ nm k.kind k.o k.size k.depth k.At 0 false (Y O 0 0) [] W (A4.nil (D:=fun _=>True)).1 (by simp);have u:Hq (∀ W,dD prog 54 #[.agg #[.string nm,I U k.kind,.bool k.o,I J k.size,I J k.depth,I J k.At],.agg #[Y O 0 0,Y O 0 0,I J 0]] W fun e w'=>e=.returned (.bool (BP k.kind k.size k.depth k.At [] [] 0))∧Bl W w'):=fun W=>DY nm k.kind k.o k.size k.depth k.At 0 (Y O 0 0) (Y O 0 0) [] [] W (BS.nil (D:=fun _=>True)).rd (Bm.nil (D:=fun _=>True)).1 (by intro x C;cases C) (by simp) (by simp);unfold FU;generalize DZ k ⟨[],0,false⟩=A at i ⊢;generalize BP k.kind k.size k.depth k.At [] [] 0=H at u ⊢;have b:Hq (w.heap.size<j.heap.size):=Aa h;clear f y h;cases A with
 |true=>
  go_enter func52,ntmps52;go_upto_region 1 with (fail);rw[←v.o];obtain⟨g,c⟩:=ex w.heap.size;rw[←c] at l m n q r s ⊢;have z:=HH c;clear c;go_wp2_with (go_at_call 53;refine(i.o _).mono ?_;rintro e E ⟨rfl,a⟩);go_ret;exact⟨rfl,d.o.trans (a.mono d.o.size)⟩
 |false=>
  go_enter func52,ntmps52;go_upto_region 1 with (fail);rw[←v.o];obtain⟨g,c⟩:=ex w.heap.size;rw[←c] at l m n q r s b ⊢;have z:=HH c;clear c;go_wp2_with (first
   |(go_at_call 53;refine(i.o _).mono ?_;rintro e E ⟨rfl,a⟩
     have t:=HH a;have L:=(a.cell (p:=⟨g,0,O⟩) b.o).trans l;have M:=(a.cell (p:=⟨g,1,O⟩) b.o).trans m;have N:=(a.cell (p:=⟨g,2,O⟩) b.o).trans n;have P:=(a.cell (p:=⟨g,3,O⟩) b.o).trans q;have Q:=(a.cell (p:=⟨g,4,O⟩) b.o).trans r;have R:=(a.cell (p:=⟨g,5,O⟩) b.o).trans s;clear a)
   |(go_at_call 54;refine(u.o _).mono ?_;rintro e K ⟨rfl,B⟩))
  go_ret;exact⟨by simp,d.o.trans ((t.o.trans (B.mono t.o.size)).mono d.o.size)⟩
def RN(d:Ad)(x:Ai)(n:Nat)(nm:ByteArray)(N M:Int)(P t k u S:Option eh)(z v co y V l h:Nat)(A:0≤x.op)(B:x.op≤255)(hn:n≤100000)(w:dd)(L:Ex w (Y k d.Ab.length co) d.Ab)(r:Ce w)(C:16≤w.heap.size)
  (q:w.heap[l]? =Z (T #[.string nm,I J N,I J M,I J d.mem,Y P d.semas.length z,I J d.events,I J d.boards,Y t d.bufs.length v,Y k d.Ab.length co,Y u d.procs.length y] 26 (0,0))) (D:w.cell? ⟨h,4,O⟩=Z (Y S n V)) (E:h<w.heap.size):
  dD prog 61 #[.agg #[I U x.op,I J x.a,I J x.b,I J x.c],G (Z ⟨l,0,O⟩),G (Z ⟨h,0,O⟩)] w fun e w'=>e=.returned (.bool (!Eh d n x))∧Bl w w':=by
 obtain⟨j,i⟩:=ex (w.alloc (T #[I U x.op,I J x.a,I J x.b,I J x.c] 64));have f:Bl w j:=by rw[i];exact(cK _ w).alloc (cY _) _
 have F:j.heap[w.heap.size]? =Z (T #[I U x.op,I J x.a,I J x.b,I J x.c] 64 (0,0)):=by rw[i];exact de _ _
 have K:=(f.block l (Aa q)).trans q;have ag:=(f.cell (p:=⟨h,4,O⟩) E).trans D;have H:=HH (Rd d (n:Int) x nm N M P t k u z v co y A B j (L.below f) (r.below C f) (by have:=f.size;omega));generalize Eh d n x=bb at H ⊢;obtain⟨Q,s⟩:=H2 i f;obtain⟨W,X,x2,x3⟩:=r4 F;obtain⟨y0,y1,y2,y3,y4,y5,y6,y7,y8,y9⟩:=DV K;clear i f F K q D E L r C A B;go_enter func61,ntmps61;go_upto_region 1 with (fail);rw[←Q.o];obtain⟨g,m⟩:=ex w.heap.size;rw[←m] at W X x2 x3 ⊢;have HG:=HH m;clear m;go_wp2_with (go_at_call 62;refine H.o.mono ?_;rintro e w2 ⟨rfl,R⟩);go_ret;exact⟨rfl,s.o.trans (R.mono s.o.size)⟩
def RO(d:Ad)(x:Eu)(nm P:ByteArray)(pe le:Int)(sa R H S l:Option eh)(cs V co X m j:Nat)(M:∀ i∈x.code,0≤i.op∧i.op≤255)(w:dd)(ae:Ew w (Y l x.code.length m) x.code)(ah:Ex w (Y H d.Ab.length co) d.Ab)(Q:Ce w)(ad:16≤w.heap.size)
  (N:w.heap[j]? =Z (T #[.string nm,I J pe,I J le,I J d.mem,Y sa d.semas.length cs,I J d.events,I J d.boards,Y R d.bufs.length V,Y H d.Ab.length co,Y S d.procs.length X] 26 (0,0))):
  dD prog 59 #[.agg #[.string P,I J x.prio,I J x.period,I J x.Cf,Y l x.code.length m],G (Z ⟨j,0,O⟩)] w fun e w'=>e=.returned (.bool (!Gx d x))∧Bl w w':=by
 obtain⟨v,F⟩:=ex (w.alloc (T #[.string P,I J x.prio,I J x.period,I J x.Cf,Y l x.code.length m] 68));have c:Bl w v:=by rw[F];exact(cK _ w).alloc (cY _) _
 have y:v.heap[w.heap.size]? =Z (T #[.string P,I J x.prio,I J x.period,I J x.Cf,Y l x.code.length m] 68 (0,0)):=by rw[F];exact de _ _
 have L:=(c.block j (Aa N)).trans N;have f:Hq (x.code.length≤24→dD prog 60 #[Y l x.code.length m,.func (.func 61) #[] #[G (Z ⟨j,0,O⟩),G (Z ⟨w.heap.size,0,O⟩)]] v fun e w'=>e=.returned (.bool (!x.code.all (Eh d x.code.length)))∧Bl v w'):=fun K=>by
  have:=Oj (Y l x.code.length m) x.code.length _ 61 #[G (Z ⟨j,0,O⟩),G (Z ⟨w.heap.size,0,O⟩)] (fun k=>!Eh d x.code.length (x.code.getD k default)) Th v (ae.below c) (by omega)
   (fun k hk W b=>by
    have hm:x.code.getD k default∈x.code:=by rw[cI,cJ hk];exact dG hk
    have:=RN d (x.code.getD k default) x.code.length nm pe le sa R H S l cs V co X m j w.heap.size (M _ hm).1 (M _ hm).2 (by omega) W ((ah.below c).below b) ((Q.below ad c).below (by have:=c.size;omega) b) (by have h1:=c.size;have h2:=b.size;omega) ((b.block j (Aa L)).trans L) ((b.cell (p:=⟨w.heap.size,4,O⟩) (Aa y)).trans (Cr y)) (dC (Aa y) b.size);exact this.mono fun e w' h=>⟨h.1,b.trans (h.2.mono b.size)⟩)
  rw[show DQ (fun k=>!Eh d x.code.length (x.code.getD k default)) x.code.length=!x.code.all (Eh d x.code.length) by rw[Io (fun i=>!Eh d x.code.length i)];simp[dY]] at this;exact this
 unfold Gx;generalize x.code.all (Eh d x.code.length)=b5 at f ⊢;obtain⟨u,q⟩:=H2 F c;obtain⟨z,A,B,C,D⟩:=r5 y;clear F c y L N ae M ah Q ad;generalize x.prio=v1 at*;generalize x.period=v2 at*;generalize x.Cf=v3 at*;generalize x.code.length=n at*;cases r:A5 0 255 v1 with
 |false=>
  go_enter func59,ntmps59;go_upto_region 1 with (fail);rw[←u.o];obtain⟨g,a⟩:=ex w.heap.size;rw[←a] at z A B C D f ⊢;have E:=HH a;clear a;go_wp2_with (first|(go_at_call 40;refine(DA _ _ _).mono ?_;rintro e w' ⟨rfl,rfl⟩;first|rw[r]|rw[s]|rw[t]|rw[E4]))
  go_ret;exact⟨rfl,q.o⟩
 |true=>
  cases s:A5 0 1073741824 v2 with
  |false=>
   go_enter func59,ntmps59;go_upto_region 1 with (fail);rw[←u.o];obtain⟨g,a⟩:=ex w.heap.size;rw[←a] at z A B C D f ⊢;have E:=HH a;clear a;go_wp2_with (first|(go_at_call 40;refine(DA _ _ _).mono ?_;rintro e w' ⟨rfl,rfl⟩;first|rw[r]|rw[s]|rw[t]|rw[E4]))
   go_ret;exact⟨rfl,q.o⟩
  |true=>
   cases t:A5 0 1073741824 v3 with
   |false=>
    go_enter func59,ntmps59;go_upto_region 1 with (fail);rw[←u.o];obtain⟨g,a⟩:=ex w.heap.size;rw[←a] at z A B C D f ⊢;have E:=HH a;clear a;go_wp2_with (first|(go_at_call 40;refine(DA _ _ _).mono ?_;rintro e w' ⟨rfl,rfl⟩;first|rw[r]|rw[s]|rw[t]|rw[E4]))
    go_ret;exact⟨rfl,q.o⟩
   |true=>
    by_cases K:n≤24
    ·rw[show decide (n≤24)=true from decide_eq_true K];go_enter func59,ntmps59;go_upto_region 1 with (fail);rw[←u.o];obtain⟨g,a⟩:=ex w.heap.size;rw[←a] at z A B C D f ⊢;have E:=HH a;clear a;go_wp2_with (first|(go_at_call 40;refine(DA _ _ _).mono ?_;rintro e w' ⟨rfl,rfl⟩;first|rw[r]|rw[s]|rw[t]|rw[E4])|(go_at_call 60;refine(f.o (by omega)).mono ?_;rintro e w2 ⟨rfl,al⟩))
     go_ret;exact⟨by simp;intro h;omega,q.o.trans (al.mono q.o.size)⟩
    ·rw[show decide (n≤24)=false from decide_eq_false K];go_enter func59,ntmps59;go_upto_region 1 with (fail);rw[←u.o];obtain⟨g,a⟩:=ex w.heap.size;rw[←a] at z A B C D f ⊢;have E:=HH a;clear a;go_wp2_with (first|(go_at_call 40;refine(DA _ _ _).mono ?_;rintro e w' ⟨rfl,rfl⟩;first|rw[r]|rw[s]|rw[t]|rw[E4]))
     go_ret;exact⟨rfl,q.o⟩
def RS(d:Ad)(nm:ByteArray)(pe le:Int)(sa X ao ac:Option eh)(cs cb co cc:Nat)(w:dd)(aU:C6 w (Y sa d.semas.length cs) d.semas)(aL:C6 w (Y X d.bufs.length cb) d.bufs)(av:∀ n∈d.bufs,-9223372036854775808≤n∧n≤9223372036854775807)(aT:Ex w (Y ao d.Ab.length co) d.Ab)(aS:Gd w (Y ac d.procs.length cc) d.procs)(aR:∀ c∈d.procs,∀ i∈c.code,0≤i.op∧i.op≤255)(aF:Ce w)(aH:16≤w.heap.size):
  dD prog 23 #[.agg #[.string nm,I J pe,I J le,I J d.mem,Y sa d.semas.length cs,I J d.events,I J d.boards,Y X d.bufs.length cb,Y ao d.Ab.length co,Y ac d.procs.length cc]] w fun e w'=>e=.returned (.bool (E6 d))∧Bl w w':=by
 obtain⟨C,hW⟩:=ex (w.alloc (T #[.string nm,I J pe,I J le,I J d.mem,Y sa d.semas.length cs,I J d.events,I J d.boards,Y X d.bufs.length cb,Y ao d.Ab.length co,Y ac d.procs.length cc] 26));have Q:Bl w C:=by rw[hW];exact(cK _ w).alloc (cY _) _
 have ah:C.heap[w.heap.size]? =Z (T #[.string nm,I J pe,I J le,I J d.mem,Y sa d.semas.length cs,I J d.events,I J d.boards,Y X d.bufs.length cb,Y ao d.Ab.length co,Y ac d.procs.length cc] 26 (0,0)):=by rw[hW];exact de _ _
 have aI:16≤C.heap.size:=by have:=Q.size;omega
 have aw:=aT.below Q;have G1:=aF.below aH Q;have aj:Hq (d.Ab.length≤8→dD prog 51 #[Y ao d.Ab.length co,.func (.func 52) #[] #[]] C fun e w'=>e=.returned (.bool (!d.Ab.all FU))∧Bl C w'):=fun h8=>by
  obtain⟨az,hr⟩:=aw;have:=Sv _ d.Ab.length _ 52 #[] (fun k=>!FU (d.Ab.getD k default)) Td C hr (by omega) (fun k P W r=>by
   have:=RJ (d.Ab.getD k default) (az k) W;exact this.mono fun e w' h=>⟨h.1,r.trans (h.2.mono r.size)⟩)
  rw[show DQ (fun k=>!FU (d.Ab.getD k default)) d.Ab.length=!d.Ab.all FU by rw[Io (fun i=>!FU i)];simp[dY]] at this;exact this
 have al:Hq (d.semas.length≤8→∀ W,Bl C W→dD prog 55 #[Y sa d.semas.length cs,.func (.func 56) #[] #[]] W fun e w'=>e=.returned (.bool (!d.semas.all (fun n=>A5 0 255 n)))∧Bl W w'):=fun h8 W r=>by
  have:=JT _ d.semas.length _ 56 #[] (fun k=>!A5 0 255 (d.semas.getD k 0)) Te W ((AW.below aU Q).below r) (by omega) (fun k P V u=>by
   have:=RL (d.semas.getD k 0) V;exact this.mono fun e w' h=>⟨h.1,u.trans (h.2.mono u.size)⟩)
  rw[show DQ (fun k=>!A5 0 255 (d.semas.getD k 0)) d.semas.length=!d.semas.all (fun n=>A5 0 255 n) by rw[Io (fun i=>!A5 0 255 i)];simp[dY]] at this;exact this
 have ar:Hq (d.bufs.length≤8→∀ W,Bl C W→dD prog 55 #[Y X d.bufs.length cb,.func (.func 57) #[] #[]] W fun e w'=>e=.returned (.bool (!d.bufs.all (fun n=>A5 0 15 (n-1))))∧Bl W w'):=fun h8 W r=>by
  have:=JT _ d.bufs.length _ 57 #[] (fun k=>!A5 0 15 (d.bufs.getD k 0-1)) Tf W ((AW.below aL Q).below r) (by omega) (fun k P V u=>by
   have hm:d.bufs.getD k 0∈d.bufs:=by rw[cI,cJ P];exact dG P
   have:=RM (d.bufs.getD k 0) (av _ hm).1 (av _ hm).2 V;exact this.mono fun e w' h=>⟨h.1,u.trans (h.2.mono u.size)⟩)
  rw[show DQ (fun k=>!A5 0 15 (d.bufs.getD k 0-1)) d.bufs.length=!d.bufs.all (fun n=>A5 0 15 (n-1)) by rw[Io (fun i=>!A5 0 15 (i-1))];simp[dY]] at this;exact this
 have v:Hq (d.procs.length≤6→∀ W,Bl C W→dD prog 58 #[Y ac d.procs.length cc,.func (.func 59) #[] #[G (Z ⟨w.heap.size,0,O⟩)]] W fun e w'=>e=.returned (.bool (!d.procs.all (Gx d)))∧Bl W w'):=fun h8 W r=>by
  obtain⟨az,cv,hr,aN⟩:=(aS.below Q).below r;have a5:Ce W:=G1.below aI r;have:=Su _ d.procs.length _ 59 #[G (Z ⟨w.heap.size,0,O⟩)] (fun k=>!Gx d (d.procs.getD k default)) Tg W hr (by omega) (fun k P V u=>by
   have hm:d.procs.getD k default∈d.procs:=by rw[cI,cJ P];exact dG P
   obtain⟨ic,a7,aO⟩:=(aN k P).shape;have aM:=(aN k P).below u;rw[aO] at aM;have:=RO d (d.procs.getD k default) nm (az k) pe le sa X ao ac ic cs cb co cc a7 w.heap.size (aR _ hm) V aM ((aw.below r).below u) (a5.below (by have:=r.size;omega) u) (by have h1:=r.size;have h2:=u.size;omega) ((u.block _ (dC (Aa ah) r.size)).trans ((r.block _ (Aa ah)).trans ah));rw[←aO] at this;exact this.mono fun e w' h=>⟨h.1,u.trans (h.2.mono u.size)⟩)
  rw[show DQ (fun k=>!Gx d (d.procs.getD k default)) d.procs.length=!d.procs.all (Gx d) by rw[Io (fun i=>!Gx d i)];simp[dY]] at this;exact this
 unfold E6;generalize d.Ab.all FU=a1 at aj ⊢;generalize d.semas.all (fun n=>A5 0 255 n)=a2 at al ⊢;generalize d.bufs.all (fun n=>A5 0 15 (n-1))=a3 at ar ⊢;generalize d.procs.all (Gx d)=a4 at v ⊢;have aJ:A5 0 8 (max (d.semas.length:Int) d.bufs.length)=true→d.semas.length≤8∧d.bufs.length≤8:=fun h=>by simp only[A5,dQ,decide_eq_true_eq] at h;omega
 have B:=HH hW;have b:Hq (w.heap.size<C.heap.size):=Aa ah;have q:=HH Q;obtain⟨D,E,F,H,s,K,L,l,M,j⟩:=DV ah;have aW:=HH aJ;clear hW Q ah aI aw G1 aU aL av aS aR aT aF aH aJ;generalize d.mem=vm at*;generalize d.events=ve at*;generalize d.boards=vb at*;generalize d.semas.length=ns at*;generalize d.bufs.length=nb at*;generalize d.Ab.length=np at*;generalize d.procs.length=nc at*;cases y:A5 0 4096 vm with
 |false=>
  go_enter func23,ntmps23;go_upto_region 1 with (fail);rw[←B.o];obtain⟨g,a⟩:=ex w.heap.size;rw[←a] at D E F H s K L l M j v b ⊢;have N:=HH a;clear a;go_wp2_with (first|(go_at_call 40;refine(DA _ _ _).mono ?_;rintro e w' ⟨rfl,rfl⟩;first|rw[y]|rw[x]|rw[z]|rw[A]))
  go_ret;exact⟨by simp,q.o⟩
 |true=>
  by_cases aQ:np≤8
  ·rw[show decide (np≤8)=true from decide_eq_true aQ];cases x:A5 0 8 (max (ns:Int) nb) with
   |false=>
    go_enter func23,ntmps23;go_upto_region 1 with (fail);rw[←B.o];obtain⟨g,a⟩:=ex w.heap.size;rw[←a] at D E F H s K L l M j v b ⊢;have N:=HH a;clear a;go_wp2_with (first|(go_at_call 40;refine(DA _ _ _).mono ?_;rintro e w' ⟨rfl,rfl⟩;first|rw[y]|rw[x]|rw[z]|rw[A]))
    go_ret;exact⟨by simp,q.o⟩
   |true=>
    obtain⟨bj,bi⟩:=aW.o x;cases z:A5 0 8 ve with
    |false=>
     go_enter func23,ntmps23;go_upto_region 1 with (fail);rw[←B.o];obtain⟨g,a⟩:=ex w.heap.size;rw[←a] at D E F H s K L l M j v b ⊢;have N:=HH a;clear a;go_wp2_with (first|(go_at_call 40;refine(DA _ _ _).mono ?_;rintro e w' ⟨rfl,rfl⟩;first|rw[y]|rw[x]|rw[z]|rw[A]))
     go_ret;exact⟨by simp,q.o⟩
    |true=>
     cases A:A5 0 8 vb with
     |false=>
      go_enter func23,ntmps23;go_upto_region 1 with (fail);rw[←B.o];obtain⟨g,a⟩:=ex w.heap.size;rw[←a] at D E F H s K L l M j v b ⊢;have N:=HH a;clear a;go_wp2_with (first|(go_at_call 40;refine(DA _ _ _).mono ?_;rintro e w' ⟨rfl,rfl⟩;first|rw[y]|rw[x]|rw[z]|rw[A]))
      go_ret;exact⟨by simp,q.o⟩
     |true=>
      by_cases aP:nc≤6
      ·rw[show decide (nc≤6)=true from decide_eq_true aP];cases a1 with
       |false=>
        go_enter func23,ntmps23;go_upto_region 1 with (fail);rw[←B.o];obtain⟨g,a⟩:=ex w.heap.size;rw[←a] at D E F H s K L l M j v b ⊢;have N:=HH a;clear a;go_wp2_with (first|(go_at_call 40;refine(DA _ _ _).mono ?_;rintro e w' ⟨rfl,rfl⟩;first|rw[y]|rw[x]|rw[z]|rw[A])|(go_at_call 51;refine(aj.o (by omega)).mono ?_;rintro e w2 ⟨rfl,f⟩;have t:=HH f;have z4:=(f.cell (p:=⟨g,4,O⟩) b.o).trans s;have z7:=(f.cell (p:=⟨g,7,O⟩) b.o).trans l;have z9:=(f.cell (p:=⟨g,9,O⟩) b.o).trans j;clear f))
        go_ret;exact⟨by simp,q.o.trans (t.o.mono q.o.size)⟩
       |true=>
        cases a2 with
        |false=>
         go_enter func23,ntmps23;go_upto_region 1 with (fail);rw[←B.o];obtain⟨g,a⟩:=ex w.heap.size;rw[←a] at D E F H s K L l M j v b ⊢;have N:=HH a;clear a;go_wp2_with (first|(go_at_call 40;refine(DA _ _ _).mono ?_;rintro e w' ⟨rfl,rfl⟩;first|rw[y]|rw[x]|rw[z]|rw[A])|(go_at_call 51;refine(aj.o (by omega)).mono ?_;rintro e w2 ⟨rfl,f⟩;have t:=HH f;have z4:=(f.cell (p:=⟨g,4,O⟩) b.o).trans s;have z7:=(f.cell (p:=⟨g,7,O⟩) b.o).trans l;have z9:=(f.cell (p:=⟨g,9,O⟩) b.o).trans j;clear f)|(go_at_call 55;refine(al.o (by omega) _ t.o).mono ?_;rintro e w3 ⟨rfl,R⟩;have m:=HH (t.o.trans (R.mono t.o.size));have q7:=(m.o.cell (p:=⟨g,7,O⟩) b.o).trans l;have q9:=(m.o.cell (p:=⟨g,9,O⟩) b.o).trans j;clear R))
         go_ret;exact⟨by simp,q.o.trans (m.o.mono q.o.size)⟩
        |true=>
         cases a3 with
         |false=>
          go_enter func23,ntmps23;go_upto_region 1 with (fail);rw[←B.o];obtain⟨g,a⟩:=ex w.heap.size;rw[←a] at D E F H s K L l M j v b ⊢;have N:=HH a;clear a;go_wp2_with (first|(go_at_call 40;refine(DA _ _ _).mono ?_;rintro e w' ⟨rfl,rfl⟩;first|rw[y]|rw[x]|rw[z]|rw[A])|(go_at_call 51;refine(aj.o (by omega)).mono ?_;rintro e w2 ⟨rfl,f⟩;have t:=HH f;have z4:=(f.cell (p:=⟨g,4,O⟩) b.o).trans s;have z7:=(f.cell (p:=⟨g,7,O⟩) b.o).trans l;have z9:=(f.cell (p:=⟨g,9,O⟩) b.o).trans j;clear f)|(go_at_call 55;refine(al.o (by omega) _ t.o).mono ?_;rintro e w3 ⟨rfl,R⟩;have m:=HH (t.o.trans (R.mono t.o.size));have q7:=(m.o.cell (p:=⟨g,7,O⟩) b.o).trans l;have q9:=(m.o.cell (p:=⟨g,9,O⟩) b.o).trans j;clear R)|(go_at_call 55;refine(ar.o (by omega) _ m.o).mono ?_;rintro e w4 ⟨rfl,ak⟩;have S:=HH (m.o.trans (ak.mono m.o.size));have r9:=(S.o.cell (p:=⟨g,9,O⟩) b.o).trans j;clear ak))
          go_ret;exact⟨by simp,q.o.trans (S.o.mono q.o.size)⟩
         |true=>
          go_enter func23,ntmps23;go_upto_region 1 with (fail);rw[←B.o];obtain⟨g,a⟩:=ex w.heap.size;rw[←a] at D E F H s K L l M j v b ⊢;have N:=HH a;clear a;go_wp2_with (first|(go_at_call 40;refine(DA _ _ _).mono ?_;rintro e w' ⟨rfl,rfl⟩;first|rw[y]|rw[x]|rw[z]|rw[A])|(go_at_call 51;refine(aj.o (by omega)).mono ?_;rintro e w2 ⟨rfl,f⟩;have t:=HH f;have z4:=(f.cell (p:=⟨g,4,O⟩) b.o).trans s;have z7:=(f.cell (p:=⟨g,7,O⟩) b.o).trans l;have z9:=(f.cell (p:=⟨g,9,O⟩) b.o).trans j;clear f)|(go_at_call 55;refine(al.o (by omega) _ t.o).mono ?_;rintro e w3 ⟨rfl,R⟩;have m:=HH (t.o.trans (R.mono t.o.size));have q7:=(m.o.cell (p:=⟨g,7,O⟩) b.o).trans l;have q9:=(m.o.cell (p:=⟨g,9,O⟩) b.o).trans j;clear R)|(go_at_call 55;refine(ar.o (by omega) _ m.o).mono ?_;rintro e w4 ⟨rfl,ak⟩;have S:=HH (m.o.trans (ak.mono m.o.size));have r9:=(S.o.cell (p:=⟨g,9,O⟩) b.o).trans j;clear ak)|(go_at_call 58;refine(v.o (by omega) _ S.o).mono ?_;rintro e w5 ⟨rfl,aK⟩;have aX:=HH (S.o.trans (aK.mono S.o.size));clear aK))
          go_ret;exact⟨by simp,q.o.trans (aX.o.mono q.o.size)⟩
      ·rw[show decide (nc≤6)=false from decide_eq_false aP];go_enter func23,ntmps23;go_upto_region 1 with (fail);rw[←B.o];obtain⟨g,a⟩:=ex w.heap.size;rw[←a] at D E F H s K L l M j v b ⊢;have N:=HH a;clear a;go_wp2_with (first|(go_at_call 40;refine(DA _ _ _).mono ?_;rintro e w' ⟨rfl,rfl⟩;first|rw[y]|rw[x]|rw[z]|rw[A]))
       go_ret;exact⟨by simp,q.o⟩
  ·rw[show decide (np≤8)=false from decide_eq_false aQ];go_enter func23,ntmps23;go_upto_region 1 with (fail);rw[←B.o];obtain⟨g,a⟩:=ex w.heap.size;rw[←a] at D E F H s K L l M j v b ⊢;have N:=HH a;clear a;go_wp2_with (first|(go_at_call 40;refine(DA _ _ _).mono ?_;rintro e w' ⟨rfl,rfl⟩;first|rw[y]|rw[x]|rw[z]|rw[A]))
   go_ret;exact⟨by simp,q.o⟩
def Qg{cells:Nat→List dx}{sz:Nat}(a:∀ k,(cells k).length=sz)(n:Nat):((dA n).flatMap cells).length=n*sz:=by
 induction n with
 |zero=>simp
 |succ n b=>rw[eP,List.flatMap_append,ef,b,Nat.succ_mul];simp[a]
def AW.flat{w:dd}{v:dx}{n sz:Nat}{cells:Nat→List dx}(h:AW w v n sz (fun k j=>(cells k).getD j dN))(o:0<sz)(p:∀ k,(cells k).length=sz):Sl w 0 sz v n ((dA n).flatMap cells):=by
 obtain⟨q,cap,C,A,B,z⟩:=h;have l:=Qg p;refine⟨q,cap,C,A,B,l n,fun r=>?_⟩;obtain⟨b,D,t,x,y⟩:=z r;refine⟨b,D,t,dE _,x,fun i u d=>?_⟩;have f:=(dI.1 d).1;rw[l] at f;have e:i/sz*sz+i%sz=i:=by rw[Nat.mul_comm];exact Nat.div_add_mod i sz
 have g:i/sz<n:=by rw[Nat.div_lt_iff_lt_mul o];exact f
 have m:=Nat.mod_lt i o;have a:=It (cells:=cells) p (dA n) (i/sz) (i%sz) (by simpa using g) m;rw[e,d,dU] at a;have c:=y _ _ g m;have s:(cells (i/sz)).getD (i%sz) dN=u:=by rw[cI,←a];rfl
 rw[eU,e] at c;rw[c];exact congrArg Z s
def Am.conv{α β:Type}{w:dd}{D:Nat→Prop}{b sz c:Nat}{t:ee}{a:Option eh}{El:dd→(Nat→Prop)→Nat→Nat→α→Prop}{El':dd→(Nat→Prop)→Nat→Nat→β→Prop}{l:List α}{l':List β}(h:Am w D b t sz a c El l)(d:l.length=l'.length){D':Nat→Prop}(g:¬D' b)
  (f:∀ k (e:k<l.length) (i:k<l'.length),El w D b (k*sz) l[k]→El' w D' b (k*sz) l'[k]):Am w D' b t sz a c El' l':=
 ⟨by rw[←d];exact h.cap,h.nil,by rw[←d];exact h.ptr,g,h.lt,by rw[←d];exact h.blk,fun k e=>f k (by rw[d];exact e) e (h.el k (by rw[d];exact e))⟩
def IH(w:dd)(D:Nat→Prop)(b o:Nat)(x:(ByteArray×dx)×Eu):Prop:=AN w b o (I1 x.1.1 x.1.2 x.2)
def Lb:Loc 5 IH:=fun _ _ _ _ _ _ a _ b=>a.same b
def Gz(d:Ad)(k:Nat):List dx:=[I J (d.semas.getD k 0)]
def Gg(d:Ad)(k:Nat):List dx:=[I J (d.bufs.getD k 0)]
def Gw(d:Ad)(a:Nat→ByteArray)(k:Nat):List dx:=Ki (a k) (d.Ab.getD k default)
def I2(d:Ad)(b:Nat→ByteArray)(a:Nat→dx)(k:Nat):List dx:=I1 (b k) (a k) (d.procs.getD k default)
def DF(B:Nat)(e:ee)(sz n:Nat)(b:List dx)(v:dx)(w:dd):Prop:=∃ a c,v=Y a n c∧w.ownsRow B e sz v n b
def DF.AX{B sz n:Nat}{e:ee}{i:List dx}:DO (DF B e sz n i):=fun _ _ _ ⟨a,c,d,f⟩ g=>⟨a,c,d,Bp f fun b _ h=>g.block b h⟩
def GB(B:Nat)(d:Ad)(e:Nat→ByteArray)(a b c:Option eh)(c1 c2 c3:Nat)(w:dd):Prop:=
 w.ownsRow B 3 1 (Y a d.semas.length c1) d.semas.length ((dA d.semas.length).flatMap (Gz d))∧w.ownsRow B 3 1 (Y b d.bufs.length c2) d.bufs.length ((dA d.bufs.length).flatMap (Gg d))∧w.ownsRow B 62 6 (Y c d.Ab.length c3) d.Ab.length ((dA d.Ab.length).flatMap (Gw d e))
section
variable {B:Nat} {d:Ad} {nmo:Nat→ByteArray} {a1 a2 a3:Option eh} {c1 c2 c3:Nat} {w w':dd}
def GB.below(h:GB B d nmo a1 a2 a3 c1 c2 c3 w)(c:Bl w w'):GB B d nmo a1 a2 a3 c1 c2 c3 w':=⟨Bp h.1 fun b _ a=>c.block b a,Bp h.2.1 fun b _ a=>c.block b a,Bp h.2.2 fun b _ a=>c.block b a⟩
def GB.Ga(h:GB B d nmo a1 a2 a3 c1 c2 c3 w){q:Nat}{e:Array dx}(c:w.heap[q]? =Z (T e 68 (0,0)))(a:∀ b,b≠q→b<w.heap.size→w'.heap[b]? =w.heap[b]?):GB B d nmo a1 a2 a3 c1 c2 c3 w':=
 ⟨Cg h.1 c (by decide) a,Cg h.2.1 c (by decide) a,Cg h.2.2 c (by decide) a⟩
end
def LH(w:dd)(B:Nat)(v:dx)(x:Eu):Prop:=w.ownsRow B 64 4 v x.code.length (EP x.code)
def Ha(B:Nat)(d:Ad)(nm:ByteArray)(h f:Int)(v:dx)(w':dd):Prop:=
 ∃ (a b c e:Option eh) (c1 c2 c3 c4:Nat) (g:Nat→ByteArray) (q:Nat) (L:List ((ByteArray×dx)×Eu)),
  v=.agg #[.string nm,I J h,I J f,I J d.mem,Y a d.semas.length c1,I J d.events,I J d.boards,Y b d.bufs.length c2,Y c d.Ab.length c3,Y e d.procs.length c4]∧
  w'.ownsRow B 3 1 (Y a d.semas.length c1) d.semas.length ((dA d.semas.length).flatMap (Gz d))∧
  w'.ownsRow B 3 1 (Y b d.bufs.length c2) d.bufs.length ((dA d.bufs.length).flatMap (Gg d))∧
  w'.ownsRow B 62 6 (Y c d.Ab.length c3) d.Ab.length ((dA d.Ab.length).flatMap (Gw d g))∧
  Am w' (fun _=>False) q 68 5 e c4 IH L∧B≤q∧L.map (·.2)=d.procs∧(∀ x∈L,LH w' B x.1.2 x.2)
def Ha.AX{B:Nat}{d:Ad}{nm:ByteArray}{u s:Int}:DO (Ha B d nm u s):=fun _ _ _ ⟨e,f,g,h,c1,c2,c3,c4,t,q,L,i,j,k,l,m,n,o,p⟩ c=>
 ⟨e,f,g,h,c1,c2,c3,c4,t,q,L,i,Bp j fun b _ a=>c.block b a,Bp k fun b _ a=>c.block b a,Bp l fun b _ a=>c.block b a,m.below Lb c,n,o,fun x r=>Bp (p x r) fun b _ a=>c.block b a⟩
def N6(w:dd)(d:Ad)(nm:ByteArray)(b a:Int)(e:fv)(w':dd):Prop:=∃ v,e=.returned v∧Ha w.heap.size d nm b a v w'∧Bl w w'
def Ou:EG 63:=fun _ _=>by kernel_rfl
def Tn:EG 64:=fun _ _=>by kernel_rfl
def Tm:EG 65:=fun _ _=>by kernel_rfl
def Tl:EG 66:=fun _ _=>by kernel_rfl
def RV(l:List Ai):(EP l).length=l.length*4:=by
 induction l with
 |nil=>rfl
 |cons x l a=>simp only[EP,List.flatMap_cons,ef] at*;rw[a];simp;omega
def Ew.sl{w:dd}{v:dx}{l:List Ai}(h:Ew w v l):Sl w 0 4 v l.length (EP l):=by
 have:=AW.flat (cells:=fun k=>Jc (l.getD k default)) h (by decide) (fun _=>rfl);have e:(dA l.length).flatMap (fun k=>Jc (l.getD k default))=EP l:=by
  apply fg;intro i;by_cases c:i<l.length*4
  ·have e:i/4*4+i%4=i:=by omega
   have a:=It (cells:=fun k=>Jc (l.getD k default)) (sz:=4) (fun _=>rfl) (dA l.length) (i/4) (i%4) (by simp;omega) (by omega);have b:=JP l (i/4) (i%4) (by omega) (by omega);rw[e] at a b;rw[a,b,dU,cI,cJ (show i/4<l.length by omega)];rfl
  ·rw[ed (by rw[Qg (sz:=4) (fun _=>rfl)];omega),ed (by rw[RV];omega)]
 rw[e] at this;exact this
def Sw(d:Ad)(nm:ByteArray)(N H:Int)(sa ab ao ac:Option eh)(cs cb co cc:Nat)(w:dd)(cu:C6 w (Y sa d.semas.length cs) d.semas)(cg:C6 w (Y ab d.bufs.length cb) d.bufs)(bo:Ex w (Y ao d.Ab.length co) d.Ab)(bn:Gd w (Y ac d.procs.length cc) d.procs)(ok:Ik d):
  dD prog 24 #[.agg #[.string nm,I J N,I J H,I J d.mem,Y sa d.semas.length cs,I J d.events,I J d.boards,Y ab d.bufs.length cb,Y ao d.Ab.length co,Y ac d.procs.length cc]] w (N6 w d nm N H):=by
 obtain⟨an,bo⟩:=bo;obtain⟨aD,X,bn,bH⟩:=bn;have du:=ok.semas;have dr:=ok.bufs;have dt:=ok.Ab;have ds:=ok.procs;have bf:∀ k,k<d.procs.length→(d.procs.getD k default).code.length≤24:=fun k F=>(ok.pc _ (by rw[cI,cJ F];exact dG F)).len;have b3:Hq (∀ W,Bl w W→Sl W 0 1 (Y sa d.semas.length cs) d.semas.length ((dA d.semas.length).flatMap (Gz d))):=fun W i=>AW.flat (cells:=Gz d) ((AW.below cu i).same (fun k j F hj=>by
  have bK:j=0:=by omega
  subst bK;rfl)) (by decide) (fun _=>rfl)
 have b4:Hq (∀ W,Bl w W→Sl W 0 1 (Y ab d.bufs.length cb) d.bufs.length ((dA d.bufs.length).flatMap (Gg d))):=fun W i=>AW.flat (cells:=Gg d) ((AW.below cg i).same (fun k j F hj=>by
  have bK:j=0:=by omega
  subst bK;rfl)) (by decide) (fun _=>rfl)
 have b5:Hq (∀ W,Bl w W→Sl W 0 6 (Y ao d.Ab.length co) d.Ab.length ((dA d.Ab.length).flatMap (Gw d an))):=fun W i=>AW.flat (cells:=Gw d an) (bo.below i) (by decide) (fun _=>rfl);have b6:Hq (∀ W,Bl w W→Sl W 0 5 (Y ac d.procs.length cc) d.procs.length ((dA d.procs.length).flatMap (I2 d aD X))):=fun W i=>AW.flat (cells:=I2 d aD X) (bn.below i) (by decide) (fun _=>rfl);have cL:Hq (∀ k,k<d.procs.length→∀ W,Bl w W→Sl W 0 4 (X k) (d.procs.getD k default).code.length (EP (d.procs.getD k default).code)):=fun k F W i=>Ew.sl ((bH k F).below i);have bS:Hq (∀ k,k<d.procs.length→∃ a c,X k=Y a (d.procs.getD k default).code.length c):=fun k F=>(bH k F).shape;have cM:=HH bf;have one:∀ (n:Nat) (f:Nat→List dx),(∀ k,∀ u∈f k,u.oneCell'=true)→∀ u∈(dA n).flatMap f,u.oneCell'=true:=fun n f hf u l=>by
  obtain⟨k,_,F⟩:=eM.1 l;exact hf k u F
 have bY:Hq (∀ u∈(dA d.semas.length).flatMap (Gz d),u.oneCell'=true):=one _ _ fun k u l=>by simp only[Gz,eb] at l;rw[l];rfl
 have bZ:Hq (∀ u∈(dA d.bufs.length).flatMap (Gg d),u.oneCell'=true):=one _ _ fun k u l=>by simp only[Gg,eb] at l;rw[l];rfl
 have b0:Hq (∀ u∈(dA d.Ab.length).flatMap (Gw d an),u.oneCell'=true):=one _ _ fun k u l=>by simp only[Gw,Ki,dO,dK,or_false] at l;rcases l with rfl|rfl|rfl|rfl|rfl|rfl<;>rfl
 have b1:Hq (∀ u∈(dA d.procs.length).flatMap (I2 d aD X),u.oneCell'=true):=fun u l=>by
  obtain⟨k,F,l⟩:=eM.1 l;simp only[I2,I1,dO,dK,or_false] at l;obtain⟨a,c,e⟩:=bS.o k (dT.1 F);rcases l with rfl|rfl|rfl|rfl|rfl
  ·rfl
  ·rfl
  ·rfl
  ·rfl
  ·rw[e];rfl
 clear cu cg bo bn bH ok bf one;obtain⟨m,hW⟩:=ex ((w.alloc (T #[.string nm,I J N,I J H,I J d.mem,Y sa d.semas.length cs,I J d.events,I J d.boards,Y ab d.bufs.length cb,Y ao d.Ab.length co,Y ac d.procs.length cc] 26)).alloc (T #[.string ⟨#[]⟩,I J 0,I J 0,I J 0,Y O 0 0,I J 0,I J 0,Y O 0 0,Y O 0 0,Y O 0 0] 26));have cf:Bl w m:=by rw[hW];exact DX w _ _
 have bk:m.heap[w.heap.size]? =Z (T #[.string nm,I J N,I J H,I J d.mem,Y sa d.semas.length cs,I J d.events,I J d.boards,Y ab d.bufs.length cb,Y ao d.Ab.length co,Y ac d.procs.length cc] 26 (0,0)):=by rw[hW];exact(Da w _ _).1
 have ci:m.heap[w.heap.size+1]? =Z (T #[.string ⟨#[]⟩,I J 0,I J 0,I J 0,Y O 0 0,I J 0,I J 0,Y O 0 0,Y O 0 0,Y O 0 0] 26 (0,0)):=by rw[hW];exact(Da w _ _).2
 obtain⟨HW,S,bz,aP⟩:=H4 hW cf bk ci;have bi:=Aa bk;obtain⟨-,-,-,-,q4,-,-,q7,q8,q9⟩:=q10 bk;clear hW cf bk ci;go_enter func24,ntmps24;go_upto_region 1 with (fail);rw[←HW.o];obtain⟨g,hg⟩:=ex w.heap.size;rw[←hg] at q4 q7 q8 q9 bi bz aP ⊢;have HG:=HH hg;clear hg;refine AS 20 [13,15,17,19] [14,16,18] [(2,DF m.heap.size 3 1 d.semas.length ((dA d.semas.length).flatMap (Gz d))),(5,DF m.heap.size 3 1 d.bufs.length ((dA d.bufs.length).flatMap (Gg d))),(8,DF m.heap.size 62 6 d.Ab.length ((dA d.Ab.length).flatMap (Gw d an))),(11,DF m.heap.size 68 5 d.procs.length ((dA d.procs.length).flatMap (I2 d aD X)))] ⟨DF.AX,DF.AX,DF.AX,DF.AX,trivial⟩ ?_
 iterate 2 (refine An rfl rfl rfl ?_;intro K hK;go_big_quiet_op;go_big_quiet_on)
 refine A9 rfl rfl (fun w' i hA=>?_) ?_
 ·refine AD (f:=63) (al:=[Y sa d.semas.length cs]) rfl rfl rfl Ou ?_;exact(Oi _ d.semas.length _ w' (b3.o w' (S.o.trans (i.mono S.o.size))) (by omega) bY.o).mono fun e w2 h=>by
   obtain⟨v',he,V,ai⟩:=h;obtain⟨a,c,rfl⟩:=Bq V;exact⟨_,he,ai,a,c,rfl,Cx V i.size⟩
 intro v w' i hv;obtain⟨s,c1,rfl,ak⟩:=hv;clear ak i w';simp only[Au,cS,dz,dy]
 iterate 2 (refine An rfl rfl rfl ?_;intro K hK;go_big_quiet_op;go_big_quiet_on)
 refine A9 rfl rfl (fun w' i hA=>?_) ?_
 ·refine AD (f:=63) (al:=[Y ab d.bufs.length cb]) rfl rfl rfl Ou ?_;exact(Oi _ d.bufs.length _ w' (b4.o w' (S.o.trans (i.mono S.o.size))) (by omega) bZ.o).mono fun e w2 h=>by
   obtain⟨v',he,V,ai⟩:=h;obtain⟨a,c,rfl⟩:=Bq V;exact⟨_,he,ai,a,c,rfl,Cx V i.size⟩
 intro v w' i hv;obtain⟨B,c2,rfl,ak⟩:=hv;clear ak i w';simp only[Au,cS,dz,dy]
 iterate 2 (refine An rfl rfl rfl ?_;intro K hK;go_big_quiet_op;go_big_quiet_on)
 refine A9 rfl rfl (fun w' i hA=>?_) ?_
 ·refine AD (f:=64) (al:=[Y ao d.Ab.length co]) rfl rfl rfl Tn ?_;exact(Sf _ d.Ab.length _ w' (b5.o w' (S.o.trans (i.mono S.o.size))) (by omega) b0.o).mono fun e w2 h=>by
   obtain⟨v',he,V,ai⟩:=h;obtain⟨a,c,rfl⟩:=Bq V;exact⟨_,he,ai,a,c,rfl,Cx V i.size⟩
 intro v w' i hv;obtain⟨C,c3,rfl,ak⟩:=hv;clear ak i w';simp only[Au,cS,dz,dy]
 iterate 2 (refine An rfl rfl rfl ?_;intro K hK;go_big_quiet_op;go_big_quiet_on)
 refine A9 rfl rfl (fun w' i hA=>?_) ?_
 ·refine AD (f:=65) (al:=[Y ac d.procs.length cc]) rfl rfl rfl Tm ?_;exact(Sd _ d.procs.length _ w' (b6.o w' (S.o.trans (i.mono S.o.size))) (by omega) b1.o).mono fun e w2 h=>by
   obtain⟨v',he,V,ai⟩:=h;obtain⟨a,c,rfl⟩:=Bq V;exact⟨_,he,ai,a,c,rfl,Cx V i.size⟩
 intro v w' i hv;obtain⟨t,c4,rfl,ak⟩:=hv;clear ak i w';simp only[Au,cS,dz,dy]
 iterate 1 (refine An rfl rfl rfl ?_;intro K hK;go_big_quiet_op;go_big_quiet_on)
 refine AH rfl ?_
 iterate 1 (refine Bi rfl rfl rfl ?_;intro K hK;go_big_quiet_op;go_big_quiet_on)
 refine AH rfl ?_
 iterate 1 (refine Bi rfl rfl rfl ?_;intro K hK;go_big_quiet_op;go_big_quiet_on)
 refine AH rfl ?_
 iterate 1 (refine Bi rfl rfl rfl ?_;intro K hK;go_big_quiet_op;go_big_quiet_on)
 refine AH rfl ?_;refine AR ?_;intro r E aw;obtain⟨_,_,_,cj⟩:DF m.heap.size 3 1 d.semas.length ((dA d.semas.length).flatMap (Gz d)) (Y s d.semas.length c1) r:=aw 2 _ (by decide) rfl;obtain⟨_,_,_,ck⟩:DF m.heap.size 3 1 d.bufs.length ((dA d.bufs.length).flatMap (Gg d)) (Y B d.bufs.length c2) r:=aw 5 _ (by decide) rfl;obtain⟨_,_,_,cl⟩:DF m.heap.size 62 6 d.Ab.length ((dA d.Ab.length).flatMap (Gw d an)) (Y C d.Ab.length c3) r:=aw 8 _ (by decide) rfl;obtain⟨_,_,_,cm⟩:DF m.heap.size 68 5 d.procs.length ((dA d.procs.length).flatMap (I2 d aD X)) (Y t d.procs.length c4) r:=aw 11 _ (by decide) rfl;have bl:=(E.block g bi).trans bz.o;have bL:=(E.block (g+1) (Aa aP.o)).trans aP.o;have z0:r.cell? ⟨g,4,O⟩=Z (Y sa d.semas.length cs):=Cr bl;have f0:r.frozen? ⟨g,4,O⟩=false:=by simp[em,bl]
 obtain⟨P,aH⟩:=ex (r.setCell ⟨g,4,O⟩ (Y s d.semas.length c1));refine AI (w':=P) (by rw[aH];simp[execOp,go_sem,z0,f0]) ?_;have k1:P.heap[g]? =Z (T #[.string nm,I J N,I J H,I J d.mem,Y s d.semas.length c1,I J d.events,I J d.boards,Y ab d.bufs.length cb,Y ao d.Ab.length co,Y ac d.procs.length cc] 26 (0,0)):=by rw[aH,en r g 4 _ _ _ bl];rfl
 have o1:∀ b,b≠g→P.heap[b]? =r.heap[b]?:=fun b i=>by rw[aH];exact dZ _ _ _ _ i
 have s1:P.heap.size=r.heap.size:=by rw[aH];simp[ek]
 have e1:P.os=r.os∧P.tape=r.tape∧P.output=r.output:=by rw[aH];exact⟨rfl,rfl,rfl⟩
 have z1:P.cell? ⟨g,7,O⟩=Z (Y ab d.bufs.length cb):=Cr k1;have f1:P.frozen? ⟨g,7,O⟩=false:=by simp[em,k1]
 obtain⟨Q,aI⟩:=ex (P.setCell ⟨g,7,O⟩ (Y B d.bufs.length c2));refine AI (w':=Q) (by rw[aI];simp[execOp,go_sem,z1,f1]) ?_;have k2:Q.heap[g]? =Z (T #[.string nm,I J N,I J H,I J d.mem,Y s d.semas.length c1,I J d.events,I J d.boards,Y B d.bufs.length c2,Y ao d.Ab.length co,Y ac d.procs.length cc] 26 (0,0)):=by rw[aI,en P g 7 _ _ _ k1];rfl
 have o2:∀ b,b≠g→Q.heap[b]? =P.heap[b]?:=fun b i=>by rw[aI];exact dZ _ _ _ _ i
 have s2:Q.heap.size=P.heap.size:=by rw[aI];simp[ek]
 have e2:Q.os=P.os∧Q.tape=P.tape∧Q.output=P.output:=by rw[aI];exact⟨rfl,rfl,rfl⟩
 have z2:Q.cell? ⟨g,8,O⟩=Z (Y ao d.Ab.length co):=Cr k2;have f2:Q.frozen? ⟨g,8,O⟩=false:=by simp[em,k2]
 obtain⟨R,aJ⟩:=ex (Q.setCell ⟨g,8,O⟩ (Y C d.Ab.length c3));refine AI (w':=R) (by rw[aJ];simp[execOp,go_sem,z2,f2]) ?_;have k3:R.heap[g]? =Z (T #[.string nm,I J N,I J H,I J d.mem,Y s d.semas.length c1,I J d.events,I J d.boards,Y B d.bufs.length c2,Y C d.Ab.length c3,Y ac d.procs.length cc] 26 (0,0)):=by rw[aJ,en Q g 8 _ _ _ k2];rfl
 have o3:∀ b,b≠g→R.heap[b]? =Q.heap[b]?:=fun b i=>by rw[aJ];exact dZ _ _ _ _ i
 have s3:R.heap.size=Q.heap.size:=by rw[aJ];simp[ek]
 have e3:R.os=Q.os∧R.tape=Q.tape∧R.output=Q.output:=by rw[aJ];exact⟨rfl,rfl,rfl⟩
 have z3:R.cell? ⟨g,9,O⟩=Z (Y ac d.procs.length cc):=Cr k3;have f3:R.frozen? ⟨g,9,O⟩=false:=by simp[em,k3]
 obtain⟨p,aK⟩:=ex (R.setCell ⟨g,9,O⟩ (Y t d.procs.length c4));refine AI (w':=p) (by rw[aK];simp[execOp,go_sem,z3,f3]) ?_;have k4:p.heap[g]? =Z (T #[.string nm,I J N,I J H,I J d.mem,Y s d.semas.length c1,I J d.events,I J d.boards,Y B d.bufs.length c2,Y C d.Ab.length c3,Y t d.procs.length c4] 26 (0,0)):=by rw[aK,en R g 9 _ _ _ k3];rfl
 have o4:∀ b,b≠g→p.heap[b]? =R.heap[b]?:=fun b i=>by rw[aK];exact dZ _ _ _ _ i
 have s4:p.heap.size=R.heap.size:=by rw[aK];simp[ek]
 have e4:p.os=R.os∧p.tape=R.tape∧p.output=R.output:=by rw[aK];exact⟨rfl,rfl,rfl⟩
 unfold A7;have cw:=E.size;have aN:w.heap.size≤m.heap.size:=S.o.size;have hoth:∀ b,b≠g→p.heap[b]? =r.heap[b]?:=fun b i=>(o4 b i).trans ((o3 b i).trans ((o2 b i).trans (o1 b i)));have bp:p.heap.size=r.heap.size:=by rw[s4,s3,s2,s1]
 have cW:m.heap.size≠g:=by have:=HG.o;omega
 have ch:g<m.heap.size:=bi;have cd:Bl w p:=⟨by rw[e4.1,e3.1,e2.1,e1.1,E.os];exact S.o.os,by rw[e4.2.1,e3.2.1,e2.2.1,e1.2.1,E.tape];exact S.o.tape,by rw[e4.2.2,e3.2.2,e2.2.2,e1.2.2,E.output];exact S.o.output,by rw[bp];omega,fun b i=>by
  rw[hoth b (by have:=HG.o;omega),E.block b (by omega)];exact S.o.block b i⟩
 have aW:∀ {e:ee} {sz n:Nat} {v:dx} {xs:List dx},r.ownsRow m.heap.size e sz v n xs→p.ownsRow m.heap.size e sz v n xs:=fun h=>Bp h fun b h1 h2=>hoth b (by omega);have P3:Hq (GB m.heap.size d an s B C c1 c2 c3 p):=⟨aW cj,aW ck,aW cl⟩;have p4:=aW cm;obtain⟨q,hq,c9,bN⟩:=Am.Bw (D:=fun _=>False) (g0:=g+1) (El:=fun w D b o (k:Nat)=>AN w b o (I2 d aD X k)) p4 (by simp) (fun _=>rfl) (fun _ _ h=>h) (fun h=>h) (by rw[bp];have:=Aa bL;omega) (fun b o x _ hc=>hc);have HQ:Hq (0<d.procs.length→m.heap.size≤q):=fun h0=>by
  have hp:=bN.ptr (by simpa using h0);exact(F8 (b:=q) p4 (by rw[hp];rfl)).1
 have aQ:Hq (w.heap.size<q):=by have:=HG.o;show w.heap.size<q;rcases hq with h|h<;>omega
 have cQ:Hq (q<p.heap.size):=c9;have HR:Hq (Am p (fun _=>False) q 68 5 t c4 IH ((dA d.procs.length).map fun k=>((aD k,X k),d.procs.getD k default))):=bN.conv (by simp) (fun h=>h) (fun k F dn h=>by
  simp only[eB,dU] at h ⊢;exact h)
 have bW:=HH k4;have bX:Hq (p.heap[g+1]? =Z (T #[.string ⟨#[]⟩,I J 0,I J 0,I J 0,Y O 0 0,I J 0,I J 0,Y O 0 0,Y O 0 0,Y O 0 0] 26 (0,0))):=(hoth (g+1) (by omega)).trans bL;have aF:=HH cd;have y9:p.cell? ⟨g,9,O⟩=Z (Y t d.procs.length c4):=Cr k4;have cP:=HH ch;have bU:Hq (g+1<m.heap.size):=Aa aP.o;have b7:Hq (m.heap.size≤p.heap.size):=by show _≤_;rw[bp];exact cw
 clear aw bl bL z0 z1 z2 z3 f0 f1 f2 f3 aH aI aJ aK k1 k2 k3 k4 o1 o2 o3 o4 s1 s2 s3 s4 e1 e2 e3 e4 hoth bp cW cd aW cj ck cl cm p4 hq bN q4 q7 q8 q9 E cw aN bi ch bz aP bY bZ b0 b1 b3 b4 b5 b6;go_wp2_with fail
 go_loopw [3,23] (fun _ v wr=>∃ k:Nat,k≤d.procs.length∧v=I J k∧∃ L:List ((ByteArray×dx)×Eu),Hq (Upd [q] p wr∧wr.heap[g+1]? =p.heap[g+1]?∧GB m.heap.size d an s B C c1 c2 c3 wr∧Am wr (fun _=>False) q 68 5 t c4 IH L∧L.map (·.2)=d.procs∧(∀ j x,j<k→L[j]? =Z x→LH wr p.heap.size x.1.2 x.2)∧(∀ j x,k≤j→L[j]? =Z x→x.1.2=X j))) (fun _ v _=>d.procs.length-(intOf v).toNat)
 case atStart=>
  refine⟨0,dE _,rfl,_,Upd.refl _ _,rfl,P3.o,HR.o,?_,fun j x hj=>absurd hj (dS _),fun j x _ hx=>?_⟩
  ·apply eC
   ·simp
   ·intro k h1 h2;simp[cI,cJ h2]
  ·have hj:=(dI.1 hx).1;rw[dP,List.getElem?_range (by simpa using hj)] at hx;simp only[fe,dJ] at hx;rw[←hx]
 case round=>
  obtain⟨k,dp,rfl,L,A⟩:=hrel;obtain⟨l,bh,h3,hr,hm,bm,bg⟩:=A.o;have aR:L.length=d.procs.length:=by rw[←hm];simp
  have bM:g≠q:=by have:=HG.o;have:=aQ.o;omega
  have aM:wr.heap[g]? =Z (T #[.string nm,I J N,I J H,I J d.mem,Y s d.semas.length c1,I J d.events,I J d.boards,Y B d.bufs.length c2,Y C d.Ab.length c3,Y t d.procs.length c4] 26 (0,0)):=(l.block g (Aa bW.o) (by simpa using bM)).trans bW.o;have c6:=Aa aM;by_cases F:k<d.procs.length
  ·have dq:(k:Int)<(d.procs.length:Int):=by omega
   have aT:k<L.length:=by omega
   have dw:=l.size;have db:=b7.o;have aN:w.heap.size≤m.heap.size:=S.o.size;have bd:Bl w wr:=aF.o.trans ⟨l.os,l.tape,l.output,by have:=aF.o.size;omega,fun b i=>l.block b (by have:=aF.o.size;omega) (by have:=aQ.o;simp only[eb];omega)⟩;have cap:=hr.cap;rw[aR] at cap;have cp:=hr.ptr (by omega);obtain⟨y,hy⟩:=ex (d.procs.getD k default);obtain⟨x,hx⟩:=ex (L[k]);have bq:L[k]? =Z x:=by rw[hx];exact cJ aT
   have cx:x.2=y:=by
    have:d.procs[k]? =Z x.2:=by rw[←hm,dP,bq];rfl
    rw[hy,cI,this];rfl
   have cy:x.1.2=X k:=bg k x (cY _) bq;have bE:AN wr q (k*5) (I1 x.1.1 x.1.2 x.2):=by rw[hx];exact hr.el k aT
   obtain⟨ic,bP,bj⟩:=bS.o k F;rw[←hy] at bj;have b9:wr.cell? ⟨q,k*5+4,O⟩=Z (Y ic y.code.length bP):=by rw[←bj,←cy];exact bE 4 _ rfl
   have cr:=hr.lt;have dl:=cP.o;have cR:Hq (∀ W,Bl wr W→Sl W 0 4 (Y ic y.code.length bP) y.code.length (EP y.code)):=fun W i=>by
    have:=cL.o k F W (bd.trans (i.mono bd.size));rw[←hy,bj] at this;exact this
   have bf:=cM.o k F;rw[←hy] at bf;clear hy;have bG:wr.cell? ⟨g,9,O⟩=Z (Y t d.procs.length c4):=Cr aM;rw[cp] at bG;have q9:=qC bG c6;have qc:=qC b9 cr;obtain⟨HA,H3,cO⟩:=H3 A h3 bh;have c0:g+1<wr.heap.size:=by have:=bX.o;have:=Aa this;omega
   obtain⟨HX,aG,bV,HU,HM,bA,aZ,bT,df,aQ⟩:=QZ (eH cx (eH bq bE)) bd hr l hm aR bm bg aM bM;clear A bh h3 l hr hm bm bg aR aM bq hx cx cy bE bj b9 bd bG bM cp;go_upto_region 5 with (fail);refine AS 13 [12] [] [(9,DF wr.heap.size 64 4 y.code.length (EP y.code))] ⟨DF.AX,trivial⟩ ?_
   iterate 9 (refine An rfl rfl rfl ?_;intro K hK;go_big_quiet_op;go_big_quiet_on)
   refine A9 rfl rfl (fun w' i hA=>?_) ?_
   ·refine AD (f:=66) (al:=[Y ic y.code.length bP]) rfl rfl rfl Tl ?_;exact(Sc _ y.code.length _ w' (cR.o w' i) (by omega) (fun u l=>by obtain⟨y,_,hy⟩:=eM.1 l;simp only[dO,dK,or_false] at hy;rcases hy with rfl|rfl|rfl|rfl<;>rfl)).mono fun e w2 h=>by
     obtain⟨v',he,V,ai⟩:=h;obtain⟨a,c,rfl⟩:=Bq V;exact⟨_,he,ai,a,c,rfl,Cx V i.size⟩
   intro v w' i hv;obtain⟨a5,c5,rfl,ak⟩:=hv;clear ak i w';simp only[Au,cS,dz,dy]
   iterate 2 (refine An rfl rfl rfl ?_;intro K hK;go_big_quiet_op;go_big_quiet_on)
   refine AH rfl ?_;refine AR ?_;intro r E aw;obtain⟨_,_,_,cn⟩:DF wr.heap.size 64 4 y.code.length (EP y.code) (Y a5 y.code.length c5) r:=aw 9 _ (by decide) rfl;have aV:=bV.o.below Lb E;have bF:AN r q (k*5) (I1 x.1.1 x.1.2 x.2):=HX.o.2.2.block (E.block q cr);have z0:r.cell? ⟨q,k*5+4,O⟩=Z x.1.2:=bF 4 _ rfl;have f0:r.frozen? ⟨q,k*5+4,O⟩=false:=aV.frozen (by omega) _;obtain⟨aa,hY⟩:=ex (r.setCell ⟨q,k*5+4,O⟩ (Y a5 y.code.length c5));refine AI (w':=aa) (by rw[hY];simp[execOp,go_sem,z0,f0]) ?_;unfold A7;have ct:Am aa (fun _=>False) q 68 5 t c4 IH (L.set k ((x.1.1,Y a5 y.code.length c5),x.2)):=by
    rw[hY];obtain⟨ar,bD,_⟩:=aV.blk (by omega);exact aV.YL Lb aT (by decide) _ (bF.set bD 4 _)
   have aU:∀ b,b≠q→aa.heap[b]? =r.heap[b]?:=fun b i=>by rw[hY];exact dZ _ _ _ _ i
   have da:aa.heap.size=r.heap.size:=by rw[hY];simp[ek]
   have dv:=E.size;have ce:Upd [q] p aa:=by
    have l:=HU.o.trans (Upd.below E);rw[hY];exact l.trans (Upd.Cc (M:=[q]) (by simp) (k*5) [(4,_)])
   have HF:Hq (Upd [q] p aa∧aa.heap[g+1]? =p.heap[g+1]?∧GB m.heap.size d an s B C c1 c2 c3 aa∧Am aa (fun _=>False) q 68 5 t c4 IH (L.set k ((x.1.1,Y a5 y.code.length c5),x.2))∧(L.set k ((x.1.1,Y a5 y.code.length c5),x.2)).map (·.2)=d.procs∧(∀ j z,j<k+1→(L.set k ((x.1.1,Y a5 y.code.length c5),x.2))[j]? =Z z→LH aa p.heap.size z.1.2 z.2)∧(∀ j z,k+1≤j→(L.set k ((x.1.1,Y a5 y.code.length c5),x.2))[j]? =Z z→z.1.2=X j)):=by
    refine⟨ce,(aU _ (by have:=HQ.o (by omega);have:=bU.o;omega)).trans ((E.block _ c0).trans cO.o),?_,ct,?_,fun j z hj hz=>?_,fun j z hj hz=>?_⟩
    ·obtain⟨ar,bD,_⟩:=aV.blk (by omega);exact(H3.o.below E).Ga bD fun b i _=>aU b i
    ·rw[List.map_set];have hm:L.map (·.2)=d.procs:=HM.o;rw[←hm];apply fg;intro j;by_cases e:k=j
     ·subst e;rw[eX (by simpa using aT),dP,HX.o.2.1];rfl
     ·rw[eF e]
    ·by_cases e:k=j
     ·subst e;rw[eX aT] at hz;simp only[dJ] at hz;rw[←hz];show aa.ownsRow _ _ _ _ _ _;rw[HX.o.1];exact Cx (Bp cn fun b h1 _=>aU b (by omega)) (by omega)
     ·rw[eF e] at hz;have:=aZ.o j z (by omega) hz;exact Bp this fun b h1 h2=>(aU b (by have:=cQ.o;omega)).trans (E.block b h2)
    ·rw[eF (by omega)] at hz;exact bT.o j z (by omega) hz
   clear hY ct aU da ce aV bF z0 f0 cn aw E q9 qc bV aZ bT HM HX HU;go_wp2_with fail
   go_roundw
   case rel=>exact⟨k+1,by omega,by go_num,_,HF.o⟩
   case measure=>simp[intOf];omega
  ·have c7:k=d.procs.length:=by omega
   subst c7;have br:wr.heap[g+1]? =Z (T #[.string ⟨#[]⟩,I J 0,I J 0,I J 0,Y O 0 0,I J 0,I J 0,Y O 0 0,Y O 0 0,Y O 0 0] 26 (0,0)):=bh.trans bX.o;have di:∀ o,wr.frozen? ⟨g+1,o,O⟩=false:=fun o=>by simp[em,br]
   have aN:w.heap.size≤m.heap.size:=S.o.size;have db:=b7.o;have aG:Hq (Bl w wr):=aF.o.trans ⟨l.os,l.tape,l.output,by have:=aF.o.size;have:=l.size;omega,fun b i=>l.block b (by have:=aF.o.size;omega) (by have:=aQ.o;simp only[eb];omega)⟩;obtain⟨y0,y1,y2,y3,y4,y5,y6,y7,y8,y9⟩:=DV aM;obtain⟨v0,v1,v2,v3,v4,v5,v6,v7,v8,v9⟩:=DV br;obtain⟨H3,HR,HM,aZ,HZ,bA⟩:=H6 h3 hr hm bm br aR;clear A l bh h3 hr hm bm bg br aM aR;go_wp2_with fail;show bodyPost _ _ _ _ _ (setsAt wr (g+1) 0 [(0,.string nm),(1,I J N),(2,I J H),(3,I J d.mem),(4,Y s d.semas.length c1),(5,I J d.events),(6,I J d.boards),(7,Y B d.bufs.length c2),(8,Y C d.Ab.length c3),(9,Y t d.procs.length c4)]);have hh:=Di [(0,.string nm),(1,I J N),(2,I J H),(3,I J d.mem),(4,Y s d.semas.length c1),(5,I J d.events),(6,I J d.boards),(7,Y B d.bufs.length c2),(8,Y C d.Ab.length c3),(9,Y t d.procs.length c4)] HZ.o;simp only[Er,cS,dz,dy] at hh;have aC:∀ b,b≠g+1→(setsAt wr (g+1) 0 [(0,.string nm),(1,I J N),(2,I J H),(3,I J d.mem),(4,Y s d.semas.length c1),(5,I J d.events),(6,I J d.boards),(7,Y B d.bufs.length c2),(8,Y C d.Ab.length c3),(9,Y t d.procs.length c4)]).heap[b]? =wr.heap[b]?:=fun b i=>AU i _ _
   have bC:(setsAt wr (g+1) 0 [(0,.string nm),(1,I J N),(2,I J H),(3,I J d.mem),(4,Y s d.semas.length c1),(5,I J d.events),(6,I J d.boards),(7,Y B d.bufs.length c2),(8,Y C d.Ab.length c3),(9,Y t d.procs.length c4)]).heap.size=wr.heap.size:=BO _ _;have be:=Be (b:=g+1) (o:=0) [(0,.string nm),(1,I J N),(2,I J H),(3,I J d.mem),(4,Y s d.semas.length c1),(5,I J d.events),(6,I J d.boards),(7,Y B d.bufs.length c2),(8,Y C d.Ab.length c3),(9,Y t d.procs.length c4)] wr;generalize setsAt wr (g+1) 0 [(0,.string nm),(1,I J N),(2,I J H),(3,I J d.mem),(4,Y s d.semas.length c1),(5,I J d.events),(6,I J d.boards),(7,Y B d.bufs.length c2),(8,Y C d.Ab.length c3),(9,Y t d.procs.length c4)]=dh at hh aC bC be ⊢;have dk:=bU.o;have dj:=HG.o;refine eT (v:=.agg #[.string nm,I J N,I J H,I J d.mem,Y s d.semas.length c1,I J d.events,I J d.boards,Y B d.bufs.length c2,Y C d.Ab.length c3,Y t d.procs.length c4]) (fz rfl _ _ (g+1) 26 #[.string nm,I J N,I J H,I J d.mem,Y s d.semas.length c1,I J d.events,I J d.boards,Y B d.bufs.length c2,Y C d.Ab.length c3,Y t d.procs.length c4] (0,0) _ rfl hh underlying26 rfl (by kernel_rfl)) rfl ?_;refine⟨_,rfl,⟨s,B,C,t,c1,c2,c3,c4,an,q,L,rfl,Cx (Bp H3.o.1 fun b h1 _=>aC b (by omega)) aN,Cx (Bp H3.o.2.1 fun b h1 _=>aC b (by omega)) aN,Cx (Bp H3.o.2.2 fun b h1 _=>aC b (by omega)) aN,HR.o.Ag Lb ⟨Nat.le_of_eq bC.symm,fun b hd=>hd.elim⟩ (fun h0=>aC q (by have:=HQ.o (by have:=bA.o;omega);omega)),Nat.le_of_lt aQ.o,HM.o,fun x hx=>?_⟩,⟨be.1.trans aG.o.os,be.2.1.trans aG.o.tape,be.2.2.trans aG.o.output,by rw[bC];exact aG.o.size,fun b i=>(aC b (by omega)).trans (aG.o.block b i)⟩⟩;obtain⟨j,hj⟩:=List.getElem?_of_mem hx;have dm:=(dI.1 hj).1;exact Cx (Bp (aZ.o j x (by have:=bA.o;omega) hj) fun b h1 _=>aC b (by omega)) (by omega)
section
variable {d:Ad} {n:Int} {x:Ai}
def VR(h:Eh d n x=true):JE d x:=by
 unfold Eh at h;simp only[dQ,dL,dT] at h;obtain⟨j,i⟩:=h;have f:∀ (k:Int) (c:UInt8) (m:Nat),x.op=k→(lettP k).length=m+1→(lettP k).getD 0 0=c→BD d n x.a (c.toNat:Int) x.a=true:=by
  rintro k c m rfl b g;have:=i 0 (by omega);unfold Jk at this;rw[g] at this;exact this
 refine⟨fun e=>?_,fun e=>?_,fun e=>?_,fun e=>?_,fun e=>?_,fun e=>?_⟩
 ·have b:BD d n x.a 111 x.a=true:=f 7 111 2 e (by kernel_rfl) (by kernel_rfl);rw[Pn] at b;simpa using b
 ·have b:BD d n x.a 105 x.a=true:=f 8 105 2 e (by kernel_rfl) (by kernel_rfl);rw[Pm] at b;simpa using b
 ·have b:BD d n x.a 115 x.a=true:=by
   rcases e with e|e
   ·exact f 9 115 0 e (by kernel_rfl) (by kernel_rfl)
   ·exact f 10 115 0 e (by kernel_rfl) (by kernel_rfl)
  rw[Po] at b;simpa using b
 ·have b:BD d n x.a 101 x.a=true:=by
   rcases e with e|e|e
   ·exact f 11 101 0 e (by kernel_rfl) (by kernel_rfl)
   ·exact f 12 101 0 e (by kernel_rfl) (by kernel_rfl)
   ·exact f 13 101 0 e (by kernel_rfl) (by kernel_rfl)
  rw[Pk] at b;simpa using b
 ·have b:BD d n x.a 98 x.a=true:=by
   rcases e with e|e
   ·exact f 14 98 1 e (by kernel_rfl) (by kernel_rfl)
   ·exact f 15 98 1 e (by kernel_rfl) (by kernel_rfl)
  rw[Pp] at b;simpa using b
 ·have b:BD d n x.a 100 x.a=true:=by
   rcases e with e|e|e
   ·exact f 16 100 1 e (by kernel_rfl) (by kernel_rfl)
   ·exact f 17 100 1 e (by kernel_rfl) (by kernel_rfl)
   ·exact f 18 100 0 e (by kernel_rfl) (by kernel_rfl)
  rw[Pj] at b;simpa using b
def Yd{k:CV}(h:FU k=true):k.size≤64:=by
 unfold FU at h;rw[Bool.or_eq_true] at h;rcases h with h|h
 ·simp only[DZ,dQ,decide_eq_true_eq] at h;omega
 ·simp only[BP,Fm,Ey,dQ,Bool.not_eq_true',Bool.or_eq_false_iff,decide_eq_false_iff_not] at h;omega
def OR{a b m:Int}:A5 a b m=true↔a≤m∧m≤b:=by simp[A5]
def Oc(h:E6 d=true)(m:∀ c∈d.procs,∀ x∈c.code,0≤x.op∧x.op≤255):Ik d∧JF d:=by
 unfold E6 at h;simp only[dQ,dL,OR,decide_eq_true_eq] at h;obtain⟨e,g,w,i,j,k,l,y,z,f⟩:=h;have b:∀ c∈d.procs,NB c∧∀ x∈c.code,JE d x:=fun c a=>by
  have:=f c a;unfold Gx at this;simp only[dQ,dL,OR,decide_eq_true_eq] at this;obtain⟨r,s,t,u,v⟩:=this;exact⟨⟨u,m c a,r,s,t⟩,fun x q=>VR (v x q)⟩
 refine⟨⟨k,g,by omega,by omega,i,j,e,fun c a=>(b c a).1⟩,⟨fun c a=>(b c a).2,fun p o=>Yd (l p o)⟩⟩
end
def Am.ML{w:dd}{D:Nat→Prop}{B sz g0:Nat}{t:ee}{α:Type}{El:dd→(Nat→Prop)→Nat→Nat→α→Prop}{a:Option eh}{n c:Nat}{cells:α→List dx}{l:List α}(h:w.ownsRow B t sz (Y a n c) n (l.flatMap cells))(H:l.length=n)(m:∀ x,(cells x).length=sz)(z:∀ b r,w.heap[b]? =Z (T r t (0,0))→¬D b)(E:¬D g0)(F:g0<w.heap.size)
  (C:∀ b o x,x∈l→AN w b o (cells x)→El w D b o x):∃ b,(b=g0∨B≤b)∧Am w D b t sz a c El l:=by
 obtain⟨N,h⟩:=h;rcases h with ⟨d,M⟩|⟨q,cap,cur,d,A,e,s,_,v,y⟩
 ·simp only[dF] at d;obtain⟨rfl,_,rfl⟩:=d;refine⟨g0,.inl rfl,by omega,fun _=>rfl,fun h=>by omega,E,F,fun h=>by omega,fun k f=>by omega⟩
 ·simp only[dF] at d;obtain⟨rfl,_,rfl⟩:=d;have L:n*sz≤c*sz:=e8 sz s;refine⟨q,.inr A,by omega,fun h=>by(cases h),fun _=>rfl,z q cur e,Aa e,fun _=>⟨cur,e,by rw[H,v];exact L⟩,fun k f=>C _ _ _ (dG f) fun j u p=>?_⟩;have i:=(dI.1 p).1;rw[m] at i;have K:k*sz+j<n*sz:=by
   have:(k+1)*sz≤n*sz:=e8 sz (by omega);rw[Nat.add_mul] at this;omega
  rw[Cr e];have g:=It m l k j f i;rw[←y,fd,if_pos K] at g;rw[←Array.getElem?_toList,g];exact p
def Am.at_{α β:Type}{w:dd}{D D':Nat→Prop}{b g0 sz c:Nat}{t:ee}{a:Option eh}{El:dd→(Nat→Prop)→Nat→Nat→α→Prop}{El':dd→(Nat→Prop)→Nat→Nat→β→Prop}{l:List α}{l':List β}(h:Am w D b t sz a c El l)(p:l.length=l'.length)(g:∀ b e,w.heap[b]? =Z (T e t (0,0))→¬D' b)(m:¬D' g0)(n:g0<w.heap.size)
  (j:∀ k (o:k<l.length) (q:k<l'.length),El w D b (k*sz) l[k]→El' w D' b (k*sz) l'[k]):∃ d,(d=g0∨d=b)∧Am w D' d t sz a c El' l':=by
 by_cases f:0<l.length
 ·obtain⟨e,i,_⟩:=h.blk f;exact⟨b,.inr rfl,h.conv p (g b e i) j⟩
 ·exact⟨g0,.inl rfl,by have:=h.cap;omega,h.nil,fun h=>by omega,m,n,fun h=>by omega,fun k o=>by omega⟩
def PG{w:dd}{D:Nat→Prop}{B sz n:Nat}{t:ee}{v:dx}{k:List dx}(h:w.ownsRow B t sz v n k)(i:∀ b f,B≤b→w.heap[b]? =Z (T f t (0,0))→D b):Ct D v:=fun a m c d _=>by
 rcases h.2 with ⟨e,_⟩|⟨q,cap,cur,e,g,j,_⟩
 ·rw[d] at e;cases e
 ·rw[d] at e;simp only[dF,dJ] at e;rw[e.1];exact i q cur g j
def Vh:(prog.info? 5).map (fun i=>(i.zero,i.size,i.bytes))=Z (Z (I U 0),1,1):=by kernel_rfl
def Xs(n:Nat)(f:n≤10000)(W:dd):(Instr.makeSlice 34 (I J (n:Int)) (I J (n:Int))).run prog W=.ok (Y (Z ⟨W.heap.size,0,O⟩) n n) (W.alloc (T (fc #[I U 0] (n*1)) 5)):=by
 obtain⟨e,a,b,c,d⟩:=info_parts Vh;have:=run_make (P:=prog) W 34 5 e _ underlying34 a b J J n n (by omega) (Int.le_refl _) (by rw[d];omega) (by omega);rw[c,Int.toNat_natCast] at this;exact this
def J8(B n:Nat)(v:dx)(w:dd):Prop:=∃ q,B≤q∧v=Y (Z ⟨q,0,O⟩) n n∧w.heap[q]? =Z (T (fc #[I U 0] (n*1)) 5 (0,0))
def J8.AX{B n:Nat}:DO (J8 B n):=fun _ _ _ ⟨q,b,c,a⟩ d=>⟨q,b,c,(d.block _ (Aa a)).trans a⟩
def Bx(B:Nat)(t:ee)(a:Array dx)(v:dx)(w:dd):Prop:=∃ q,B≤q∧v=G (Z ⟨q,0,O⟩)∧w.heap[q]? =Z (T a t (0,0))
def Bx.AX{B:Nat}{t:ee}{b:Array dx}:DO (Bx B t b):=fun _ _ _ ⟨q,c,d,a⟩ e=>⟨q,c,d,(e.block _ (Aa a)).trans a⟩
def RH{w:dd}{b:Nat}{d e:Array dx}{t c:ee}{f g:Nat×Nat}(h:w.heap[b]? =Z (T d t f))(a:w.heap[b]? =Z (T e c g)):t=c:=by
 rw[h] at a;simp only[dJ,Obj.cells.injEq] at a;exact a.2.1
def X0(d:Ad)(nm:ByteArray)(F E:Int)(u f:dd)(g p n:Nat)(z A B H:Option eh)(c1 c2 c3 c4:Nat)(hn:d.mem=(n:Int))(H0:Ha u.heap.size d nm F E (.agg #[.string nm,I J F,I J E,I J d.mem,Y z d.semas.length c1,I J d.events,I J d.boards,Y A d.bufs.length c2,Y B d.Ab.length c3,Y H d.procs.length c4]) f)
  (ar:u.heap.size≤p) (N:f.heap[p]? =Z (T (fc #[I U 0] (n*1)) 5 (0,0))) (aq:u.heap.size≤g) (M:f.heap[g]? =Z (T #[.string nm,I J F,I J E,I J d.mem,Y z d.semas.length c1,I J d.events,I J d.boards,Y A d.bufs.length c2,Y B d.Ab.length c3,Y H d.procs.length c4,Y O 0 0,Y O 0 0,Y O 0 0,Y O 0 0,Y O 0 0,Y O 0 0,Y O 0 0,I U 0,I J 0,Y (Z ⟨p,0,O⟩) n n,.bool true] 88 (0,0))):
  ∃ V D,PB f D g d V (Y O 0 0) (Y O 0 0) (Y O 0 0) (Y O 0 0) (Y O 0 0) (Y O 0 0) (Y O 0 0) 0 0 (ew n 0)∧(∀ b,D b→u.heap.size≤b∧b<f.heap.size)∧∀ b∈Hf g V,u.heap.size≤b∧b<f.heap.size:=by
 obtain⟨aH,aI,aJ,aK,aL,aM,aN,aO,az,q,L,e,o1,o2,o3,hr,hq,hm,i⟩:=H0;simp only[Value.agg.injEq,Array.mk.injEq,List.cons.injEq,dF,and_true,true_and] at e;obtain⟨⟨rfl,rfl⟩,⟨rfl,rfl⟩,⟨rfl,rfl⟩,rfl,rfl⟩:=e;obtain⟨D,K⟩:∃ D:Nat→Prop,D=fun b=>u.heap.size≤b∧∃ c,f.heap[b]? =Z (T c 64 (0,0)):=⟨_,rfl⟩;have s:∀ b c t,f.heap[b]? =Z (T c t (0,0))→t≠64→¬D b:=fun b c t a ht X=>by
  rw[K] at X;obtain⟨_,aP,h'⟩:=X;exact ht (RH a h')
 have v:=Aa M;have y:¬D g:=s g _ _ M (by decide);obtain⟨Q,aj,P⟩:=Am.ML (D:=D) (g0:=g) (El:=fun w _ b o (k:Nat)=>AN w b o (Gz d k)) o1 (by simp) (fun _=>rfl) (fun b c a=>s b c _ a (by decide)) y v (fun b o x _ i=>i);obtain⟨R,ak,r2⟩:=Am.ML (D:=D) (g0:=g) (El:=fun w _ b o (k:Nat)=>AN w b o (Gg d k)) o2 (by simp) (fun _=>rfl) (fun b c a=>s b c _ a (by decide)) y v (fun b o x _ i=>i);obtain⟨S,al,r3⟩:=Am.ML (D:=D) (g0:=g) (El:=fun w _ b o (k:Nat)=>AN w b o (Gw d az k)) o3 (by simp) (fun _=>rfl) (fun b c a=>s b c _ a (by decide)) y v (fun b o x _ i=>i);have ap:L.length=d.procs.length:=by rw[←hm];simp
 obtain⟨b4,am,r4⟩:=hr.at_ (El':=K3) (l':=d.procs) (D':=D) ap (fun b c a=>s b c _ a (by decide)) y v (fun k m r h=>by
  have C:d.procs[k]? =Z L[k].2:=by rw[←hm,dP,cJ m];rfl
  have C:d.procs[k]=L[k].2:=by rw[cJ r] at C;exact dc C
  have ho:=i _ (dG m);rw[C];exact⟨L[k].1.1,L[k].1.2,h,(Sl.Bw ho).mono (dE _),PG ho fun b c hB a=>by rw[K];exact⟨hB,c,a⟩⟩)
 have W:∀ {l:List Int} {k:Nat} (m:k<l.length),l.getD k 0=l[k]:=fun m=>by rw[cI,cJ m];rfl
 have s1:Am f D Q 3 1 z c1 (fun w _ b o x=>Ii w b o x) d.semas:=P.conv (by simp) P.nd fun k m r h=>by
  simp only[dU,Gz,W r] at h;exact h
 have s2:Am f D R 3 1 A c2 (fun w _ b o x=>Ii w b o x) d.bufs:=r2.conv (by simp) r2.nd fun k m r h=>by
  simp only[dU,Gg,W r] at h;exact h
 have s3:Am f D S 62 6 B c3 (fun w _ b o x=>K4 w b o x) d.Ab:=r3.conv (by simp) r3.nd fun k m r h=>by
  have e:d.Ab.getD k default=d.Ab[k]:=by rw[cI,cJ r];rfl
  simp only[dU,Gw,Ki,e] at h;exact⟨_,h⟩
 have s5:Am f D p 5 1 (Z ⟨p,0,O⟩) n (fun w _ b o x=>ElB w b o x) (ew n 0):=by
  refine Am.rep (zc:=[I U 0]) N (s p _ _ N (by decide)) rfl (by decide) (by simp[size_madeCells]) (fun j hj=>?_) fun o i=>i
  rw[Kd _ _ _ hj (by decide)];simp
 refine⟨⟨nm,F,E,⟨z,c1,Q⟩,⟨A,c2,R⟩,⟨B,c3,S⟩,⟨H,c4,b4⟩,⟨O,0,0⟩,⟨O,0,0⟩,⟨O,0,0⟩,⟨O,0,0⟩,⟨O,0,0⟩,⟨O,0,0⟩,⟨O,0,0⟩,⟨Z ⟨p,0,O⟩,n,p⟩⟩,D,⟨?_,y,s1,s2,s3,r4,s5⟩,fun b a=>?_,fun b a=>?_⟩
 ·rw[M];simp only[FA,List.length_replicate]
 ·rw[K] at a;obtain⟨h1,c,h2⟩:=a;exact⟨h1,Aa h2⟩
 ·have ao:=Aa N;have l1:=P.lt;have l2:=r2.lt;have l3:=r3.lt;have l4:=r4.lt;have aS:=hr.lt;simp only[Hf,dO,dK,or_false] at a;rcases a with rfl|rfl|rfl|rfl|rfl|rfl
  ·exact⟨aq,v⟩
  ·exact⟨by rcases aj with h|h<;>omega,l1⟩
  ·exact⟨by rcases ak with h|h<;>omega,l2⟩
  ·exact⟨by rcases al with h|h<;>omega,l3⟩
  ·exact⟨by rcases am with h|h<;>omega,l4⟩
  ·exact⟨ar,ao⟩
def Tp:EG 24:=fun _ _=>by kernel_rfl
def NA(w:dd)(d:Ad)(e:fv)(w':dd):Prop:=
 Bl w w'∧(if E6 d then ∃ g F,e=.returned (.tuple #[G (Z ⟨g,0,O⟩),I J 0])∧PX w' F g d (DB d)∧∀ b,F b→w.heap.size≤b else e=.returned (.tuple #[G O,I J 2]))
def Xz(B:Nat)(d:Ad)(nm:ByteArray)(k j:Int)(A r t s:Option eh)(z u co y:Nat)(w:dd)(aD:C6 w (Y A d.semas.length z) d.semas)(aw:C6 w (Y r d.bufs.length u) d.bufs)(a0:∀ n∈d.bufs,-9223372036854775808≤n∧n≤9223372036854775807)(aC:Ex w (Y t d.Ab.length co) d.Ab)(aB:Gd w (Y s d.procs.length y) d.procs)(az:∀ c∈d.procs,∀ i∈c.code,0≤i.op∧i.op≤255)(ai:Gl B w)(GS:Ce w):
  dD prog 9 #[.agg #[.string nm,I J k,I J j,I J d.mem,Y A d.semas.length z,I J d.events,I J d.boards,Y r d.bufs.length u,Y t d.Ab.length co,Y s d.procs.length y]] w (NA w d):=by
 have bk:16≤w.heap.size:=dX ai.hb ai.hw;obtain⟨V,hW⟩:=ex (w.alloc (T #[.string nm,I J k,I J j,I J d.mem,Y A d.semas.length z,I J d.events,I J d.boards,Y r d.bufs.length u,Y t d.Ab.length co,Y s d.procs.length y] 26));have m:Bl w V:=by rw[hW];exact(cK _ w).alloc (cY _) _
 have ax:V.heap[w.heap.size]? =Z (T #[.string nm,I J k,I J j,I J d.mem,Y A d.semas.length z,I J d.events,I J d.boards,Y r d.bufs.length u,Y t d.Ab.length co,Y s d.procs.length y] 26 (0,0)):=by rw[hW];exact de _ _
 obtain⟨aj,HW,M,ak⟩:=H4 (RS d nm k j A r t s z u co y V (AW.below aD m) (AW.below aw m) a0 (aC.below m) (aB.below m) az (GS.below bk m) (by have:=m.size;omega)) hW m ax;have HP:=HH (show ∀ X,Bl V X→Ik d→dD prog 24 #[.agg #[.string nm,I J k,I J j,I J d.mem,Y A d.semas.length z,I J d.events,I J d.boards,Y r d.bufs.length u,Y t d.Ab.length co,Y s d.procs.length y]] X (N6 X d nm k j) from fun X F ok=>by
  have a:=m.trans (F.mono m.size);exact Sw d nm k j A r t s z u co y X (AW.below aD a) (AW.below aw a) (aC.below a) (aB.below a) ok)
 obtain⟨HG,bg⟩:=H2 ai az;unfold NA;obtain⟨x0,x1,x2,x3,x4,x5,x6,x7,x8,x9⟩:=DV ax;clear hW m ax aD aw a0 aC aB az ai GS;cases ad:E6 d with
 |false=>
  rw[ad] at aj;clear ad;go_enter func9,ntmps9;go_upto_region 1 with (fail);rw[←HW.o];obtain⟨g0,l⟩:=ex w.heap.size;rw[←l] at x0 x1 x2 x3 x4 x5 x6 x7 x8 x9 ak ⊢;have bd:=HH l;clear l;go_wp2_with (go_at_call 23;refine aj.o.mono ?_;rintro e H ⟨rfl,F⟩)
  go_ret2
  exact⟨M.o.trans (F.mono M.o.size),rfl⟩
 |true=>
  obtain⟨aF,bD⟩:=Oc ad bg.o;rw[ad] at aj;have aV:=HH aF;have hm:=aF.mem;obtain⟨n,hn⟩:∃ n:Nat,d.mem=(n:Int):=⟨d.mem.toNat,by omega⟩;have bG:n≤4096:=by omega
  have HN:=HH hn;clear ad aF bD hm hn;go_enter func9,ntmps9;go_upto_region 1 with (fail);rw[←HW.o];obtain⟨g0,l⟩:=ex w.heap.size;rw[←l] at x0 x1 x2 x3 x4 x5 x6 x7 x8 x9 ak ⊢;have bd:=HH l;clear l;go_upto_region 3 with (first|(go_at_call 23;refine aj.o.mono ?_;rintro e H ⟨rfl,F⟩)|fail);have bs:g0<V.heap.size:=Aa ak.o;have ae:=(F.block g0 bs).trans ak.o;have bt:=Aa ae;have E:=HH F;obtain⟨q0,q1,q2⟩:=q3 ae;have q3:∀ p:Ak H,p.W.cell? ⟨g0,3,O⟩=Z (I J (n:Int)):=fun p=>(p.h.cell (p:=⟨g0,3,O⟩) bt).trans ((Cr ae).trans (by rw[←HN.o];rfl));obtain⟨-,-,-,-,q4,q5,q6,q7,q8,q9⟩:=q10 ae;clear x0 x1 x2 x3 x4 x5 x6 x7 x8 x9 ae F;refine BQ 5 [(1,Ha H.heap.size d nm k j),(4,J8 H.heap.size n)] ⟨Ha.AX,J8.AX,trivial⟩ ?_
  iterate 1 (refine AK rfl ?_;intro K hK;go_big_quiet_op;go_big_quiet_on)
  refine Ca rfl (fun w' a hA=>?_) ?_
  ·refine AD (f:=24) (al:=[.agg #[.string nm,I J k,I J j,I J (n:Int),Y A d.semas.length z,I J d.events,I J d.boards,Y r d.bufs.length u,Y t d.Ab.length co,Y s d.procs.length y]]) rfl rfl rfl Tp ?_;have:=HP.o w' (E.o.trans (a.mono E.o.size)) aV.o;rw[HN.o] at this;exact this.mono fun e w3 h=>by
    obtain⟨v,he,hv,S⟩:=h;refine⟨_,he,S,?_⟩;obtain⟨N,P,Q,R,c1,c2,c3,c4,bC,q,L,h0,h1,h2,h3,h4,h5,h6,h7⟩:=hv;exact⟨N,P,Q,R,c1,c2,c3,c4,bC,q,L,by rw[h0],Cx h1 a.size,Cx h2 a.size,Cx h3 a.size,h4,dX a.size h5,h6,fun x hx=>Cx (h7 x hx) a.size⟩
  intro v w' a hv;obtain⟨N,P,Q,R,c1,c2,c3,c4,_,_,_,rfl,aA⟩:=hv;clear aA a w';simp only[Au,cS,dz,dy]
  iterate 2 (refine AK rfl ?_;intro K hK;go_big_quiet_op;go_big_quiet_on)
  refine Ca rfl (fun w' a hA=>?_) ?_
  ·exact Bn (v:=Y (Z ⟨w'.heap.size,0,O⟩) n n) (w':=w'.alloc (T (fc #[I U 0] (n*1)) 5)) (by simp[execOp,go_sem,Xs n (by omega) w']) ⟨(cK _ _).alloc (cY _) _,⟨w'.heap.size,a.size,rfl,de _ _⟩⟩
  intro v w' a hv;obtain⟨qm,_,rfl,aA⟩:=hv;clear aA a w';simp only[Au,cS,dz,dy];refine BN ?_;intro C ar aE;simp only[dM,dV,ec];have H0:Ha H.heap.size d nm k j (.agg #[.string nm,I J k,I J j,I J d.mem,Y N d.semas.length c1,I J d.events,I J d.boards,Y P d.bufs.length c2,Y Q d.Ab.length c3,Y R d.procs.length c4]) C:=aE 1 _ (by decide) rfl;obtain⟨bJ,a9,e,ay⟩:J8 H.heap.size n (Y (Z ⟨qm,0,O⟩) n n) C:=aE 4 _ (by decide) rfl;simp only[dF,dJ,ei,and_true,true_and] at e;subst e;obtain⟨W3,ap⟩:=ex (C.alloc (T #[.string nm,I J k,I J j,I J d.mem,Y N d.semas.length c1,I J d.events,I J d.boards,Y P d.bufs.length c2,Y Q d.Ab.length c3,Y R d.procs.length c4,Y O 0 0,Y O 0 0,Y O 0 0,Y O 0 0,Y O 0 0,Y O 0 0,Y O 0 0,I U 0,I J 0,Y (Z ⟨qm,0,O⟩) n n,.bool true] 88));have S:Bl C W3:=by rw[ap];exact(cK _ C).alloc (cY _) _
  have a6:W3.heap[C.heap.size]? =Z (T #[.string nm,I J k,I J j,I J d.mem,Y N d.semas.length c1,I J d.events,I J d.boards,Y P d.bufs.length c2,Y Q d.Ab.length c3,Y R d.procs.length c4,Y O 0 0,Y O 0 0,Y O 0 0,Y O 0 0,Y O 0 0,Y O 0 0,Y O 0 0,I U 0,I J 0,Y (Z ⟨qm,0,O⟩) n n,.bool true] 88 (0,0)):=by rw[ap];exact de _ _
  obtain⟨aT,au,bi⟩:=H3 (X0 d nm k j H W3 C.heap.size qm n N P Q R c1 c2 c3 c4 HN.o (Ha.AX _ _ _ H0 S) a9 ((S.block qm (Aa ay)).trans ay) ar.size a6) (ar.trans (S.mono ar.size)) ap;clear aE H0 a9 ay a6 ar S ap q0 q1 q2 q3 q4 q5 q6 q7 q8 q9;obtain⟨g,l⟩:=ex C.heap.size;rw[←l] at aT;have bf:=HH l;clear l;obtain⟨hd,D,a8,hD,h5⟩:=aT.o;have be:Hq (Gl B W3):=(HG.o.below M.o).below (E.o.trans (au.o.mono E.o.size));have a5:B≤g:=by
   have h1:=HG.o.hw;have h2:=M.o.size;have h3:=E.o.size;have h4:=(h5 g (by simp[Hf])).1;omega
  obtain⟨bb,bc,H5⟩:=H3 (K9 B W3 D g d hd _ _ _ _ _ _ _ 0 0 (ew n 0) 1 be.o a5 a8 aV.o fun b a=>(hD b a).2) hD h5;clear a8 hD h5 a5;go_upto_region 4 with (fail);rw[←bi.o,←bf.o];go_wp2_with (go_at_call 25;refine bb.o.mono ?_;rintro e w3 ⟨rfl,hend,hu⟩)
  go_ret2
  obtain⟨bq,bx,bo⟩:=hend;have bI:=au.o.size;have bA:=E.o.size;have bz:=M.o.size;have bH:=hu.size;have bw:DB d=Ez d 1 0 (ew n 0):=by
   show Ez d 1 0 (ew d.mem.toNat 0)=_;rw[HN.o];rfl
  have aq:Bl w W3:=M.o.trans ((E.o.trans (au.o.mono bA)).mono bz);refine⟨⟨hu.os.trans aq.os,hu.tape.trans aq.tape,hu.output.trans aq.output,by omega,fun b a=>(hu.block b (by omega) (by have:=(H5.o g (by simp[Hf])).1;simp only[eb];omega)).trans (aq.block b a)⟩,?_⟩;simp only[if_true];refine⟨g,rfl,fun b=>w.heap.size≤b∧b<w3.heap.size,?_,fun b a=>a.1⟩;rw[bw];refine⟨fun b a=>a.2,bq,D,bx,fun b a=>?_,fun b a=>?_⟩
  ·have:=bc.o b a;omega
  ·rcases bo b a with h|h
   ·have:=H5.o b h;omega
   ·omega
structure Lv(B:Nat)(w:dd)(F:Nat→Prop)(g:Nat)(d:Ad)(s:Ae):Prop where
 gl:Gl B w
 fb:∀ b,F b→B≤b
 px:PX w F g d s
 good:Good d s
 okx:JF d
def Dr(B:Nat)(w:dd)(F:Nat→Prop)(g:Nat)(d:Ad)(a:Ae)(w':dd):Prop:=Lv B w' (Gr w w' F) g d a∧Fr F w w'
section
variable {B:Nat} {w w' w1 w2 w3:dd} {F F':Nat→Prop} {g:Nat} {d:Ad} {s s':Ae}
def Fr.gl(h:Fr F w w')(c:∀ b,F b→B≤b)(a:Gl B w):Gl B w':=a.Ag h.size fun k f=>h.block k (dC f a.hw) fun e=>by have:=c k e;omega
def Lv.lt(h:Lv B w F g d s)(b:Nat)(a:b<B∨F b):b<w.heap.size:=by
 rcases a with a|a
 ·exact dC a h.gl.hw
 ·exact h.px.1 b a
def Lv.Ag(h:Lv B w F g d s)(c:w.heap.size≤w'.heap.size)(a:∀ b,b<B∨F b→w'.heap[b]? =w.heap[b]?):Lv B w' F g d s:=
 ⟨h.gl.Ag c fun k f=>a k (.inl f),h.fb,h.px.Ag c fun b e=>a b (.inr e),h.good,h.okx⟩
def Lv.below(h:Lv B w F g d s)(a:Bl w w'):Lv B w' F g d s:=h.Ag a.size fun b c=>a.block b (h.lt b c)
def Lv.other(h:Lv B w F g d s)(k:Fr F' w w')(c:∀ b,F' b→B≤b)(e:∀ b,F b→¬F' b):Lv B w' F g d s:=
 h.Ag k.size fun b a=>k.block b (h.lt b a) (by
  rcases a with a|a
  ·intro f;have:=c b f;omega
  ·exact e b a)
def Lv.mono(h:Lv B w F g d s)(c:∀ b,F b→F' b)(k:∀ b,F' b→b<w.heap.size)(i:∀ b,F' b→B≤b):Lv B w F' g d s:=by
 obtain⟨_,j,D,l,e,f⟩:=h.px;exact⟨h.gl,i,⟨k,j,D,l,fun b a=>c b (e b a),fun b a=>c b (f b a)⟩,h.good,h.okx⟩
def Lv.op(h:Lv B w F g d s)(f:PX w' (Gr w w' F) g d s')(c:Fr F w w')(e:Good d s'):Dr B w F g d s' w':=
 ⟨⟨c.gl h.fb h.gl,fun b a=>by
  rcases a with a|a
  ·exact h.fb b a
  ·have:=h.gl.hw;omega,f,e,h.okx⟩,c⟩
def Fr.low{N:Nat}(h:Fr F w w')(a:∀ b,F b→N≤b)(e:N≤w.heap.size):fp N w w':=⟨h.os,h.tape,h.output,h.size,fun b f=>h.block b (by omega) fun c=>by have:=a b c;omega⟩
def Lv.same(h:Lv B w F g d s)(a:Bl w w'):Dr B w F g d s w':=h.op (h.px.Iw a) (Fr.below a) h.good
def Dr.Pw(e:Bl w w1)(h:Dr B w1 F g d s' w2)(k:∀ b,F b→b<w.heap.size)(r:B≤w.heap.size)(p:w2.heap.size≤w3.heap.size)(j:∀ b,b<w2.heap.size→(b<w.heap.size∨w1.heap.size≤b)→w3.heap[b]? =w2.heap[b]?)(n:w3.os=w2.os)(q:w3.tape=w2.tape)(o:w3.output=w2.output):Dr B w F g d s' w3:=by
 obtain⟨f,c⟩:=h;have t:=e.size;have u:=c.size;have m:∀ b,b<B∨Gr w1 w2 F b→w3.heap[b]? =w2.heap[b]?:=fun b a=>j b (f.lt b a) (by
  rcases a with a|a|a
  ·exact .inl (by omega)
  ·exact .inl (k b a)
  ·exact .inr a.1)
 refine⟨(f.Ag p m).mono (fun b a=>?_) (fun b a=>?_) (fun b a=>?_),⟨n.trans (c.os.trans e.os),q.trans (c.tape.trans e.tape),o.trans (c.output.trans e.output),by omega,fun b i l=>?_⟩⟩
 ·rcases a with a|a
  ·exact .inl a
  ·exact .inr (by omega)
 ·rcases a with a|a
  ·have:=k b a;omega
  ·exact a.2
 ·rcases a with a|a
  ·exact f.fb b (.inl a)
  ·omega
 ·rw[j b (by omega) (.inl i),c.block b (by omega) l];exact e.block b i
def QF(h:Lv B w F g d s)(now:Int):dD prog 17 #[G (Z ⟨g,0,O⟩),I J now] w fun e w'=>
  ∃ c f,e=.returned (.tuple #[.agg #[I J (A3 d now s).2.ran,I U (A3 d now s).2.act.kind,I J (A3 d now s).2.act.a,I J (A3 d now s).2.act.b,c,f],I J (A3 d now s).2.e])∧Af U w' w.heap.size c (A3 d now s).2.act.data∧BJ w' w.heap.size f (A3 d now s).2.faults∧Dr B w F g d (A3 d now s).1 w':=by
 refine(Ze B w F g d s now h.gl h.fb h.px h.good.ok h.okx.co h.good.bv h.good.st).mono ?_;rintro e w' ⟨c,f,m,i,j,k,l⟩;exact⟨c,f,m,i,j,h.op k l (h.good.tick h.okx)⟩
def SH(h:Lv B w F g d s)(k p:Int):dD prog 16 #[G (Z ⟨g,0,O⟩),I U k,I J p] w fun e w'=>e=.returned (I J (Br d k p s).2)∧Dr B w F g d (Br d k p s).1 w':=by
 refine(SG B w F g d s k p h.gl h.fb h.px h.good.ok).mono ?_;rintro e w' ⟨c,a,b⟩;exact⟨c,h.op a b (h.good.S8 k p)⟩
def S6(h:Lv B w F g d s)(now a:Int)(c:dx)(data:List Int)(k:A4 w (fun b=>¬F b) c data)(l:data.length≤100000)(f:Bf data):
  dD prog 19 #[G (Z ⟨g,0,O⟩),I J now,I J a,c] w fun e w'=>e=.returned (I J (Dc d now a data s).2)∧Dr B w F g d (Dc d now a data s).1 w':=by
 refine(S7 B w F g d s now a c data h.gl h.fb h.px h.good.ok h.okx.ps h.good.qn k l f).mono ?_;rintro e w' ⟨m,i,j⟩;exact⟨m,h.op i j (h.good.S5 h.okx f)⟩
def So(h:Lv B w F g d s)(a:Int):dD prog 21 #[G (Z ⟨g,0,O⟩),I J a] w fun e w'=>∃ v,e=.returned (.tuple #[v,I J (ET d a s).2.2])∧BS w' (Gr w w' F) v (ET d a s).2.1∧Dr B w F g d (ET d a s).1 w':=by
 refine(Sp B w F g d s a h.gl h.fb h.px h.good.ok).mono ?_;rintro e w' ⟨v,i,b,c,f⟩;exact⟨v,i,b,h.op c f h.good.collect⟩
def Zs(h:Lv B w F g d s):dD prog 10 #[G (Z ⟨g,0,O⟩)] w (NQ w s):=by
 obtain⟨_,a,D,b,_,_⟩:=h.px;exact Zp w D g d a s b h.good.ok h.good.bv
end
def LM(a b c d e f g h:Option eh)(c1 c2 c3 c4 c5 i j k l:Nat)(w:dd)(B:Nat)(s:Ae):Prop:=
 JJ w B s (Y a s.procs.length c1) (Y b s.mem.length c2) (Y c s.semas.length c3) (Y d s.events.length c4) (Y e s.boards.length c5) (Y f s.queues.length i) (Y g s.queues.length j) (Y h l k)
def NR(w:dd)(s:Ae)(e:fv)(w':dd):Prop:=
 ∃ (a b c d f g h i:Option eh) (c1 c2 c3 c4 c5 j k l m:Nat),e=.returned (.agg #[I U s.mode,I J s.clock,Y a s.procs.length c1,Y b s.mem.length c2,Y c s.semas.length c3,Y d s.events.length c4,Y f s.boards.length c5,Y g s.queues.length j,Y h s.queues.length k,Y i m l])∧LM a b c d f g h i c1 c2 c3 c4 c5 j k l m w' w.heap.size s∧Bl w w'
def J3{B:Nat}{w:dd}{F:Nat→Prop}{g:Nat}{d:Ad}{s:Ae}(h:Lv B w F g d s):dD prog 10 #[G (Z ⟨g,0,O⟩)] w (NR w s):=by
 refine(Zs h).mono ?_;rintro e w' ⟨L,H,vs,D,C,K,E,M,rfl,r,A⟩;obtain⟨j,c1,x,_⟩:=r.pr;obtain⟨k,c2,y,_⟩:=r.me;obtain⟨l,c3,a,_⟩:=r.se;obtain⟨m,c4,b,_⟩:=r.ev;obtain⟨n,c5,c,_⟩:=r.bo;obtain⟨o,t,f,_⟩:=r.po;obtain⟨p,u,i,_⟩:=r.lo;obtain⟨q,v,z⟩:=r.bu.C2;simp only[dW,ff] at a b c f i;subst x y a b c f i z;exact⟨j,k,l,m,n,o,p,q,c1,c2,c3,c4,c5,t,u,v,_,rfl,r,A⟩
section
variable (m k:Int) (a1 a2 a3 a4 a5 a6 a7 a8:Option eh) (n1 c1 n2 c2 n3 c3 n4 c4 n5 c5 n6 c6 n7 c7 n8 c8:Nat) (w:dd)
def Uu:(eO 37 (.agg #[I U m,I J k,Y a1 n1 c1,Y a2 n2 c2,Y a3 n3 c3,Y a4 n4 c4,Y a5 n5 c5,Y a6 n6 c6,Y a7 n7 c7,Y a8 n8 c8]) 1).run prog w=.ok (I J k) w:=by
 simp[eO,asAgg,go_sem]
def Uv:(eO 37 (.agg #[I U m,I J k,Y a1 n1 c1,Y a2 n2 c2,Y a3 n3 c3,Y a4 n4 c4,Y a5 n5 c5,Y a6 n6 c6,Y a7 n7 c7,Y a8 n8 c8]) 2).run prog w=.ok (Y a1 n1 c1) w:=by
 simp[eO,asAgg,go_sem]
end
def JD(B:Nat)(w:dd)(d:Ad)(e:fv)(w':dd):Prop:=
 Bl w w'∧(if E6 d then ∃ g F,e=.returned (.tuple #[G (Z ⟨g,0,O⟩),I J 0])∧Lv B w' F g d (DB d)∧∀ b,F b→w.heap.size≤b else e=.returned (.tuple #[G O,I J 2]))
def MG(B:Nat)(d:Ad)(nm:ByteArray)(v u:Int)(r j l k:Option eh)(p m co o:Nat)(w:dd)(H:C6 w (Y r d.semas.length p) d.semas)(z:C6 w (Y j d.bufs.length m) d.bufs)(y:∀ n∈d.bufs,-9223372036854775808≤n∧n≤9223372036854775807)(E:Ex w (Y l d.Ab.length co) d.Ab)(D:Gd w (Y k d.procs.length o) d.procs)(t:∀ c∈d.procs,∀ i∈c.code,0≤i.op∧i.op≤255)(f:Gl B w)(x:Ce w):
  dD prog 9 #[.agg #[.string nm,I J v,I J u,I J d.mem,Y r d.semas.length p,I J d.events,I J d.boards,Y j d.bufs.length m,Y l d.Ab.length co,Y k d.procs.length o]] w (JD B w d):=by
 refine(Xz B d nm v u r j l k p m co o w H z y E D t f x).mono ?_;rintro e w' ⟨a,h⟩;refine⟨a,?_⟩;by_cases q:E6 d=true
 ·rw[if_pos q] at h ⊢;obtain⟨g,F,A,C,s⟩:=h;obtain⟨K,L⟩:=Oc q t;exact⟨g,F,A,⟨f.below a,fun b a=>dX f.hw (s b a),C,UK K,L⟩,s⟩
 ·rw[if_neg q] at h ⊢;exact h
def DU:Im:=⟨0,zeroA,[],2⟩
def Fl(d:Ad)(a:List Int)(s:Ae):Ae×Im:=
 if a.length≠4 then(s,DU)
 else if a.getD 0 0%9=6 then((Dc d (s.clock+a.getD 1 0%6) (a.getD 2 0) (EE (a.getD 3 0)) s).1,DU)
 else if a.getD 0 0%9=7 then((ET d (a.getD 2 0) s).1,DU)
 else if a.getD 0 0%9=8 then((Br d (a.getD 2 0%256) (a.getD 3 0) s).1,DU)
 else A3 d (s.clock+a.getD 1 0%6) s
def Hh(w:dd)(B:Nat)(t:Im)(v:dx):Prop:=∃ (e:Option eh) (g f:Nat) (c:Option eh) (d:Nat),v=.agg #[I J t.ran,I U t.act.kind,I J t.act.a,I J t.act.b,Y e g f,Y c t.faults.length d]∧BJ w B (Y c t.faults.length d) t.faults
def BJ.nil(w:dd)(B:Nat):BJ w B (Y O 0 0) []:=(BF.nil w B).rd
def BJ.Ag{w w':dd}{B:Nat}{v:dx}{l:List CG}(h:BJ w B v l)(s:w.heap.size≤w'.heap.size)(k:∀ b,B≤b→b<w.heap.size→w'.heap[b]? =w.heap[b]?):BJ w' B v l:=by
 obtain⟨c,cap,q,f,g,i,o⟩:=h;refine⟨c,cap,q,f,g,i,fun d=>?_⟩;obtain⟨b,r,e,a,n,m⟩:=o d;exact⟨b,r,e,a,by omega,fun j u p=>(Gh (k b a n) _).trans (m j u p)⟩
def BJ.mono{w:dd}{B a:Nat}{v:dx}{l:List CG}(h:BJ w B v l)(b:a≤B):BJ w a v l:=Sl.mono h b
def Hh.none(w:dd)(B:Nat):Hh w B DU (.agg #[I J 0,I U 0,I J 0,I J 0,Y O 0 0,Y O 0 0]):=⟨_,_,_,_,_,rfl,BJ.nil w B⟩
def XX{w:dd}{B:Nat}{F:Nat→Prop}{v:dx}{l:List Int}(h:C5 w B v l)(a:∀ b,F b→b<B):A4 w (fun b=>¬F b) v l:=
 ⟨(Sl.Bw h).mono (dE _),PG h fun b d e _ c=>by have:=a b c;omega⟩
def TH:EG 10:=fun _ _=>by kernel_rfl
def Zd{c:Func}{p u:Tmp}(h:c.results=#[.cell p 43,.tmp u])(b:Array dx)(W:dd)(q:Nat)(a:Array dx)(ok:Bool)(d:b[p]?.getD dN=G (Z ⟨q,0,O⟩))(i:b[u]?.getD dN=.bool ok)(e:W.heap[q]? =Z (T a 43 (0,0)))(g:a.size=6):
  (results c b).run prog W=.ok (.tuple #[.agg a,.bool ok]) W:=by
 have f:=run_loadVar_row W q 43 43 a (0,0) _ e underlying43 rfl (by rw[g];kernel_rfl);rw[results_cell_tmp h];simp[asAddr,d,i,f]
def JM(B:Nat)(w r H c:dd)(F:Nat→Prop)(g:Nat)(d:Ad)(E:Ae)(t:Im)(vs:List dx)(j f:Option eh)(l k m i:Nat)(x:Bl w r)(h:Dr B r F g d E H)(Q:∀ b,F b→b<w.heap.size)(M:B≤w.heap.size)(W:w.heap.size<r.heap.size)(n:Bl H c)(S:c.heap[w.heap.size]? =Z (T #[I J 0,I U 0,I J 0,I J 0,Y O 0 0,Y O 0 0] 43 (0,0)))
  (D:BJ c r.heap.size (Y f m i) t.faults) {A:Func} {u:Tmp} (P:A.results=#[.cell 4 43,.tmp u]) (q:Array dx) (R:q[4]?.getD dN=G (Z ⟨w.heap.size,0,O⟩)) (V:q[u]?.getD dN=.bool (decide (t.e=0))):
  bodyPost prog A (fun e w'=>∃ v,e=.returned (.tuple #[v,.bool (decide (t.e=0))])∧Hh w' w.heap.size t v∧Dr B w F g d E w') .ret ⟨q,[]⟩ (setsAt c w.heap.size 0 [(0,I J t.ran),(1,I U t.act.kind),(2,I J t.act.a),(3,I J t.act.b),(4,Y j l k),(5,Y f m i)]):=by
 have y:=Di [(0,I J t.ran),(1,I U t.act.kind),(2,I J t.act.a),(3,I J t.act.b),(4,Y j l k),(5,Y f m i)] S;simp only[Er,cS,dz,dy] at y;have s:∀ b,b≠w.heap.size→(setsAt c w.heap.size 0 [(0,I J t.ran),(1,I U t.act.kind),(2,I J t.act.a),(3,I J t.act.b),(4,Y j l k),(5,Y f m i)]).heap[b]? =c.heap[b]?:=fun b x=>AU x _ _
 have N:(setsAt c w.heap.size 0 [(0,I J t.ran),(1,I U t.act.kind),(2,I J t.act.a),(3,I J t.act.b),(4,Y j l k),(5,Y f m i)]).heap.size=c.heap.size:=BO _ _;have p:=Be (b:=w.heap.size) (o:=0) [(0,I J t.ran),(1,I U t.act.kind),(2,I J t.act.a),(3,I J t.act.b),(4,Y j l k),(5,Y f m i)] c;generalize setsAt c w.heap.size 0 [(0,I J t.ran),(1,I U t.act.kind),(2,I J t.act.a),(3,I J t.act.b),(4,Y j l k),(5,Y f m i)]=K at y s N p ⊢;have X:=n.size;obtain⟨_,_,z,_⟩:=D.open_;simp only[dF] at z;obtain⟨_,rfl,_⟩:=z;refine eT (Zd P q K w.heap.size _ _ R V y rfl) rfl ⟨_,rfl,⟨j,l,k,f,i,rfl,(D.Ag (by omega) fun b C L=>s b (by omega)).mono (by omega)⟩,?_⟩;exact Dr.Pw x h Q M (by omega) (fun b C L=>(s b (by omega)).trans (n.block b C)) (p.1.trans n.os) (p.2.1.trans n.tape) (p.2.2.trans n.output)
def JL(B:Nat)(w:dd)(F:Nat→Prop)(g:Nat)(d:Ad)(s:Ae)(h:Lv B w F g d s)(bE:dx)(c:List Int)(bm:Af J w 0 bE c):
  dD prog 11 #[G (Z ⟨g,0,O⟩),bE] w fun e w'=>∃ v,e=.returned (.tuple #[v,.bool (decide ((Fl d c s).2.e=0))])∧Hh w' w.heap.size (Fl d c s).2 v∧Dr B w F g d (Fl d c s).1 w':=by
 obtain⟨ao,cap,rfl,bK,bZ,pa⟩:=bm.open_;obtain⟨W1,hW⟩:=ex (w.alloc (T #[I J 0,I U 0,I J 0,I J 0,Y O 0 0,Y O 0 0] 43));have M:Bl w W1:=by rw[hW];exact(cK _ w).alloc (cY _) _
 have aQ:W1.heap[w.heap.size]? =Z (T #[I J 0,I U 0,I J 0,I J 0,Y O 0 0,Y O 0 0] 43 (0,0)):=by rw[hW];exact de _ _
 obtain⟨H,H1,HW,bc,ai⟩:=H5 h (h.below M) hW M aQ;have au:Hq (w.heap.size<W1.heap.size):=Aa aQ;obtain⟨r,hr⟩:=ex (Fl d c s);rw[←hr];by_cases hn:c.length=4
 ·have bB:((c.length:Nat):Int)=4:=by omega
  obtain⟨E,V,rfl,_,aJ,pc⟩:=pa (by omega);have g0:∀ j,j<4→w.cell? ⟨E,V+j,O⟩=Z (I J (c.getD j 0)):=fun j hj=>by
   rw[cI,cJ (show j<c.length by omega)];exact pc j (by omega)
  have e0:=(M.cell (p:=⟨E,V+0,O⟩) aJ).trans (g0 0 (by decide));have e1:=(M.cell (p:=⟨E,V+1,O⟩) aJ).trans (g0 1 (by decide));have e2:=(M.cell (p:=⟨E,V+2,O⟩) aJ).trans (g0 2 (by decide));have e3:=(M.cell (p:=⟨E,V+3,O⟩) aJ).trans (g0 3 (by decide));rw[dR] at e0;have S:E<W1.heap.size:=dC aJ M.size;have L:r=(if c.getD 0 0%9=6 then((Dc d (s.clock+c.getD 1 0%6) (c.getD 2 0) (EE (c.getD 3 0)) s).1,DU) else if c.getD 0 0%9=7 then((ET d (c.getD 2 0) s).1,DU) else if c.getD 0 0%9=8 then((Br d (c.getD 2 0%256) (c.getD 3 0) s).1,DU) else A3 d (s.clock+c.getD 1 0%6) s):=by
   rw[hr];unfold Fl;rw[if_neg (by omega)]
  clear hr;generalize c.getD 0 0=y at*;generalize c.getD 1 0=o1 at*;generalize c.getD 2 0=o2 at*;generalize c.getD 3 0=D at*;rw[hn] at bK ⊢;have HA:=HH L;clear L hn bB bm pa pc g0 h aQ M hW;have bW:=H.o.good.ok.clock;have bI:Hq (∀ W,dD prog 20 #[I J o1,I J 6] W fun e w'=>e=.returned (I J (o1%6))∧w'=W):=fun W=>Jj o1 6 (by decide) (by decide) W;have b1:0≤o1%6:=by omega
  have b2:o1%6<6:=by omega
  generalize o1%6=x1 at*;have q0:=qC e0 S;have q1:=qC e1 S;have q2:=qC e2 S;have q3:=qC e3 S;obtain⟨bs,bt,bu⟩:=H3 e0 e2 e3;clear e0 e1 e2 e3;go_enter func11,ntmps11;go_upto_region 3 with (fail);rw[←HW.o];obtain⟨q,hq⟩:=ex w.heap.size;rw[←hq] at ai au ⊢;have x:=HH hq;clear hq;refine BQ 9 [(1,fun v _=>∃ (a1 a2 a3 a4 a5 a6 a7 a8:Option eh) (c1 c2 c3 c4 c5 c6 c7 c8 n8:Nat),v=.agg #[I U s.mode,I J s.clock,Y a1 s.procs.length c1,Y a2 s.mem.length c2,Y a3 s.semas.length c3,Y a4 s.events.length c4,Y a5 s.boards.length c5,Y a6 s.queues.length c6,Y a7 s.queues.length c7,Y a8 n8 c8]),(6,fun v _=>v=I J x1)] ⟨Ch,Ch,trivial⟩ ?_
  iterate 1 (refine AK rfl ?_;intro K hK;go_big_quiet_op;go_big_quiet_on)
  refine Ca rfl (fun w' z L=>?_) ?_
  ·refine AD (f:=10) (al:=[G (Z ⟨g,0,O⟩)]) rfl rfl rfl TH ?_;exact(J3 (H1.o.below z)).mono fun e w2 h=>by
    obtain⟨a1,a2,a3,a4,a5,a6,a7,a8,c1,c2,c3,c4,c5,c6,c7,c8,n8,he,_,bk⟩:=h;exact⟨_,he,bk,a1,a2,a3,a4,a5,a6,a7,a8,c1,c2,c3,c4,c5,c6,c7,c8,n8,rfl⟩
  intro v w' z hv;obtain⟨a1,a2,a3,a4,a5,a6,a7,a8,c1,c2,c3,c4,c5,c6,c7,c8,n8,rfl⟩:=hv;clear z w';have bX:=Uu s.mode s.clock a1 a2 a3 a4 a5 a6 a7 a8 s.procs.length c1 s.mem.length c2 s.semas.length c3 s.events.length c4 s.boards.length c5 s.queues.length c6 s.queues.length c7 n8 c8;simp only[Au,cS,dz,dy]
  iterate 4 (refine AK rfl ?_;intro K hK;go_big_quiet_op;go_big_quiet_on)
  refine Ca rfl (fun w' z L=>?_) ?_
  ·refine AD (f:=20) (al:=[I J o1,I J 6]) rfl rfl rfl T6 ?_;exact(bI.o w').mono fun e w2 h=>by
    obtain⟨he,rfl⟩:=h;exact⟨_,he,cK _ _,rfl⟩
  intro v w' z hv;subst hv;clear z w';simp only[Au,cS,dz,dy]
  iterate 2 (refine AK rfl ?_;intro K hK;go_big_quiet_op;go_big_quiet_on)
  refine BN ?_;intro A C bO;simp only[dM,dV,ec];have bT:=HH C;have aT:E<A.heap.size:=dC S C.size;have y0:=(C.cell (p:=⟨E,V,O⟩) S).trans bs.o;obtain⟨aN,bd,aj,H9⟩:=H4 ((C.cell (p:=⟨E,V+2,O⟩) S).trans bt.o) ((C.cell (p:=⟨E,V+3,O⟩) S).trans bu.o) ((C.block q au.o).trans ai.o) (H1.o.below C);have bU:Hq (w.heap.size<A.heap.size):=by rw[←x.o];exact dC au.o C.size
  have ah:Hq (Bl w A):=bc.o.trans (C.mono bc.o.size);have aM:Hq (¬F q):=fun hf=>by have:=H.o.px.1 q hf;have:=x.o;omega
  clear bO C q0 q1 q2 q3 bs bt bu;by_cases R:y%9=6
  ·have Q:Hq (r=((Dc d (s.clock+x1) o2 (EE D) s).1,DU)):=by have:=HA.o;rw[if_pos R] at this;exact this
   have ac:Hq (∀ W,dD prog 20 #[I J y,I J 9] W fun e w'=>e=.returned (I J 6)∧W=w'):=fun W=>by rw[←R];exact(Jj y 9 (by decide) (by decide) W).mono fun e w' h=>⟨h.1,h.2.symm⟩
   clear R;have r2:=aN.o;have r3:=bd.o;go_upto_region 8 with (first|(go_at_call 20;refine(ac.o _).mono ?_;rintro e w2 ⟨rfl,rfl⟩)|fail);clear y0;have s2:=qC aN.o aT;have s3:=qC bd.o aT;clear r2 r3;refine BQ 9 [(8,fun v w=>C5 w A.heap.size v (EE D))] ⟨(fun _ _ _ h z=>Bp h fun b _ hl=>z.block b hl),trivial⟩ ?_
   iterate 8 (refine AK rfl ?_;intro K hK;go_big_quiet_op;go_big_quiet_on)
   refine Ca rfl (fun w' z L=>?_) ?_
   ·refine AD (f:=38) (al:=[I J D]) rfl rfl rfl Tx ?_;exact(Xn D w').mono fun e w2 h=>by
     obtain⟨v,he,ho,bk⟩:=h;exact⟨_,he,bk,ho.mono z.size⟩
   intro v w' z hv;have bP:=HH hv;clear bP hv z w';simp only[Au,cS,dz,dy];refine BN ?_;intro X N aU;simp only[dM,dV,ec];have bA:C5 X A.heap.size v (EE D):=aU 8 _ (by decide) rfl;have P:=HH (S6 (H9.o.below N) (s.clock+x1) o2 v (EE D) (XX bA fun b hf=>H9.o.px.1 b hf) (by have:=(Py D).1;omega) (Py D).2);have k:Hq (X.heap[q]? =Z (T #[I J 0,I U 0,I J 0,I J 0,Y O 0 0,Y O 0 0] 43 (0,0))):=(N.block q (Aa aj.o)).trans aj.o;have aa:Hq (Bl w X):=ah.o.trans (N.mono ah.o.size);clear bA aU N s2 s3;go_upto_region 13 with (first|(go_at_call 19;refine P.o.mono ?_;rintro e t ⟨rfl,l⟩)|fail);have i:=(l.2.block q (Aa k.o) aM.o).trans k.o;obtain⟨z0,z1,z2,z3,z4,z5⟩:=r6 i;obtain⟨f0,f1,f2,f3,f4,f5⟩:=f6 i;obtain⟨ar,ab⟩:=H2 i l;clear i l;go_wp2_with fail;have m:=ar.o;have n:=Aa k.o;rw[x.o] at m n;rw[x.o,Q.o];exact JM B w X t t F g d _ DU [] O O 0 0 0 0 aa.o ab.o H.o.px.1 H.o.gl.hw n (cK _ _) m (BJ.nil _ _) rfl _ rfl rfl
  ·by_cases h7:y%9=7
   ·have Q:Hq (r=((ET d o2 s).1,DU)):=by have:=HA.o;rw[if_neg R,if_pos h7] at this;exact this
    have ac:Hq (∀ W,dD prog 20 #[I J y,I J 9] W fun e w'=>e=.returned (I J 7)∧W=w'):=fun W=>by rw[←h7];exact(Jj y 9 (by decide) (by decide) W).mono fun e w' h=>⟨h.1,h.2.symm⟩
    clear R h7;have y2:=aN.o;have P:=HH (So H9.o o2);have k:Hq (A.heap[q]? =Z (T #[I J 0,I U 0,I J 0,I J 0,Y O 0 0,Y O 0 0] 43 (0,0))):=aj.o;have aa:Hq (Bl w A):=ah.o;go_upto_region 13 with (first|(go_at_call 20;refine(ac.o _).mono ?_;rintro e w2 ⟨rfl,rfl⟩)|(go_at_call 21;refine P.o.mono ?_;rintro e t ⟨vc,rfl,b0,l⟩)|fail);clear y0 y2;have i:=(l.2.block q (Aa k.o) aM.o).trans k.o;obtain⟨z0,z1,z2,z3,z4,z5⟩:=r6 i;obtain⟨f0,f1,f2,f3,f4,f5⟩:=f6 i;obtain⟨ar,ab⟩:=H2 i l;clear i l;go_wp2_with fail;have m:=ar.o;have n:=Aa k.o;rw[x.o] at m n;rw[x.o,Q.o];exact JM B w A t t F g d _ DU [] O O 0 0 0 0 aa.o ab.o H.o.px.1 H.o.gl.hw n (cK _ _) m (BJ.nil _ _) rfl _ rfl rfl
   ·by_cases h8:y%9=8
    ·have Q:Hq (r=((Br d (o2%256) D s).1,DU)):=by have:=HA.o;rw[if_neg R,if_neg h7,if_pos h8] at this;exact this
     have ac:Hq (∀ W,dD prog 20 #[I J y,I J 9] W fun e w'=>e=.returned (I J 8)∧W=w'):=fun W=>by rw[←h8];exact(Jj y 9 (by decide) (by decide) W).mono fun e w' h=>⟨h.1,h.2.symm⟩
     clear R h7 h8;go_upto_region 12 with (first|(go_at_call 20;refine(ac.o _).mono ?_;rintro e w2 ⟨rfl,rfl⟩)|fail);clear y0;have s2:=qC aN.o aT;have s3:=qC bd.o aT;refine BQ 8 [] trivial ?_
     iterate 8 (refine AK rfl ?_;intro K hK;go_big_quiet_op;go_big_quiet_on)
     refine BN ?_;intro X N aU;simp only[dM,dV,ec];have P:=HH (SH (H9.o.below N) (o2%256) D);have k:Hq (X.heap[q]? =Z (T #[I J 0,I U 0,I J 0,I J 0,Y O 0 0,Y O 0 0] 43 (0,0))):=(N.block q (Aa aj.o)).trans aj.o;have aa:Hq (Bl w X):=ah.o.trans (N.mono ah.o.size);clear aU N s2 s3;go_upto_region 13 with (first|(go_at_call 16;refine P.o.mono ?_;rintro e t ⟨rfl,l⟩)|fail);have i:=(l.2.block q (Aa k.o) aM.o).trans k.o;obtain⟨z0,z1,z2,z3,z4,z5⟩:=r6 i;obtain⟨f0,f1,f2,f3,f4,f5⟩:=f6 i;obtain⟨ar,ab⟩:=H2 i l;clear i l;go_wp2_with fail;have m:=ar.o;have n:=Aa k.o;rw[x.o] at m n;rw[x.o,Q.o];exact JM B w X t t F g d _ DU [] O O 0 0 0 0 aa.o ab.o H.o.px.1 H.o.gl.hw n (cK _ _) m (BJ.nil _ _) rfl _ rfl rfl
    ·have Q:Hq (r=A3 d (s.clock+x1) s):=by have:=HA.o;rw[if_neg R,if_neg h7,if_neg h8] at this;exact this
     have ac:Hq (∀ W,dD prog 20 #[I J y,I J 9] W fun e w'=>e=.returned (I J (y%9))∧W=w'):=fun W=>(Jj y 9 (by decide) (by decide) W).mono fun e w' h=>⟨h.1,h.2.symm⟩;generalize y%9=x9 at*;have P:=HH (QF H9.o (s.clock+x1));generalize A3 d (s.clock+x1) s=u at Q P;have k:Hq (A.heap[q]? =Z (T #[I J 0,I U 0,I J 0,I J 0,Y O 0 0,Y O 0 0] 43 (0,0))):=aj.o;have aa:Hq (Bl w A):=ah.o;go_upto_region 6 with (first|(go_at_call 20;refine(ac.o _).mono ?_;rintro e w2 ⟨rfl,rfl⟩)|(go_at_call 17;refine P.o.mono ?_;rintro e t ⟨va,vf,rfl,bC,bn,l⟩;obtain⟨be,bg,rfl,_⟩:=bC.open_;obtain⟨bf,bh,rfl,_⟩:=bn.open_)|fail);clear y0;have i:=(l.2.block q (Aa k.o) aM.o).trans k.o;have bN:=Aa i;obtain⟨w3,aV⟩:=ex (t.alloc (T #[I J u.2.ran,I U u.2.act.kind,I J u.2.act.a,I J u.2.act.b,.slice be u.2.act.data.length bg,.slice bf u.2.faults.length bh] 43));rw[←aV];have aH:Bl t w3:=by rw[aV];exact(cK _ t).alloc (cY _) _
     have bz:w3.heap[t.heap.size]? =Z (T #[I J u.2.ran,I U u.2.act.kind,I J u.2.act.a,I J u.2.act.b,.slice be u.2.act.data.length bg,.slice bf u.2.faults.length bh] 43 (0,0)):=by rw[aV];exact de _ _
     have aR:=(aH.block q bN).trans i;obtain⟨v0,v1,v2,v3,v4,v5⟩:=r6 bz;obtain⟨z0,z1,z2,z3,z4,z5⟩:=r6 aR;obtain⟨f0,f1,f2,f3,f4,f5⟩:=f6 aR;obtain⟨bH,bG,bF,ab⟩:=H4 (bn.Ag aH.size fun b _ h2=>aH.block b h2) aR aH l;clear i aV aH bz aR bn bC l;go_wp2_with fail;have m:=bG.o;have n:=Aa k.o;rw[x.o] at m n;rw[x.o,Q.o];exact JM B w A t w3 F g d _ u.2 [] be bf _ bg _ bh aa.o ab.o H.o.px.1 H.o.gl.hw n bF.o m bH.o rfl _ rfl rfl
 ·have bB:¬((c.length:Nat):Int)=4:=by omega
  have L:Fl d c s=(s,DU):=by unfold Fl;rw[if_pos hn]
  rw[←hr] at L;have HA:=HH L;clear L hr hn bm pa h aQ M hW;go_enter func11,ntmps11;go_upto_region 1 with (fail);rw[←HW.o];obtain⟨q,hq⟩:=ex w.heap.size;rw[←hq] at ai au ⊢;have x:=HH hq;clear hq;obtain⟨z0,z1,z2,z3,z4,z5⟩:=r6 ai.o;obtain⟨f0,f1,f2,f3,f4,f5⟩:=f6 ai.o;go_wp2_with fail;have m:=ai.o;have n:=au.o;rw[x.o] at m n;rw[x.o,HA.o];exact JM B w W1 W1 W1 F g d s DU [] O O 0 0 0 0 bc.o (H1.o.same (cK _ _)) H.o.px.1 H.o.gl.hw n (cK _ _) m (BJ.nil _ _) rfl _ rfl rfl
def Ow:EG 18:=fun _ _=>by kernel_rfl
def R6(W:dd)(q:Nat)(a:ee):(eL #[22,22] a #[Y (Z ⟨q,0,O⟩) 0 0,Y O 0 0]).run prog W=.ok (Y (Z ⟨q,0,O⟩) 0 0) W:=by
 simp[go_sem]
def PF{W:dd}{B q n m cap:Nat}{v:dx}{b ys:List dx}(h:W.ownsRow B 3 1 v n b)(f:B≤W.heap.size)(w:n+m≤1000)(l:ys.length=m)(g:∀ j u,ys[j]? =Z u→W.cell? ⟨q,j,O⟩=Z u)(e:∀ u∈ys,u.oneCell'=true)(d:ee):
  ∃ a c w',(eL #[22,22] d #[v,Y (Z ⟨q,0,O⟩) m cap]).run prog W=.ok (Y a (n+m) c) w'∧w'.ownsRow B 3 1 (Y a (n+m) c) (n+m) (b++ys)∧W.grownBy w' v.ownBlock:=by
 obtain⟨s,i,o,p,r⟩:=info_parts Hs;obtain⟨x,w',t,r2,r3,_,_⟩:=run_append_own_at (P:=prog) W B 22 d 3 s _ 1 8 underlying22 i o p r rfl (by decide) v n b h ⟨q,0,O⟩ m cap ys (by rw[l,ea]) (fun j u k=>by rw[Cu];simpa using g j u k) e (by unfold maxLen;omega) (by omega) f;obtain⟨a,c,rfl⟩:=Bq r2;exact⟨a,c,w',t,r2,r3⟩
def He(w:dd)(v:dx)(l:List Int):Prop:=(v=Y O 0 0∧l=[])∨∃ q c,v=Y (Z ⟨q,0,O⟩) l.length c∧q<w.heap.size∧0<l.length∧∀ j (a:j<l.length),w.cell? ⟨q,j,O⟩=Z (I J l[j])
def He.one{w:dd}{q:Nat}{x:Int}(h:w.heap[q]? =Z (T #[I J x] 3 (0,0))):He w (Y (Z ⟨q,0,O⟩) 1 1) [x]:=.inr ⟨q,1,rfl,Aa h,fA _,fun j a=>by
 have a:j<1:=a;obtain rfl:j=0:=by omega
 exact Cr h⟩
def He.three{w:dd}{q:Nat}{x y z:Int}(h:w.heap[q]? =Z (T #[I J x,I J y,I J z] 3 (0,0))):He w (Y (Z ⟨q,0,O⟩) 3 3) [x,y,z]:=.inr ⟨q,3,rfl,Aa h,fA _,fun j a=>by
 have a:j<3:=a;rcases(show j=0∨j=1∨j=2 by omega) with rfl|rfl|rfl<;>exact Cr h⟩
def App(w w':dd)(g:Nat)(v:dx)(l:List Int):Prop:=Bl w w'∧w'.ownsRow (w.heap.size+1) 3 1 v l.length (l.map (ep J))∧w'.heap[g]? =Z (T #[I U 0,I J 0,I J 0,I J 0] 64 (0,0))
def OP{w W c:dd}{v f:dx}{p:List dx}{n:Nat}{l:List Int}(a:Bl w W)(o:w.heap.size<W.heap.size)(g:W.heap[w.heap.size]? =Z (T #[I U 0,I J 0,I J 0,I J 0] 64 (0,0)))(k:W.ownsRow (w.heap.size+1) 3 1 v n p)(h:W.grownBy c v.ownBlock)(m:c.ownsRow (w.heap.size+1) 3 1 f l.length (l.map (ep J))):App w c w.heap.size f l:=by
 have d:=fun b=>F8 (b:=b) k;refine⟨⟨h.os.trans a.os,h.tape.trans a.tape,h.output.trans a.output,dX a.size h.size,fun j i=>(h.block j (by omega) (fun e=>by have:=(d j e.symm).1;omega)).trans (a.block j i)⟩,m,?_⟩;exact(h.block _ o (fun e=>by have:=(d _ e.symm).1;omega)).trans g
def Jb(f:Int)(v:dx)(l:List Int)(w:dd)(hl:l.length≤3)(h:He w v l):
  dD prog 18 #[I U f,v] w fun e w'=>e=.returned (.agg #[I U f,I J (l.getD 0 0),I J (l.getD 1 0),I J (l.getD 2 0)])∧Bl w w':=by
 obtain⟨i,E⟩:=ex ((w.alloc (T #[I U 0,I J 0,I J 0,I J 0] 64)).alloc (T #[] 3));have N:Bl w i:=by rw[E];exact DX w _ _
 have ak:i.heap[w.heap.size]? =Z (T #[I U 0,I J 0,I J 0,I J 0] 64 (0,0)):=by rw[E];exact(Da w _ _).1
 have al:i.heap[w.heap.size+1]? =Z (T #[] 3 (0,0)):=by rw[E];exact(Da w _ _).2
 have a0:w.heap.size+1<i.heap.size:=Aa al;have S:i.ownsRow (w.heap.size+1) 3 1 (Y (Z ⟨w.heap.size+1,0,O⟩) 0 0) 0 []:=⟨by simp,.inr ⟨w.heap.size+1,0,#[],rfl,cY _,al,by simp⟩⟩;have ao:Hq (∃ a1 c1 k,(∀ C,(eL #[22,22] C #[Y (Z ⟨w.heap.size+1,0,O⟩) 0 0,v]).run prog i=.ok (Y a1 l.length c1) k)∧App w k w.heap.size (Y a1 l.length c1) l):=by
  rcases h with ⟨rfl,rfl⟩|⟨q,c,rfl,hq,h0,hc⟩
  ·exact⟨_,_,i,fun C=>R6 i _ C,N,S,ak⟩
  ·have B:=fun C=>PF (q:=q) (m:=l.length) (cap:=c) (ys:=l.map (ep J)) S (by omega) (by omega) (by simp) (fun j u d=>by
    rw[dP] at d;have Q:j<l.length:=by
     rcases Nat.lt_or_ge j l.length with h|h
     ·exact h
     ·rw[ed h] at d;cases d
    rw[cJ Q] at d;simp only[fe,dJ] at d;rw[←d];exact(N.cell (p:=⟨q,j,O⟩) hq).trans (hc j Q)) (fun u d=>by obtain⟨x,_,rfl⟩:=eD.1 d;rfl) C
   obtain⟨a,c',w',r1,r2,r3⟩:=B 22;rw[et] at r1 r2;exact⟨a,c',w',fun C=>r1,OP N (by omega) ak S r3 r2⟩
 obtain⟨a1,c1,k,aG,ai,aB,aj⟩:=ao.o;have aJ:=ai.size;have ax:=Aa aj;obtain⟨W2,M⟩:=ex (k.alloc (T #[I J 0,I J 0,I J 0] 3));have A:Bl k W2:=by rw[M];exact(cK _ k).alloc (cY _) _
 have az:W2.heap[k.heap.size]? =Z (T #[I J 0,I J 0,I J 0] 3 (0,0)):=by rw[M];exact de _ _
 have am:=Bp aB (w':=W2) fun b _ H=>A.block b H
 obtain⟨a4,c4,V,aH,aC,ay⟩:=PF (q:=k.heap.size) (m:=3) (cap:=3) (ys:=[I J 0,I J 0,I J 0]) am (by have:=A.size;omega) (by omega) rfl (fun j u d=>by
  have Q:=(dI.1 d).1;rw[Cr az];simpa using d) (fun u d=>by simp only[dO,dK,or_false,or_self] at d;rw[d];rfl) 22
 have aD:V.ownsRow (w.heap.size+1) 3 1 (Y a4 (l.length+3) c4) (l++ [0,0,0]).length ((l++ [0,0,0]).map (ep J)):=by
  simp only[ef,fl,eR,eW,eN,fm];exact aC
 obtain⟨av,aE,P⟩:=OP (ai.trans (A.mono aJ)) (by have:=A.size;omega) ((A.block _ ax).trans aj) am ay aD;have aI:Af J V 0 (Y a4 (l.length+3) c4) (l++ [0,0,0]):=(Sl.Bw aE).mono (dE _);obtain⟨a5,c5,e5,aV,_,aF⟩:=aI.open_;have aA:(l++ [0,0,0]).length=l.length+3:=by simp
 obtain⟨q5,a3,aT,_,aZ,aw⟩:=aF (by omega);simp only[dF] at e5;obtain⟨rfl,_,rfl⟩:=e5;subst aT;have L:∀ j,j<3→V.cell? ⟨q5,a3+j,O⟩=Z (I J (l.getD j 0)):=fun j Q=>by
  have:=aw j (by omega);have e:(l++ [0,0,0])[j]'(by omega)=l.getD j 0:=by
   rw[cI];by_cases h:j<l.length
   ·rw[eS h,cJ h];rfl
   ·rw[eQ (by omega),ed (by omega)];rcases(show j-l.length=0∨j-l.length=1∨j-l.length=2 by omega) with h|h|h<;>simp[h]
  rw[e] at this;exact this
 have e0:=L 0 (by decide);have e1:=L 1 (by decide);have e2:=L 2 (by decide);rw[dR] at e0;generalize l.getD 0 0=r at*;generalize l.getD 1 0=s at*;generalize l.getD 2 0=t at*;rw[aA] at aV;have bc:l.length+3≤6:=by omega
 obtain⟨aM,aN,HW,aP,D,ac⟩:=H6 aG aH E M av P;obtain⟨W,X,z2,z3⟩:=r4 P;obtain⟨f0,f1,f2,f3⟩:=f4 P;clear ao aG aH E M av P N ak al a0 S ai aB aj aJ ax A az am aC ay aD aE aI aF aw L aA h hl;generalize l.length=n at*;obtain⟨g,hg⟩:=ex w.heap.size;go_enter func18,ntmps18;go_upto_region 2 with (first|(at_builtin;rw[←HW.o];refine eE _ rfl _ _ _ _ rfl _ _ rfl rfl _ _ (aM.o _) ?_)|(at_builtin;rw[←aP.o];refine eE _ rfl _ _ _ _ rfl _ _ rfl rfl _ _ aN.o ?_)|fail);have an:q5<V.heap.size:=aZ;have s0:=qC e0 an;have s1:=qC e1 an;have s2:=qC e2 an;have aW:=Aa ac.o;have a8:=HH ac.o;clear e0 e1 e2 W f0 X f1 z2 f2 z3 f3;refine AS 12 [11] [] [] trivial ?_
 iterate 11 (refine An rfl rfl rfl ?_;intro K hK;go_big_quiet_op;go_big_quiet_on)
 refine AH rfl ?_;refine AR ?_;intro z y a2;have R:=(y.block _ aW).trans ac.o;obtain⟨W,X,z2,z3⟩:=r4 R;obtain⟨f0,f1,f2,f3⟩:=f4 R;refine AI (w':=setsAt z w.heap.size 0 [(0,I U f),(1,I J r),(2,I J s),(3,I J t)]) (by simp[execOp,go_sem,setsAt,W,f0,X,f1,z2,f2,z3,f3]) ?_;unfold A7;have B:=Di [(0,I U f),(1,I J r),(2,I J s),(3,I J t)] R;simp only[Er,cS,dz,dy] at B;have ag:∀ b,b≠w.heap.size→(setsAt z w.heap.size 0 [(0,I U f),(1,I J r),(2,I J s),(3,I J t)]).heap[b]? =z.heap[b]?:=fun b H=>AU H _ _
 have ah:(setsAt z w.heap.size 0 [(0,I U f),(1,I J r),(2,I J s),(3,I J t)]).heap.size=z.heap.size:=BO _ _;have F:=Be (b:=w.heap.size) (o:=0) [(0,I U f),(1,I J r),(2,I J s),(3,I J t)] z;generalize setsAt z w.heap.size 0 [(0,I U f),(1,I J r),(2,I J s),(3,I J t)]=aR at B ag ah F ⊢;obtain⟨aL,aQ⟩:=H2 B (show Bl w aR from⟨F.1.trans (y.os.trans D.o.os),F.2.1.trans (y.tape.trans D.o.tape),F.2.2.trans (y.output.trans D.o.output),by rw[ah];have:=y.size;have:=D.o.size;omega,fun b H=>(ag b (by omega)).trans ((y.block b (by omega)).trans (D.o.block b H))⟩);clear R B ag ah F y a2 W f0 X f1 z2 f2 z3 f3 s0 s1 s2;go_wp2_with fail;refine eT (v:=.agg #[I U f,I J r,I J s,I J t]) (fz rfl _ _ w.heap.size 64 #[I U f,I J r,I J s,I J t] (0,0) _ rfl aL.o underlying64 rfl (by kernel_rfl)) rfl ⟨rfl,aQ.o⟩
def Lo(d:Ad)(now i:Int)(a:List CG)(s:Ae):Bool:=decide ((A3 d now s).2.e=0) && (decide ((A3 d now s).2.ran=i) && decide ((A3 d now s).2.faults=a))
def Qe(B:Nat)(w:dd)(F:Nat→Prop)(g:Nat)(d:Ad)(s:Ae)(h:Lv B w F g d s)(now i:Int)(y:dx)(t:List CG)(x:∀ w',Fr F w w'→BJ w' 0 y t)(Q:t.length≤1000)(q:Lo d now i t s=true):
  dD prog 22 #[G (Z ⟨g,0,O⟩),I J now,I J i,y] w fun e w'=>e=.returned (.bool true)∧Dr B w F g d (A3 d now s).1 w':=by
 have C:=HH (QF h now);unfold Lo at q;simp only[dQ,decide_eq_true_eq] at q;obtain⟨ad,ae,ab,_⟩:=(x w (Fr.below (cK _ w))).open_;obtain⟨p,R⟩:=ex (A3 d now s);rw[←R] at C q ⊢;clear R;obtain⟨us,V,c,f,er⟩:=p;obtain⟨n,j,N⟩:=q;simp only[] at n j N;subst n j N;obtain⟨H,aa,W⟩:=H3 h x Q;subst ab;clear h x Q;go_enter func22,ntmps22;go_upto_region 2 with (first|(go_at_call 17;refine C.o.mono ?_;rintro e m ⟨va,y,rfl,S,v,u⟩;obtain⟨E,L,rfl,_⟩:=S.open_;obtain⟨K,M,rfl,_⟩:=v.open_)|fail);obtain⟨z,r⟩:=ex (m.alloc (T #[I J V,I U c.kind,I J c.a,I J c.b,Y E c.data.length L,Y K f.length M] 43));rw[←r];have k:Bl m z:=by rw[r];exact(cK _ m).alloc (cY _) _
 have P:z.heap[m.heap.size]? =Z (T #[I J V,I U c.kind,I J c.a,I J c.b,Y E c.data.length L,Y K f.length M] 43 (0,0)):=by rw[r];exact de _ _
 obtain⟨v0,v1,v2,v3,v4,v5⟩:=r6 P;have D:=HH (Nd _ _ f f z ((v.mono (dE _)).Ag k.size fun b _ j=>k.block b j) ((aa.o m u.2).Ag k.size fun b _ j=>k.block b j) (by have:=W.o;omega));rw[show decide (f=f)=true from decide_eq_true rfl] at D;obtain⟨A,X⟩:=H2 k u;clear r k P v S u;go_wp2_with (go_at_call 13;refine D.o.mono ?_;rintro e w5 ⟨rfl,ac⟩);go_ret;have l:=A.o.trans (ac.mono A.o.size);exact⟨rfl,Dr.Pw (cK _ w) X.o H.o.px.1 H.o.gl.hw l.size (fun b n _=>l.block b n) l.os l.tape l.output⟩
def Wd(B N:Nat)(a w:dd)(g:Nat)(d:Ad)(s:Ae):Prop:=∃ F,Lv B w F g d s∧(∀ b,F b→N≤b)∧fp N a w∧N≤w.heap.size
section
variable {B N:Nat} {w0 w w':dd} {g:Nat} {d:Ad} {s s':Ae}
def Wd.below(h:Wd B N w0 w g d s)(a:Bl w w'):Wd B N w0 w' g d s:=by
 obtain⟨F,c,e,f,b⟩:=h;exact⟨F,c.below a,e,f.trans (a.mono b),dX b a.size⟩
def Wd.op{F:Nat→Prop}(h:Dr B w F g d s' w')(c:∀ b,F b→N≤b)(f:fp N w0 w)(e:N≤w.heap.size):Wd B N w0 w' g d s':=
 ⟨_,h.1,fun b a=>by
  rcases a with a|a
  ·exact c b a
  ·omega,f.trans (h.2.low c e),dX e h.2.size⟩
def Wd.bel(h:Wd B N w0 w g d s):fp N w0 w:=by
 obtain⟨F,b,c,a,e⟩:=h;exact a
def Wd.good(h:Wd B N w0 w g d s):Good d s:=by
 obtain⟨F,a,b,c,e⟩:=h;exact a.good
def Wd.le(h:Wd B N w0 w g d s):N≤w.heap.size:=by
 obtain⟨F,b,c,e,a⟩:=h;exact a
def Zt(h:Wd B N w0 w g d s):dD prog 10 #[G (Z ⟨g,0,O⟩)] w (NR w s):=by
 obtain⟨F,a,_⟩:=h;exact J3 a
def FW(h:Wd B N w0 w g d s)(now i:Int)(k:Lo d now i [] s=true):
  dD prog 22 #[G (Z ⟨g,0,O⟩),I J now,I J i,Y O 0 0] w fun e w'=>e=.returned (.bool true)∧Wd B N w0 w' g d (A3 d now s).1:=by
 obtain⟨F,a,b,c,f⟩:=h;refine(Qe B w F g d s a now i _ [] (fun w' _=>BJ.nil _ _) (by simp) k).mono ?_;rintro e w' ⟨j,l⟩;exact⟨j,Wd.op l b c f⟩
def BJ.lit{w:dd}{q:Nat}{p f c:Int}(h:w.heap[q]? =Z (T #[.int J p,.int U f,.int J c] 76 (0,0))):BJ w 0 (Y (Z ⟨q,0,O⟩) 1 1) [⟨p,f,c⟩]:=by
 refine⟨_,_,rfl,cY _,fun e=>(by cases e),rfl,fun _=>⟨q,0,rfl,dE _,Aa h,fun j u a=>?_⟩⟩;rw[Cr h,et];rw[List.getElem?_toArray];exact a
def Qf(h:Wd B N w0 w g d s)(now i p f c:Int)(q:Lo d now i [⟨p,f,c⟩] s=true):
  dD prog 22 #[G (Z ⟨g,0,O⟩),.int J now,.int J i,Y (Z ⟨w.heap.size,0,O⟩) 1 1] (w.alloc (T #[.int J p,.int U f,.int J c] 76)) fun e w'=>e=.returned (.bool true)∧Wd B N w0 w' g d (A3 d now s).1:=by
 obtain⟨F,b,k,l,j⟩:=h;have a:Bl w (w.alloc (T #[.int J p,.int U f,.int J c] 76)):=(cK _ w).alloc (cY _) _;refine(Qe B _ F g d s (b.below a) now i _ [⟨p,f,c⟩] (fun w' o=>BJ.lit (p:=p) (f:=f) (c:=c) ((o.block _ (Aa (de w _)) (fun m=>by have:=b.px.1 _ m;omega)).trans (de w _))) (by simp) q).mono ?_;rintro e w' ⟨n,r⟩;exact⟨n,Wd.op r k (l.trans (a.mono j)) (dX j a.size)⟩
def Wd.new{d:Ad}{e:fv}(h:JD B w d e w')(k:E6 d=true)(j:fp N w0 w)(a:N≤w.heap.size):∃ g,e=.returned (.tuple #[G (Z ⟨g,0,O⟩),I J 0])∧Wd B N w0 w' g d (DB d):=by
 obtain⟨c,f⟩:=h;rw[if_pos k] at f;obtain⟨g,F,l,n,i⟩:=f;exact⟨g,l,F,n,fun b m=>dX a (i b m),j.trans (c.mono a),dX a c.size⟩
end
def RG(w:dd)(A B C:Obj):(((w.alloc A).alloc B).alloc C).heap[w.heap.size]? =Z A∧(((w.alloc A).alloc B).alloc C).heap[w.heap.size+1]? =Z B∧(((w.alloc A).alloc B).alloc C).heap[w.heap.size+1+1]? =Z C∧(((w.alloc A).alloc B).alloc C).heap.size=w.heap.size+3∧Bl w (((w.alloc A).alloc B).alloc C):=by
 have b:(w.alloc A).heap.size=w.heap.size+1:=by simp
 have a:((w.alloc A).alloc B).heap.size=w.heap.size+1+1:=by simp
 have d:=de ((w.alloc A).alloc B) C;have c:=de (w.alloc A) B;have e:=de w A;rw[a] at d;rw[b] at c;refine⟨?_,?_,d,by simp,?_⟩
 ·rw[ej _ _ _ (by rw[a];omega),ej _ _ _ (by rw[b];omega)];exact e
 ·rw[ej _ _ _ (by rw[a];omega)];exact c
 ·exact(((cK _ w).alloc (cY _) _).alloc (by rw[b];omega) _).alloc (by rw[a];omega) _
def BL:Ad:=⟨4,[0],0,0,[],[],[⟨1,10,0,[⟨10,0,0,0⟩,⟨19,0,0,0⟩]⟩,⟨2,0,5,[⟨9,0,0,0⟩,⟨25,0,0,0⟩]⟩]⟩
def Mc:Ad:=⟨4,[0],0,0,[],[],[⟨1,10,0,[⟨1,9,0,0⟩,⟨19,0,0,0⟩]⟩,⟨2,0,5,[⟨9,0,0,0⟩,⟨25,0,0,0⟩]⟩]⟩
def RP:E6 BL=true:=by kernel_rfl
def RR:E6 Mc=true:=by kernel_rfl
def AW.blk{w:dd}{q n sz:Nat}{a:Array dx}{t:ee}{u:Nat→Nat→dx}(h:w.heap[q]? =Z (T a t (0,0)))(b:∀ k j,k<n→j<sz→a[k*sz+j]? =Z (u k j)):AW w (Y (Z ⟨q,0,O⟩) n n) n sz u:=
 ⟨_,_,rfl,cY _,fun e=>(by cases e),fun _=>⟨q,0,rfl,Aa h,fun k j d c=>by rw[et,Cr h];exact b k j d c⟩⟩
def Qi(W:dd)(d:Ad)(x y:Ai)(l c1 c2 g:Nat)(t:d=⟨4,[0],0,0,[],[],[⟨1,10,0,[x,y]⟩,⟨2,0,5,[⟨9,0,0,0⟩,⟨25,0,0,0⟩]⟩]⟩)(p:W.heap[l]? =Z (T #[I J 0] 3 (0,0)))
  (q:W.heap[c1]? =Z (T #[I U x.op,I J x.a,I J x.b,I J x.c,I U y.op,I J y.a,I J y.b,I J y.c] 64 (0,0))) (r:W.heap[c2]? =Z (T #[I U 9,I J 0,I J 0,I J 0,I U 25,I J 0,I J 0,I J 0] 64 (0,0))) (s:W.heap[g]? =Z (T #[.string ⟨#[]⟩,I J 1,I J 10,I J 0,Y (Z ⟨c1,0,O⟩) 2 2,.string ⟨#[]⟩,I J 2,I J 0,I J 5,Y (Z ⟨c2,0,O⟩) 2 2] 68 (0,0))) (v:0≤x.op∧x.op≤255) (w:0≤y.op∧y.op≤255):
  C6 W (Y (Z ⟨l,0,O⟩) 1 1) d.semas∧C6 W (Y O 0 0) d.bufs∧Ex W (Y O 0 0) d.Ab∧Gd W (Y (Z ⟨g,0,O⟩) 2 2) d.procs∧∀ c∈d.procs,∀ i∈c.code,0≤i.op∧i.op≤255:=by
 subst t;have nil:∀ sz u,AW W (Y O 0 0) 0 sz u:=fun sz u=>⟨O,0,rfl,cY _,fun _=>rfl,fun h=>absurd h (Nat.lt_irrefl 0)⟩;have n:∀ b (x y:Ai),W.heap[b]? =Z (T #[I U x.op,I J x.a,I J x.b,I J x.c,I U y.op,I J y.a,I J y.b,I J y.c] 64 (0,0))→Ew W (Y (Z ⟨b,0,O⟩) 2 2) [x,y]:=fun b x y h=>AW.blk h fun k j e o=>by
  have e:k<2:=e;rcases(show k=0∨k=1 by omega) with rfl|rfl<;>rcases(show j=0∨j=1∨j=2∨j=3 by omega) with rfl|rfl|rfl|rfl<;>rfl
 refine⟨AW.blk p fun k j e o=>?_,nil _ _,⟨fun _=>⟨#[]⟩,nil _ _⟩,⟨fun _=>⟨#[]⟩,fun k=>if k=0 then Y (Z ⟨c1,0,O⟩) 2 2 else Y (Z ⟨c2,0,O⟩) 2 2,AW.blk s fun k j e o=>?_,fun k e=>?_⟩,?_⟩
 ·have e:k<1:=e;obtain rfl:k=0:=by omega
  obtain rfl:j=0:=by omega
  rfl
 ·have e:k<2:=e;rcases(show k=0∨k=1 by omega) with rfl|rfl<;>rcases(show j=0∨j=1∨j=2∨j=3∨j=4 by omega) with rfl|rfl|rfl|rfl|rfl<;>rfl
 ·have e:k<2:=e;rcases(show k=0∨k=1 by omega) with rfl|rfl
  ·exact n c1 x y q
  ·exact n c2 ⟨9,0,0,0⟩ ⟨25,0,0,0⟩ r
 ·intro c m i f;simp only[dO,dK,or_false] at m;rcases m with rfl|rfl
  ·simp only[dO,dK,or_false] at f;rcases f with rfl|rfl
   ·exact v
   ·exact w
  ·simp only[dO,dK,or_false] at f;rcases f with rfl|rfl<;>decide
def RC(B:Nat)(w:dd)(P:Gl B w)(GS:Ce w):dD prog 8 #[] w fun e w'=>e=.returned (.bool true)∧Bl w w':=by
 obtain⟨HG,aI⟩:=H2 P GS;have aZ:16≤w.heap.size:=dX P.hb P.hw;clear P GS;go_enter func8,ntmps8;go_wp2_with fail;obtain⟨V,F⟩:=ex ((w.alloc (T #[I J 0] 3)).alloc (T #[I J 0] 3));have m:V.heap[w.heap.size]? =Z (T #[I J 0] 3 (0,0)):=by rw[F];exact(Da w _ _).1
 have u:V.heap[w.heap.size+1]? =Z (T #[I J 0] 3 (0,0)):=by rw[F];exact(Da w _ _).2
 have s:Bl w V:=by rw[F];exact DX w _ _
 rw[←F];refine(Jb 10 _ [0] V (by decide) (He.one u)).mono ?_;rintro e w1 ⟨rfl,c⟩;have a0:=(c.block _ (Aa m)).trans m;obtain⟨B1,an⟩:=H2 (s.trans (c.mono s.size)) a0;clear F m u s c a0;go_wp2_with fail;refine(Jb 19 _ [] w1 (by decide) (.inl ⟨rfl,rfl⟩)).mono ?_;rintro e i ⟨rfl,c⟩;obtain⟨B2,Q⟩:=H2 (B1.o.trans (c.mono B1.o.size)) ((c.block _ (Aa an.o)).trans an.o);clear c B1 an;go_wp2_with fail;obtain⟨W3,H⟩:=ex ((i.alloc (T #[I U 10,I J 0,I J 0,I J 0,I U 19,I J 0,I J 0,I J 0] 64)).alloc (T #[I J 0] 3));have m:W3.heap[i.heap.size]? =Z (T #[I U 10,I J 0,I J 0,I J 0,I U 19,I J 0,I J 0,I J 0] 64 (0,0)):=by rw[H];exact(Da i _ _).1
 have u:W3.heap[i.heap.size+1]? =Z (T #[I J 0] 3 (0,0)):=by rw[H];exact(Da i _ _).2
 have s:Bl i W3:=by rw[H];exact DX i _ _
 skip;rw[←H];refine(Jb 9 _ [0] W3 (by decide) (He.one u)).mono ?_;rintro e w4 ⟨rfl,c⟩;obtain⟨B4,ap,aq⟩:=H3 (B2.o.trans ((s.trans (c.mono s.size)).mono B2.o.size)) ((c.block _ (dC (Aa Q.o) s.size)).trans ((s.block _ (Aa Q.o)).trans Q.o)) ((c.block _ (Aa m)).trans m);clear H m u s c B2 Q;go_wp2_with fail;refine(Jb 25 _ [] w4 (by decide) (.inl ⟨rfl,rfl⟩)).mono ?_;rintro e d ⟨rfl,c⟩;obtain⟨B5,R,S⟩:=H3 (B4.o.trans (c.mono B4.o.size)) ((c.block _ (Aa ap.o)).trans ap.o) ((c.block _ (Aa aq.o)).trans aq.o);clear c B4 ap aq;go_wp2_with fail;obtain⟨y,ax⟩:=ex (((d.alloc (T #[I U 9,I J 0,I J 0,I J 0,I U 25,I J 0,I J 0,I J 0] 64)).alloc (T #[.string ⟨#[]⟩,I J 1,I J 10,I J 0,Y (Z ⟨i.heap.size,0,O⟩) 2 2,.string ⟨#[]⟩,I J 2,I J 0,I J 5,Y (Z ⟨d.heap.size,0,O⟩) 2 2] 68)).alloc (T #[.string ⟨#[]⟩,I J 0,I J 0,I J 4,Y (Z ⟨w.heap.size,0,O⟩) 1 1,I J 0,I J 0,Y O 0 0,Y O 0 0,Y (Z ⟨d.heap.size+1,0,O⟩) 2 2] 26));have bf:=RG d (T #[I U 9,I J 0,I J 0,I J 0,I U 25,I J 0,I J 0,I J 0] 64) (T #[.string ⟨#[]⟩,I J 1,I J 10,I J 0,Y (Z ⟨i.heap.size,0,O⟩) 2 2,.string ⟨#[]⟩,I J 2,I J 0,I J 5,Y (Z ⟨d.heap.size,0,O⟩) 2 2] 68) (T #[.string ⟨#[]⟩,I J 0,I J 0,I J 4,Y (Z ⟨w.heap.size,0,O⟩) 1 1,I J 0,I J 0,Y O 0 0,Y O 0 0,Y (Z ⟨d.heap.size+1,0,O⟩) 2 2] 26);rw[←ax] at bf;obtain⟨m,u,k3,C,X⟩:=bf;rw[←ax];have k4:=(X.block _ (Aa R.o)).trans R.o;have k5:=(X.block _ (Aa S.o)).trans S.o;have B6:Hq (Bl w y):=B5.o.trans (X.mono B5.o.size);obtain⟨M,r2,r3,r4,r5⟩:=Qi y BL ⟨10,0,0,0⟩ ⟨19,0,0,0⟩ _ _ _ _ rfl k4 k5 m u (by decide) (by decide);obtain⟨D,x,aK⟩:=H3 (MG B BL ⟨#[]⟩ 0 0 (Z ⟨w.heap.size,0,O⟩) O O (Z ⟨d.heap.size+1,0,O⟩) 1 0 0 2 y M r2 (fun n t=>by cases t) r3 r4 r5 (HG.o.below B6.o) (aI.o.below aZ B6.o)) (eH m (eH u (eH k3 (eH k4 k5)))) C;have br:Hq (i.heap.size<d.heap.size∧w.heap.size<d.heap.size):=⟨Aa S.o,Aa R.o⟩;clear M r2 r3 r4 r5 m u k3 k4 k5 X ax C B5 R S;refine D.o.mono ?_;rintro e w7 t;obtain⟨g,rfl,a⟩:=Wd.new t RP (cK _ y) (cY _);have aW:=HH a;clear t a D;go_wp2_with fail;refine(FW aW.o 0 (-1) (by kernel_rfl)).mono ?_;rintro e w8 ⟨rfl,a⟩;have aX:=HH a;clear a aW;go_wp2_with fail;refine(FW aX.o 1 1 (by kernel_rfl)).mono ?_;rintro e r ⟨rfl,a⟩;have au:=HH a;clear a aX;go_wp2_with fail;refine(Zt au.o).mono ?_;rintro e cb ⟨a1,a2,a3,a4,a5,a6,a7,a8,c1,c2,c3,c4,c5,c6,c7,c8,n8,rfl,j,c⟩;have aL:=HH (au.o.below c);have j:JJ _ _ _ _ _ _ _ _ _ _ _:=j;obtain⟨ao,cap,e1,ba,_,_,hp⟩:=j.pr;have az:(A3 BL 1 (A3 BL 0 (DB BL)).1).1.procs.length=2:=by kernel_rfl
 have be:((A3 BL 1 (A3 BL 0 (DB BL)).1).1.procs.flatMap Em)[12]? =Z (I U 3):=by kernel_rfl
 simp only[dF,true_and] at e1;obtain⟨rfl,rfl⟩:=e1;obtain⟨bv,bR,rfl,_,_,hc⟩:=hp (by rw[az];decide);have bF:=hc 12 _ be;have bH:=Uv ((A3 BL 1 (A3 BL 0 (DB BL)).1).1).mode ((A3 BL 1 (A3 BL 0 (DB BL)).1).1).clock (Z ⟨bv,bR,O⟩) a2 a3 a4 a5 a6 a7 a8 2 c1 ((A3 BL 1 (A3 BL 0 (DB BL)).1).1).mem.length c2 ((A3 BL 1 (A3 BL 0 (DB BL)).1).1).semas.length c3 ((A3 BL 1 (A3 BL 0 (DB BL)).1).1).events.length c4 ((A3 BL 1 (A3 BL 0 (DB BL)).1).1).boards.length c5 ((A3 BL 1 (A3 BL 0 (DB BL)).1).1).queues.length c6 ((A3 BL 1 (A3 BL 0 (DB BL)).1).1).queues.length c7 n8 c8;rw[az] at ba ⊢;clear az be hp hc j c au;go_wp2_with fail;refine(FW aL.o 2 0 (by kernel_rfl)).mono ?_;rintro e cc ⟨rfl,a⟩;have aM:=HH a;clear a aL;clear bH bF ba;go_wp2_with fail;refine(FW aM.o 3 1 (by kernel_rfl)).mono ?_;rintro e cd ⟨rfl,a⟩;have aN:=HH a;clear a aM;go_wp2_with fail;refine(FW aN.o 4 0 (by kernel_rfl)).mono ?_;rintro e ce ⟨rfl,a⟩;have aO:=HH a;clear a aN;go_wp2_with fail;refine(FW aO.o 5 (-1) (by kernel_rfl)).mono ?_;rintro e cf ⟨rfl,a⟩;have aP:=HH a;clear a aO;go_wp2_with fail;refine(Qf aP.o 10 0 0 5 0 (by kernel_rfl)).mono ?_;rintro e aF ⟨rfl,a⟩;have ar:=HH a;clear a aP;go_upto_region 5 with (fail);have ay:=ar.o.bel;have hN:=ar.o.le;have C:=aK.o;have kp:=(ay.block _ (show d.heap.size+1+1<y.heap.size by omega)).trans x.o.2.2.1;have bc:=Aa kp;have q9:∀ p:Ak aF,p.W.cell? ⟨d.heap.size+1+1,9,O⟩=Z (Y (Z ⟨d.heap.size+1,0,O⟩) 2 2):=fun p=>(p.h.cell (p:=⟨d.heap.size+1+1,9,O⟩) bc).trans (Cr kp);obtain⟨am,aJ⟩:=H2 ay hN;clear kp ay hN C;refine AS 9 [8] [] [(2,fun v w=>∃ q,aF.heap.size≤q∧v=Y (Z ⟨q,0,O⟩) 1 1∧w.heap[q]? =Z (T #[I J 9] 3 (0,0))),(3,fun v _=>v=.agg #[I U 1,I J 9,I J 0,I J 0]),(4,fun v _=>v=.agg #[I U 19,I J 0,I J 0,I J 0]),(5,fun v w=>∃ q,aF.heap.size≤q∧v=Y (Z ⟨q,0,O⟩) 2 2∧w.heap[q]? =Z (T #[I U 1,I J 9,I J 0,I J 0,I U 19,I J 0,I J 0,I J 0] 64 (0,0)))] ⟨(fun _ _ _ ⟨q,l,h2,E⟩ c=>⟨q,l,h2,(c.block _ (Aa E)).trans E⟩),Ch,Ch,(fun _ _ _ ⟨q,l,h2,E⟩ c=>⟨q,l,h2,(c.block _ (Aa E)).trans E⟩),trivial⟩ ?_
 iterate 2 (refine An rfl rfl rfl ?_;intro K hK;go_big_quiet_op;go_big_quiet_on)
 refine A9 rfl rfl (fun w' c hA=>?_) ?_
 ·exact Bn (v:=Y (Z ⟨w'.heap.size,0,O⟩) 1 1) (w':=w'.alloc (T #[I J 9] 3)) (by simp[execOp,go_sem]) ⟨(cK _ _).alloc (cY _) _,⟨w'.heap.size,c.size,rfl,de _ _⟩⟩
 intro v w' c j;obtain⟨q1,bL,rfl,bN⟩:=j;clear c bL bN w';simp only[Au,cS,dz,dy];refine A9 rfl rfl (fun w' c hA=>?_) ?_
 ·obtain⟨q',_,ab,bG⟩:=hA 2 _ rfl (.base (by kernel_rfl));have ab:(fw (Z ⟨q1,0,O⟩) 1 1)=Y (Z ⟨q',0,O⟩) 1 1:=ab;simp only[dF,dJ,ei,and_true,true_and] at ab;subst ab;refine AD (f:=18) (al:=[I U 1,Y (Z ⟨q1,0,O⟩) 1 1]) rfl rfl rfl Ow ?_;exact(Jb 1 _ [9] w' (by decide) (He.one bG)).mono fun e i h=>⟨_,h.1,h.2,rfl⟩
 intro v w' c j;subst j;clear c w';simp only[Au,cS,dz,dy];refine A9 rfl rfl (fun w' c hA=>?_) ?_
 ·refine AD (f:=18) (al:=[I U 19,Y O 0 0]) rfl rfl rfl Ow ?_;exact(Jb 19 _ [] w' (by decide) (.inl ⟨rfl,rfl⟩)).mono fun e i h=>⟨_,h.1,h.2,rfl⟩
 intro v w' c j;subst j;clear c w';simp only[Au,cS,dz,dy];refine A9 rfl rfl (fun w' c hA=>?_) ?_
 ·exact Bn (v:=Y (Z ⟨w'.heap.size,0,O⟩) 2 2) (w':=w'.alloc (T #[I U 1,I J 9,I J 0,I J 0,I U 19,I J 0,I J 0,I J 0] 64)) (by simp[execOp,go_sem]) ⟨(cK _ _).alloc (cY _) _,⟨w'.heap.size,c.size,rfl,de _ _⟩⟩
 intro v w' c j;obtain⟨q2,aA,rfl,bO⟩:=j;clear c aA bO w';simp only[Au,cS,dz,dy]
 iterate 2 (refine An rfl rfl rfl ?_;intro K hK;go_big_quiet_op;go_big_quiet_on)
 refine AH rfl ?_;refine AR ?_;intro r ae bg;obtain⟨bT,aA,e,kc⟩:=bg 5 _ (by decide) rfl;have e:(fw (Z ⟨q2,0,O⟩) 2 2)=Y (Z ⟨bT,0,O⟩) 2 2:=e;simp only[dF,dJ,ei,and_true,true_and] at e;subst e;have C:=aK.o;have hN:=aJ.o;have bM:=ae.size;have L:∀ b ob,b<y.heap.size→y.heap[b]? =Z ob→r.heap[b]? =Z ob:=fun b ob hl h=>(ae.block _ (by omega)).trans ((am.o.block _ hl).trans h);have kq:=L _ _ (by omega) x.o.2.1;have z0:r.cell? ⟨d.heap.size+1,4,O⟩=Z (Y (Z ⟨i.heap.size,0,O⟩) 2 2):=Cr kq;have f0:r.frozen? ⟨d.heap.size+1,4,O⟩=false:=by simp[em,kq]
 obtain⟨k,z⟩:=ex (r.setCell ⟨d.heap.size+1,4,O⟩ (Y (Z ⟨q2,0,O⟩) 2 2));refine AI (w':=k) (by rw[z];simp[execOp,go_sem,z0,f0]) ?_;unfold A7;have kY:k.heap[d.heap.size+1]? =Z (T #[.string ⟨#[]⟩,I J 1,I J 10,I J 0,Y (Z ⟨q2,0,O⟩) 2 2,.string ⟨#[]⟩,I J 2,I J 0,I J 5,Y (Z ⟨d.heap.size,0,O⟩) 2 2] 68 (0,0)):=by rw[z,en r _ 4 _ _ _ kq];rfl
 have A:∀ b,b≠d.heap.size+1→k.heap[b]? =r.heap[b]?:=fun b c=>by rw[z];exact dZ _ _ _ _ c
 have bd:k.heap.size=r.heap.size:=by rw[z];simp[ek]
 have eY:k.os=r.os∧k.tape=r.tape∧k.output=r.output:=by rw[z];exact⟨rfl,rfl,rfl⟩
 have aw:=B6.o;have bh:=aw.size;have bJ:=Aa x.o.2.2.2.1;have bK:=Aa x.o.2.2.2.2;have bP:i.heap.size<d.heap.size∧w.heap.size<d.heap.size:=br.o;have N:Hq (Bl w k):=by
  have l:=aw.trans ((am.o.mono bh).trans (ae.mono (by omega)));exact⟨eY.1.trans l.os,eY.2.1.trans l.tape,eY.2.2.trans l.output,by rw[bd];exact l.size,fun b c=>(A b (by omega)).trans (l.block b c)⟩
 have m4:=(A _ (by omega)).trans (L _ _ (by omega) x.o.2.2.2.1);have m1:=(A _ (by omega)).trans (L _ _ (by omega) x.o.1);have m3:=(A _ (by omega)).trans (L _ _ (by omega) x.o.2.2.1);have m2:=(A q2 (by omega)).trans kc;obtain⟨M,r2,r3,r4,r5⟩:=Qi k Mc ⟨1,9,0,0⟩ ⟨19,0,0,0⟩ _ _ _ _ rfl m4 m2 m1 kY (by decide) (by decide);have D:=HH (MG B Mc ⟨#[]⟩ 0 0 (Z ⟨w.heap.size,0,O⟩) O O (Z ⟨d.heap.size+1,0,O⟩) 1 0 0 2 k M r2 (fun n t=>by cases t) r3 r4 r5 (HG.o.below N.o) (aI.o.below aZ N.o));obtain⟨y0,y1,y2,y3,y4,y5,y6,y7,y8,y9⟩:=DV m3;clear M r2 r3 r4 r5 m1 m2 m3 m4 kY A bd eY z z0 f0 kq L kc aA ae bg C hN bM aw bh bJ bK bP q9 bc ar am aJ x;go_wp2_with fail;refine D.o.mono ?_;rintro e u0 t;obtain⟨g2,rfl,a⟩:=Wd.new t RR (cK _ k) (cY _);have aQ:=HH a;clear t a D y0 y1 y2 y3 y4 y5 y6 y7 y8 y9;go_wp2_with fail;refine(FW aQ.o 0 (-1) (by kernel_rfl)).mono ?_;rintro e cg ⟨rfl,a⟩;have aR:=HH a;clear a aQ;go_wp2_with fail;refine(FW aR.o 1 1 (by kernel_rfl)).mono ?_;rintro e ch ⟨rfl,a⟩;have aS:=HH a;clear a aR;go_wp2_with fail;refine(FW aS.o 2 0 (by kernel_rfl)).mono ?_;rintro e ci ⟨rfl,a⟩;have aT:=HH a;clear a aS;go_wp2_with fail;refine(FW aT.o 3 0 (by kernel_rfl)).mono ?_;rintro e cj ⟨rfl,a⟩;have aU:=HH a;clear a aT;go_wp2_with fail;refine(FW aU.o 4 0 (by kernel_rfl)).mono ?_;rintro e ck ⟨rfl,a⟩;have aV:=HH a;clear a aU;go_wp2_with fail;refine(Qf aV.o 5 0 1 1 0 (by kernel_rfl)).mono ?_;rintro e cl ⟨rfl,a⟩;have bs:=HH a;clear a aV;go_wp2_with fail;go_ret;have l:=bs.o.bel;exact⟨rfl,N.o.trans (l.mono N.o.size)⟩
def Il(w:dd)(d:Ad)(nm:ByteArray)(l k:Int)(j a e b:Option eh)(h f co g:Nat):Prop:=
 C6 w (Y j d.semas.length h) d.semas∧C6 w (Y a d.bufs.length f) d.bufs∧(∀ n∈d.bufs,-9223372036854775808≤n∧n≤9223372036854775807)∧Ex w (Y e d.Ab.length co) d.Ab∧Gd w (Y b d.procs.length g) d.procs∧∀ c∈d.procs,∀ i∈c.code,0≤i.op∧i.op≤255
section
variable {w w':dd} {d:Ad} {nm:ByteArray} {pe le:Int} {sa ab ao ac:Option eh} {cs cb co cc:Nat}
def Il.below(h:Il w d nm pe le sa ab ao ac cs cb co cc)(a:Bl w w'):Il w' d nm pe le sa ab ao ac cs cb co cc:=
 ⟨AW.below h.1 a,AW.below h.2.1 a,h.2.2.1,h.2.2.2.1.below a,h.2.2.2.2.1.below a,h.2.2.2.2.2⟩
def P0(B:Nat)(h:Il w d nm pe le sa ab ao ac cs cb co cc)(a:Gl B w)(b:Ce w):
  dD prog 9 #[.agg #[.string nm,I J pe,I J le,I J d.mem,Y sa d.semas.length cs,I J d.events,I J d.boards,Y ab d.bufs.length cb,Y ao d.Ab.length co,Y ac d.procs.length cc]] w (JD B w d):=
 MG B d nm pe le sa ab ao ac cs cb co cc w h.1 h.2.1 h.2.2.1 h.2.2.2.1 h.2.2.2.2.1 h.2.2.2.2.2 a b
end
def JG(w:dd)(v:dx)(l:List (List Int)):Prop:=∃ us:List dx,Sl w 0 1 v l.length us∧∀ (i:Nat) u x,us[i]? =Z u→l[i]? =Z x→Af J w 0 u x
def Af.Iq{k:IntKind}{w w':dd}{v:dx}{l:List Int}(h:Af k w 0 v l)(a:Bl w w'):Af k w' 0 v l:=by
 obtain⟨d,cap,r,g,i,m,p⟩:=h;refine⟨d,cap,r,g,i,m,fun f=>?_⟩;obtain⟨b,s,e,n,c,o⟩:=p f;exact⟨b,s,e,n,dC c a.size,fun j u q=>(Gh (a.block b c) _).trans (o j u q)⟩
def JG.at_{w:dd}{v:dx}{l:List (List Int)}(h:JG w v l):∃ (d:Option eh) (cap:Nat),v=Y d l.length cap∧l.length≤cap∧(0<l.length→∃ b f,d=Z ⟨b,f,O⟩∧b<w.heap.size∧∀ k (j:k<l.length),∃ (a:Option eh) (c:Nat),w.cell? ⟨b,f+k,O⟩=Z (.slice a l[k].length c)∧Af J w 0 (.slice a l[k].length c) l[k]):=by
 obtain⟨us,⟨d,cap,u,o,x,p,t⟩,r⟩:=h;refine⟨d,cap,u,o,fun n=>?_⟩;obtain⟨b,f,e,_,s,q⟩:=t n;refine⟨b,f,e,s,fun k j=>?_⟩;have m:k<us.length:=by rw[p];omega
 have g:=r k us[k] l[k] (cJ m) (cJ j);obtain⟨a,c,i,_⟩:=g.open_;rw[i] at g;exact⟨a,c,by rw[←i];exact q k _ (cJ m),g⟩
def Ap(F a:Nat→Prop):Prop:=∀ b,F b→¬a b
def Ap.symm{F a:Nat→Prop}(h:Ap F a):Ap a F:=fun b c d=>h b d c
def Ap.gr{F c:Nat→Prop}{w w':dd}(h:Ap F c)(e:∀ b,F b→b<w.heap.size):Ap F (Gr w w' c):=fun b d a=>by
 rcases a with a|a
 ·exact h b d a
 ·have:=e b d;omega
def Ms{α:Type}{l:List α}{d:α}{k:Nat}(h:k<l.length):l.getD k d=l[k]:=by simp[List.getD,h]
def Up{α:Type}{P:Nat→α→Prop}(n:Nat)(h:∀ k,k<n→∃ x,P k x):∃ l:List α,l.length=n∧∀ k (a:k<l.length),P k l[k]:=by
 induction n with
 |zero=>exact⟨[],rfl,fun k a=>absurd a (by simp)⟩
 |succ n f=>
  obtain⟨l,c,d⟩:=f fun k a=>h k (by omega);obtain⟨x,e⟩:=h n (by omega);refine⟨l++ [x],by simp[c],fun k a=>?_⟩;by_cases b:k<l.length
  ·rw[eS b];exact d k b
  ·have:k=n:=by simp at a;omega
   subst this;rw[eQ (by omega)];simpa using e
def IX{α:Type}{l:List (List dx×α)}{k:Nat}(a:k<l.length):(l.map (·.1)).getD k []=l[k].1:=by
 rw[Ms (by rw[dW];exact a),eB]
def Kg{H:Type}{enc:ee×dx→H}{P:Program}{α:Type}{t e:ee}{sz:Nat}{W:dd}{B:Nat→Bool}{u:Bool}{n:Nat}{a:Option eh}{b cap:Nat}{x:DataW H×List fk}
  (ht:P.underlying t=Z (.slice e)) (K:P.cellsOf e=sz) (aa:0<sz) (Q:List dx→α→Prop)
  (X:∀ d m y,d.length=sz→dB enc P W 0 B u m e d=Z y→∃ z,Q d z)
  (N:dB enc P W 0 B u n t [Y a b cap]=Z x):
  ∃ l:List (List dx×α),l.length=b∧b≤maxLen∧AW W (Y a b cap) b sz (fun k j=>((l.map (·.1)).getD k []).getD j dN)∧∀ z∈l,Q z.1 z.2:=by
 rcases fo ht N with ⟨g,_⟩|⟨f,ah,c,m,n,D,Pl,g,_,R,hm,V,_,v⟩
 ·simp at g;obtain⟨rfl,rfl,rfl⟩:=g;exact⟨[],rfl,by unfold maxLen;omega,⟨O,0,rfl,cY _,fun _=>rfl,fun s=>absurd s (by simp)⟩,by simp⟩
 ·simp at g;obtain⟨rfl,rfl,rfl⟩:=g;have af:b≤m:=by subst V;split<;>omega
  rw[K] at v;have M:∀ k,k<b→∃ z:List dx×α,(∀ j,j<sz→W.cell? ((f.add (k*sz)).add j)=Z (z.1.getD j dN))∧Q z.1 z.2:=fun k o=>by
   obtain⟨d,F,ac⟩:=v k (by omega);obtain⟨_,L,E⟩:=World.cells?_some F;obtain⟨z,q⟩:=X d n _ L ac;refine⟨(d,z),fun j i=>?_,q⟩;show _=Z (d.getD j dN);rw[E j i,cJ (by omega),Ms (by omega)]
  obtain⟨l,S,p⟩:=Up b M;refine⟨l,S,by omega,⟨Z f,cap,rfl,R,(fun h=>by cases h),fun s=>?_⟩,fun z q=>?_⟩
  ·have r:=(p 0 (by omega)).1 0 aa;have C:(f.add (0*sz)).add 0=f:=by simp[Addr.add]
   rw[C] at r;have w:=NW r;refine⟨f.block,f.off,by rw[←w],World.block_lt_of_cell? _ _ r,fun k j o i=>?_⟩;have A:=(p k (by omega)).1 j i;rw[w,Cu,Cu] at A;rw[A];show _=Z (((l.map (·.1)).getD k []).getD j dN);rw[IX (by omega)]
  ·obtain⟨k,o,rfl⟩:=fa q;exact(p k o).2
def AW.KE{w:dd}{v:dx}{n sz:Nat}{u d:Nat→Nat→dx}(h:AW w v n sz u)(m:∀ k j,k<n→j<sz→u k j=d k j):AW w v n sz d:=by
 obtain⟨e,cap,r,o,p,q⟩:=h;refine⟨e,cap,r,o,p,fun f=>?_⟩;obtain⟨b,s,g,i,l⟩:=q f;exact⟨b,s,g,i,fun k j c a=>by rw[←m k j c a];exact l k j c a⟩
def GO{α β:Type}{f:α→β}{d:β}{l:List (List dx×α)}{k:Nat}(a:k<l.length):(l.map fun z=>f z.2).getD k d=f l[k].2:=by
 rw[Ms (by rw[dW];exact a),eB]
section
variable {H:Type} {enc:ee×dx→H} {W:dd} {spare:Nat→Bool} {held:Bool} {n:Nat} {a:Option eh} {len cap:Nat} {x:DataW H×List fk}
def MP(h:dB enc prog W 0 spare held n 22 [Y a len cap]=Z x):∃ l:List Int,l.length=len∧len≤maxLen∧C6 W (Y a len cap) l∧∀ z∈l,-9223372036854775808≤z∧z≤9223372036854775807:=by
 obtain⟨l,e,i,o,g⟩:=Kg underlying22 (show prog.cellsOf 3=1 by kernel_rfl) (by decide) (fun d (z:Int)=>d=[.int J z]∧ -9223372036854775808≤z∧z≤9223372036854775807) (fun d m y s p=>by
  obtain⟨z,c,_,q⟩:=dH underlying3 p;exact⟨z,c,bounds_i64 q⟩) h
 refine⟨l.map (·.2),by simpa using e,i,?_,fun z c=>?_⟩
 ·unfold C6;rw[dW,e];refine o.KE fun k j u t=>?_
  have b:k<l.length:=by omega
  obtain rfl:j=0:=by omega
  rw[IX b,(g _ (dG b)).1,GO (f:=fun z=>z) b];rfl
 ·obtain⟨y,r,rfl⟩:=eD.1 c;exact(g y r).2
def XH(v:dB enc prog W 0 spare held n 66 [Y a len cap]=Z x):∃ l:List Ai,l.length=len∧Ew W (Y a len cap) l∧∀ i∈l,0≤i.op∧i.op≤255:=by
 obtain⟨l,s,Q,w,t⟩:=Kg underlying66 (show prog.cellsOf 64=4 by kernel_rfl) (by decide) (fun b (z:Ai)=>b=Jc z∧0≤z.op∧z.op≤255) (fun b m y u A=>by
  obtain⟨ys,R,_,_,_,C,c⟩:=ez underlying64 A;have g0:=c 0 _ rfl;have d:=c 1 _ rfl;have e:=c 2 _ rfl;have g:=c 3 _ rfl;change dB _ _ _ _ _ _ _ 5 ((b.drop 0).take (prog.cellsOf 5))=_ at g0;change dB _ _ _ _ _ _ _ 3 ((b.drop 1).take (prog.cellsOf 3))=_ at d;change dB _ _ _ _ _ _ _ 3 ((b.drop 2).take (prog.cellsOf 3))=_ at e;change dB _ _ _ _ _ _ _ 3 ((b.drop 3).take (prog.cellsOf 3))=_ at g;rw[show prog.cellsOf 5=1 by kernel_rfl] at g0;rw[show prog.cellsOf 3=1 by kernel_rfl] at d e g
  match b,u,ys,C with
  | [u0,u1,u2,u3],_,[y0,y1,y2,y3],_=>
   obtain⟨F,o,_,E⟩:=dH underlying5 g0;obtain⟨K,p,_,S⟩:=dH underlying3 d;obtain⟨L,q,_,V⟩:=dH underlying3 e;obtain⟨M,r,_,X⟩:=dH underlying3 g;simp at o p q r;subst o p q r;exact⟨⟨F,K,L,M⟩,rfl,bounds_u8 E⟩) v
 refine⟨l.map (·.2),by simpa using s,?_,fun z D=>?_⟩
 ·unfold Ew;rw[dW,s];refine w.KE fun k j P N=>?_
  have h:k<l.length:=by omega
  rw[IX h,(t _ (dG h)).1,GO (f:=fun z=>z) h]
 ·obtain⟨y,B,rfl⟩:=eD.1 D;exact(t y B).2
def XK(A:dB enc prog W 0 spare held n 23 [Y a len cap]=Z x):∃ l:List CV,l.length=len∧Ex W (Y a len cap) l:=by
 obtain⟨l,v,S,C,B⟩:=Kg underlying23 (show prog.cellsOf 62=6 by kernel_rfl) (by decide) (fun b (z:ByteArray×CV)=>b=Ki z.1 z.2) (fun b m y w D=>by
  obtain⟨ys,V,_,_,_,E,c⟩:=ez underlying62 D;have g0:=c 0 _ rfl;have e:=c 1 _ rfl;have g:=c 2 _ rfl;have h:=c 3 _ rfl;have i:=c 4 _ rfl;have o:=c 5 _ rfl;change dB _ _ _ _ _ _ _ 9 ((b.drop 0).take (prog.cellsOf 9))=_ at g0;change dB _ _ _ _ _ _ _ 5 ((b.drop 1).take (prog.cellsOf 5))=_ at e;change dB _ _ _ _ _ _ _ 4 ((b.drop 2).take (prog.cellsOf 4))=_ at g;change dB _ _ _ _ _ _ _ 3 ((b.drop 3).take (prog.cellsOf 3))=_ at h;change dB _ _ _ _ _ _ _ 3 ((b.drop 4).take (prog.cellsOf 3))=_ at i;change dB _ _ _ _ _ _ _ 3 ((b.drop 5).take (prog.cellsOf 3))=_ at o;rw[show prog.cellsOf 9=1 by kernel_rfl] at g0;rw[show prog.cellsOf 5=1 by kernel_rfl] at e;rw[show prog.cellsOf 4=1 by kernel_rfl] at g;rw[show prog.cellsOf 3=1 by kernel_rfl] at h i o
  match b,w,ys,E with
  | [u0,u1,u2,u3,u4,u5],_,[y0,y1,y2,y3,y4,y5],_=>
   obtain⟨F,p,_⟩:=eJ underlying9 g0;obtain⟨K,q,_,X⟩:=dH underlying5 e;obtain⟨L,r,_⟩:=DataW.trod_bool underlying4 g;obtain⟨M,s,_,w3⟩:=dH underlying3 h;obtain⟨N,t,_,w4⟩:=dH underlying3 i;obtain⟨P,u,_,w5⟩:=dH underlying3 o;simp at p q r s t u;subst p q r s t u;exact⟨(F,⟨K,L,M,N,P⟩),rfl⟩) A
 refine⟨l.map (·.2.2),by simpa using v,⟨fun k=>(l.map (·.2.1)).getD k default,?_⟩⟩;rw[dW,v];refine C.KE fun k j R Q=>?_
 have d:k<l.length:=by omega
 dsimp only;rw[IX d,B _ (dG d),GO (f:=fun z=>z.1) d,GO (f:=fun z=>z.2) d]
def J1{t e:ee}{v:dx}(f:prog.underlying t=Z (.slice e))(d:dB enc prog W 0 spare held n t [v]=Z x):∃ a len cap,v=Y a len cap:=by
 rcases fo f d with ⟨b,_⟩|⟨h,l,c,m,n,D,g,b,_⟩
 ·simp at b;exact⟨_,_,_,b⟩
 ·simp at b;exact⟨_,_,_,b⟩
def XL(E:dB enc prog W 0 spare held n 24 [Y a len cap]=Z x):∃ l:List Eu,l.length=len∧Gd W (Y a len cap) l∧∀ c∈l,∀ i∈c.code,0≤i.op∧i.op≤255:=by
 obtain⟨l,w,hm,F,q⟩:=Kg underlying24 (show prog.cellsOf 68=5 by kernel_rfl) (by decide) (fun d (z:ByteArray×dx×Eu)=>d=I1 z.1 z.2.1 z.2.2∧Ew W z.2.1 z.2.2.code∧∀ i∈z.2.2.code,0≤i.op∧i.op≤255) (fun d m y D K=>by
  obtain⟨ys,m',_,_,_,M,g⟩:=ez underlying68 K;have g0:=g 0 _ rfl;have h:=g 1 _ rfl;have o:=g 2 _ rfl;have p:=g 3 _ rfl;have e:=g 4 _ rfl;change dB _ _ _ _ _ _ _ 9 ((d.drop 0).take (prog.cellsOf 9))=_ at g0;change dB _ _ _ _ _ _ _ 3 ((d.drop 1).take (prog.cellsOf 3))=_ at h;change dB _ _ _ _ _ _ _ 3 ((d.drop 2).take (prog.cellsOf 3))=_ at o;change dB _ _ _ _ _ _ _ 3 ((d.drop 3).take (prog.cellsOf 3))=_ at p;change dB _ _ _ _ _ _ _ 66 ((d.drop 4).take (prog.cellsOf 66))=_ at e;rw[show prog.cellsOf 9=1 by kernel_rfl] at g0;rw[show prog.cellsOf 3=1 by kernel_rfl] at h o p;rw[show prog.cellsOf 66=1 by kernel_rfl] at e
  match d,D,ys,M with
  | [u0,u1,u2,u3,u4],_,[y0,y1,y2,y3,P],_=>
   obtain⟨Q,r,_⟩:=eJ underlying9 g0;obtain⟨R,s,_,w1⟩:=dH underlying3 h;obtain⟨S,t,_,w2⟩:=dH underlying3 o;obtain⟨V,u,_,w3⟩:=dH underlying3 p;change dB _ _ _ _ _ _ _ 66 [u4]=Z P at e;obtain⟨X,l4,c4,rfl⟩:=J1 underlying66 e;obtain⟨N,ab,B,A⟩:=XH e;simp at r s t u;subst r s t u;exact⟨(Q,_,⟨R,S,V,N⟩),rfl,B,A⟩) E
 refine⟨l.map (·.2.2.2),by simpa using w,⟨fun k=>(l.map (·.2.1)).getD k default,fun k=>(l.map (·.2.2.1)).getD k default,?_,fun k v=>?_⟩,fun c C=>?_⟩
 ·rw[dW,w];refine F.KE fun k j v hj=>?_
  have b:k<l.length:=by omega
  dsimp only;rw[IX b,(q _ (dG b)).1,GO (f:=fun z=>z.1) b,GO (f:=fun z=>z.2.1) b,GO (f:=fun z=>z.2.2) b]
 ·have b:k<l.length:=by simpa using v
  dsimp only;rw[GO (f:=fun z=>z.2.1) b,GO (f:=fun z=>z.2.2) b];exact(q _ (dG b)).2.1
 ·obtain⟨y,L,rfl⟩:=eD.1 C;exact(q y L).2.2
def Rk{w:dd}{v:dx}{l:List Int}(h:C6 w v l):Af J w 0 v l:=by
 obtain⟨e,cap,r,o,p,q⟩:=h;refine⟨e,cap,r,o,p,by simp,fun f=>?_⟩;obtain⟨b,s,g,i,k⟩:=q f;refine⟨b,s,g,dE _,i,fun j u c=>?_⟩;rw[dP,eA] at c;obtain⟨z,d,rfl⟩:=c;have m:=(dI.1 d).1;have:=k j 0 m (by decide);rw[ea,dR] at this;rw[this];dsimp only;rw[cI,d];rfl
def XI(C:dB enc prog W 0 spare held n 27 [Y a len cap]=Z x):∃ l:List (List Int),l.length=len∧JG W (Y a len cap) l:=by
 obtain⟨l,e,R,K,h⟩:=Kg underlying27 (show prog.cellsOf 22=1 by kernel_rfl) (by decide) (fun f (z:dx×List Int)=>f=[z.1]∧Af J W 0 z.1 z.2) (fun f m y A k=>by
  match f,A with
  | [u],_=>
   obtain⟨Q,S,c4,rfl⟩:=J1 underlying22 k;obtain⟨N,_,_,s,_⟩:=MP k;exact⟨(_,N),rfl,Rk s⟩) C
 refine⟨l.map (·.2.2),by simpa using e,l.map (·.2.1),?_,fun i u z c d=>?_⟩
 ·obtain⟨p,q,L,D,E,F⟩:=K;refine⟨p,q,by rw[L];simp[e],by simpa[e] using D,E,by simp,fun r=>?_⟩;obtain⟨b,P,t,v,w⟩:=F (by simpa[e] using r);refine⟨b,P,t,dE _,v,fun j u c=>?_⟩;rw[dP,eA] at c;obtain⟨z,d,rfl⟩:=c;have g:=(dI.1 d).1;have:=w j 0 (by omega) (by decide);rw[ea,dR] at this;have B:l[j]=z:=(dI.1 d).2;rw[this];dsimp only;rw[IX g,(h _ (dG g)).1,B];rfl
 ·rw[dP,eA] at c d;obtain⟨y,o,rfl⟩:=c;obtain⟨V,M,rfl⟩:=d;obtain rfl:=dc (o.symm.trans M);exact(h y (e6 o)).2
end
section
variable {H:Type} {enc:ee×dx→H} {W:dd} {spare:Nat→Bool} {held:Bool}
def PD{r:Reach}{b0:Nat}{v:dx}{d:DataW H}{p:List fk}(hv:Value.okWide prog W r b0 26 v)(h:fC enc prog W 0 spare held 26 v d p):
  ∃ (c:Ad) (nm:ByteArray) (F E:Int) (K s u t:Option eh) (j w co x:Nat),v=.agg #[.string nm,.int J F,.int J E,.int J c.mem,Y K c.semas.length j,.int J c.events,.int J c.boards,Y s c.bufs.length w,Y u c.Ab.length co,Y t c.procs.length x]∧Il W c nm F E K s u t j w co x:=by
 obtain⟨j,rfl,aj⟩:=okWide_struct underlying26 hv;obtain⟨fuel,hf⟩:=h;obtain⟨ys,n,_,_,_,al,b⟩:=ez underlying26 hf;have c3:prog.cellsOf 3=1:=by kernel_rfl
 have g0:=b 0 _ rfl;have k:=b 1 _ rfl;have l:=b 2 _ rfl;have m:=b 3 _ rfl;have e:=b 4 _ rfl;have o:=b 5 _ rfl;have q:=b 6 _ rfl;have f:=b 7 _ rfl;have g:=b 8 _ rfl;have i:=b 9 _ rfl;obtain⟨a⟩:=j;have ah:a.length=10:=aj.trans (show prog.cellsOf 26=10 by kernel_rfl);change dB _ _ _ _ _ _ _ 9 ((a.drop 0).take (prog.cellsOf 9))=_ at g0;change dB _ _ _ _ _ _ _ 3 ((a.drop 1).take (prog.cellsOf 3))=_ at k;change dB _ _ _ _ _ _ _ 3 ((a.drop 2).take (prog.cellsOf 3))=_ at l;change dB _ _ _ _ _ _ _ 3 ((a.drop 3).take (prog.cellsOf 3))=_ at m;change dB _ _ _ _ _ _ _ 22 ((a.drop 4).take (prog.cellsOf 22))=_ at e;change dB _ _ _ _ _ _ _ 3 ((a.drop 5).take (prog.cellsOf 3))=_ at o;change dB _ _ _ _ _ _ _ 3 ((a.drop 6).take (prog.cellsOf 3))=_ at q;change dB _ _ _ _ _ _ _ 22 ((a.drop 7).take (prog.cellsOf 22))=_ at f;change dB _ _ _ _ _ _ _ 23 ((a.drop 8).take (prog.cellsOf 23))=_ at g;change dB _ _ _ _ _ _ _ 24 ((a.drop 9).take (prog.cellsOf 24))=_ at i;rw[show prog.cellsOf 9=1 by kernel_rfl] at g0;rw[c3] at k l m o q;rw[show prog.cellsOf 22=1 by kernel_rfl] at e f;rw[show prog.cellsOf 23=1 by kernel_rfl] at g;rw[show prog.cellsOf 24=1 by kernel_rfl] at i
 match a,ah,ys,al with
 | [u0,u1,u2,u3,u4,u5,u6,u7,u8,u9],_,[y0,y1,y2,y3,y4,y5,y6,y7,y8,y9],_=>
  obtain⟨z0,y,_⟩:=eJ underlying9 g0;obtain⟨z1,z,_,w1⟩:=dH underlying3 k;obtain⟨z2,A,_,w2⟩:=dH underlying3 l;obtain⟨z3,B,_,w3⟩:=dH underlying3 m;obtain⟨z5,C,_,w5⟩:=dH underlying3 o;obtain⟨z6,D,_,w6⟩:=dH underlying3 q;change dB _ _ _ _ _ _ _ 22 [u4]=Z y4 at e;change dB _ _ _ _ _ _ _ 22 [u7]=Z y7 at f;change dB _ _ _ _ _ _ _ 23 [u8]=Z y8 at g;change dB _ _ _ _ _ _ _ 24 [u9]=Z y9 at i;obtain⟨S,l4,c4,rfl⟩:=J1 underlying22 e;obtain⟨V,l7,c7,rfl⟩:=J1 underlying22 f;obtain⟨X,l8,c8,rfl⟩:=J1 underlying23 g;obtain⟨a9,l9,c9,rfl⟩:=J1 underlying24 i;obtain⟨s4,rfl,_,N,_⟩:=MP e;obtain⟨s7,rfl,_,P,L⟩:=MP f;obtain⟨s8,rfl,Q⟩:=XK g;obtain⟨s9,rfl,R,M⟩:=XL i;simp[Value.cells] at y z A B C D;subst y z A B C D;exact⟨⟨z3,s4,z5,z6,s7,s8,s9⟩,z0,z1,z2,S,V,X,a9,c4,c7,c8,c9,rfl,N,P,L,Q,R,M⟩
def XJ{a:Option eh}{b cap:Nat}{d:DataW H}{p:List fk}(h:fC enc prog W 0 spare held 27 (Y a b cap) d p):∃ l:List (List Int),JG W (Y a b cap) l:=by
 obtain⟨fuel,e⟩:=h;obtain⟨l,_,c⟩:=XI e;exact⟨l,c⟩
end
end Go.Proofs.YtiepijihpgijbaaGreatDoor
