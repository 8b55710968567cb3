import Derived.Test.YtiepijihpgijbaaGreatDoorQ6
set_option maxHeartbeats 16000000
set_option maxRecDepth 1000000
set_option linter.all false
open Go.Value renaming int→I,slice→Y,pointer→G
open Go.IntKind renaming u8→U,i64→J
open Option renaming some→Z,none→O
open Go.Obj renaming cells→T
open List renaming setIfInBounds_toArray→ab,set_cons_zero→ad,set_cons_succ→ag,length→az,length_append→aK,mem_singleton→aP,getD_eq_getElem?_getD→aS,append_nil→aV,length_map→ba,take_zero→bb,getElem?_eq_some_iff→bc,getElem?_eq_none→bg,getElem?_map→bp,not_mem_nil→br,getElem_mem→bs,map_append→bt,mem_cons→bw,mem_map→bA
open Go.Value.slice renaming injEq→ai
open Nat renaming le_refl→ak,le_trans→aL,zero_le→aW,add_zero→bI
open Option.some renaming injEq→aq
open Go renaming heap_alloc_new→ar,World→aU,Value→aX,TypeId→bf,execOp→bl,Calls→bE
open Go.RowKit.Below renaming refl→av
open Go.Addr.mk renaming injEq→aG
open Go.Value renaming slice→aH
open Go.Instr renaming field→a9,sliceAt→bu
open Int renaming tmod_eq_emod_of_nonneg→bd,le_refl→bi
open Option renaming map_eq_some_iff→be
open Go.Lib renaming wpList_append_run→bh
open Go.Builtin renaming append_→bj
open Go.RowKit renaming intOf→bx
open Go.Value.pointer renaming injEq→bF
open Go.DataW renaming Trod→bM
namespace Go.Proofs.YtiepijihpgijbaaGreatDoor
open Go.RowKit Tryz Go.ChangeShapes Go.WideShapes Go.ChangeAt
def eQ:EG 9:=fun _ _=>by kernel_rfl
section
variable {d:Ad} {s:Ae} {now:Int}
def aC(k:Nat):((CP now s).1.procs.getD k default).status=(s.procs.getD k default).status∧((CP now s).1.procs.getD k default).since=(s.procs.getD k default).since:=by
 by_cases a:k<s.procs.length
 ·rw[WI k a];exact⟨(MB _).1,(MB _).2.2.2.1⟩
 ·rw[aS,bg (by rw[WK];omega),aS,bg (by omega)];exact⟨rfl,rfl⟩
def aQ(b:Int)(i:Nat):CL d (CP now s).1 b i=CL d s b i:=by
 unfold CL EL;rw[(aC i).1,(aC i).2,(aC b.toNat).2]
def aI:Hw d (CP now s).1=Hw d s:=by
 unfold Hw;rw[WK]
 congr 1
 funext b i;exact aQ b i
def aT(i:s.mode=3)(f:s.clock≤now)(g:now≤1073741824):
  (Hw d (Dl d now s)<0∧A3 d now s=(Jr d now s,⟨Hw d (Dl d now s),zeroA,C7 now 0 (Dl d now s).procs,0⟩))∨
  (0≤Hw d (Dl d now s)∧A3 d now s=((EI d (Hw d (Dl d now s)).toNat now (Jr d now s)).1,⟨Hw d (Dl d now s),(EI d (Hw d (Dl d now s)).toNat now (Jr d now s)).2,C7 now 0 (Dl d now s).procs++(if(EI d (Hw d (Dl d now s)).toNat now (Jr d now s)).2.kind=15 then [⟨Hw d (Dl d now s),(EI d (Hw d (Dl d now s)).toNat now (Jr d now s)).2.a%256,(EI d (Hw d (Dl d now s)).toNat now (Jr d now s)).2.b⟩] else []),0⟩)):=by
 have c:Hw d (Jr d now s)=Hw d (Dl d now s):=by
  show Hw d (CP now (Dl d now {s with clock:=now+1})).1=_;rw[aI];rfl
 have e:(CP now (Dl d now {s with clock:=now+1})).2=C7 now 0 (Dl d now s).procs:=rfl;unfold A3;rw[if_neg (by omega),if_neg (by omega),if_neg (by omega)];simp only[];rw[e];show(_∧(if Hw d (Jr d now s)<0 then _ else _)=_)∨(_∧(if Hw d (Jr d now s)<0 then _ else _)=_);rw[c];by_cases h:Hw d (Dl d now s)<0
 ·refine .inl ⟨h,?_⟩;rw[if_pos h];show(Jr d now s,(⟨Hw d (Jr d now s),zeroA,C7 now 0 (Dl d now s).procs,0⟩:Im))=_;rw[c]
 ·refine .inr ⟨by omega,?_⟩;rw[if_neg h];show((EI d (Hw d (Jr d now s)).toNat now (Jr d now s)).1,(⟨Hw d (Jr d now s),(EI d (Hw d (Jr d now s)).toNat now (Jr d now s)).2,if(EI d (Hw d (Jr d now s)).toNat now (Jr d now s)).2.kind=15 then C7 now 0 (Dl d now s).procs++ [⟨Hw d (Jr d now s),(EI d (Hw d (Jr d now s)).toNat now (Jr d now s)).2.a%256,(EI d (Hw d (Jr d now s)).toNat now (Jr d now s)).2.b⟩] else C7 now 0 (Dl d now s).procs,0⟩:Im))=_;rw[c];split
  ·rfl
  ·rw[aV]
end
section
variable {B:Nat} {w w' w1 w2 w3:aU} {F F':Nat→Prop} {g:Nat} {d:Ad} {s s':Ae}
end
section
variable (m k:Int) (a1 a2 a3 a4 a5 a6 a7 a8:Option Addr) (n1 c1 n2 c2 n3 c3 n4 c4 n5 c5 n6 c6 n7 c7 n8 c8:Nat) (w:aU)
def cH:(a9 37 (.agg #[I U m,I J k,Y a1 n1 c1,Y a2 n2 c2,Y a3 n3 c3,Y a4 n4 c4,Y a5 n5 c5,Y a6 n6 c6,Y a7 n7 c7,Y a8 n8 c8]) 7).run prog w=.ok (Y a6 n6 c6) w:=by
 simp[a9,asAgg,go_sem]
def fB:(a9 37 (.agg #[I U m,I J k,Y a1 n1 c1,Y a2 n2 c2,Y a3 n3 c3,Y a4 n4 c4,Y a5 n5 c5,Y a6 n6 c6,Y a7 n7 c7,Y a8 n8 c8]) 8).run prog w=.ok (Y a7 n7 c7) w:=by
 simp[a9,asAgg,go_sem]
end
section
variable {H:Type} {enc:bf×aX→H} {W:aU} {spare:Nat→Bool} {held:Bool} {n:Nat} {a:Option Addr} {len cap:Nat} {x:DataW H×List MemPlace}
end
section
variable {H:Type} {enc:bf×aX→H} {W:aU} {spare:Nat→Bool} {held:Bool}
def fG{a:Option Addr}{b cap:Nat}{d:DataW H}{p:List MemPlace}(h:bM enc prog W 0 spare held 22 (Y a b cap) d p):∃ l:List Int,l.length=b∧b≤maxLen∧Af J W 0 (Y a b cap) l∧∀ z∈l,-9223372036854775808≤z∧z≤9223372036854775807:=by
 obtain⟨fuel,i⟩:=h;obtain⟨l,c,e,f,g⟩:=MP i;exact⟨l,c,e,Rk f,g⟩
end
def dF(D:Int):CV:=⟨2,false,1,D,0⟩
def dR(D:Int):CV:=⟨2,true,1,D,0⟩
def dK:List Ai:=[⟨8,0,0,1⟩,⟨7,1,0,1⟩,⟨20,0,0,0⟩]
def eN(D:Int):Ad:=⟨0,[],0,0,[],[dF D,dR D],[⟨0,0,0,dK⟩]⟩
def eO(c a:Int)(p:BA)(q:List (List Int))(w:List Wt)(b:Int)(o:List (List Int)):Ae:=⟨c,a,[],[p],[⟨[],0,false⟩,⟨[],0,false⟩],[⟨q,w,b⟩,⟨o,[],0⟩],[],[],[],[]⟩
def eJ(D:Int):DB (eN D)=eO 1 0 EU [] [] 0 []:=rfl
def dD(d b:Int)(r:List Int)(c e a:Int):BA:=⟨d,⟨b,0,r⟩,c,-1,-1,e,a⟩
def dJ(D n:Int)(q:List (List Int))(d:1≤D)(e:D≤16)(h:(q.length:Int)≤D)(b:∀ m∈q,m.length=1)(f:0≤n)(g:n≤1073741824):BP 2 1 D 0 q [] n=true:=by
 have a:q.any (JN 1)=false:=by
  rw[List.any_eq_false];intro m c;have:=b m c;simp[JN,this]
 simp only[BP,a,Fm,Ey,AY];simp;omega
def dY(D n:Int)(a:1≤D)(b:D≤16)(c:0≤n)(d:n≤1073741824):BP 2 1 D 0 [] [⟨0,0,0⟩] n=true:=by
 simp only[BP,Fm,Ey,AY];simp;omega
def dU(D n:Int)(v:Int)(t:List (List Int))(a:BP 2 1 D 0 ([v]::t) [] n=true):recvQ 2 1 D 0 ([v]::t) [] n 0 0=(t,[],[v],true,0):=by
 unfold recvQ;rw[a];rfl
def dS(D n:Int)(a:BP 2 1 D 0 [] [] n=true):recvQ 2 1 D 0 [] [] n 0 0=([],[⟨0,0,0⟩],[],false,0):=by
 unfold recvQ;rw[a];rfl
def dV(D v:Int)(a:BP 2 1 D 0 [] [] 0=true)(b:1≤D):sendQ 2 1 D 0 [] [] 0 [v]=([[v]],[],0,-1,0):=by
 unfold sendQ;rw[a];simp;omega
def fJ(d:Ad)(A:Ac)(S:Ae):=recvQ (portA d A).kind (portA d A).size (portA d A).depth (portA d A).At (quA A S).q (quA A S).wait (quA A S).lost ((0:Nat):Int) (prioA d 0)
def fK(d:Ad)(A:Ac)(S:Ae)(l:List Int):=sendQ (portA d A).kind (portA d A).size (portA d A).depth (portA d A).At (quA A S).q (quA A S).wait (quA A S).lost l
def dN(D now c n a b r2 r3 s y o v:Int)(t ou)(g:BP 2 1 D 0 ([v]::t) [] n=true):EI (eN D) 0 now (eO 3 c (dD 2 0 [a,b,r2,r3] s y o) ([v]::t) [] n ou)=(eO 3 c (dD 2 1 [v,1,r2,r3] s y o) t [] n ou,⟨3,0,0,[]⟩):=by
 have d:fJ (eN D) ⟨3,0,0,[]⟩ (eO 3 c (dD 2 1 [a,b,r2,r3] s y o) ([v]::t) [] n ou)=(t,[],[v],true,0):=dU D n v t g;unfold fJ at d;unfold EI;show(let f:=Fg (eN D) 0 now ⟨3,0,0,[]⟩ (eO 3 c (dD 2 1 [a,b,r2,r3] s y o) ([v]::t) [] n ou);((if f.2 then f.1 else _),_))=_;have e:Fg (eN D) 0 now ⟨3,0,0,[]⟩ (eO 3 c (dD 2 1 [a,b,r2,r3] s y o) ([v]::t) [] n ou)=(eO 3 c (dD 2 1 [v,1,r2,r3] s y o) t [] n ou,true):=by
  unfold Fg;rw[if_pos (show(portA (eN D) ⟨3,0,0,[]⟩).kind=2 from rfl)];simp only[d];rfl
 rw[e];rfl
def dQ(D now c n a b r2 r3 s y o:Int)(ou)(g:BP 2 1 D 0 [] [] n=true):EI (eN D) 0 now (eO 3 c (dD 2 0 [a,b,r2,r3] s y o) [] [] n ou)=(eO 3 c (dD 3 1 [a,b,r2,r3] s 3 0) [] [⟨0,0,0⟩] n ou,⟨3,0,0,[]⟩):=by
 have f:fJ (eN D) ⟨3,0,0,[]⟩ (eO 3 c (dD 2 1 [a,b,r2,r3] s y o) [] [] n ou)=([],[⟨0,0,0⟩],[],false,0):=dS D n g;unfold fJ at f;unfold EI;show(let d:=Fg (eN D) 0 now ⟨3,0,0,[]⟩ (eO 3 c (dD 2 1 [a,b,r2,r3] s y o) [] [] n ou);((if d.2 then d.1 else {d.1 with procs:=d.1.procs.set 0 (waitR ⟨3,0,0,[]⟩ (d.1.procs.getD 0 default))}),_))=_;have e:Fg (eN D) 0 now ⟨3,0,0,[]⟩ (eO 3 c (dD 2 1 [a,b,r2,r3] s y o) [] [] n ou)=(eO 3 c (dD 2 1 [a,b,r2,r3] s y o) [] [⟨0,0,0⟩] n ou,false):=by
  unfold Fg;rw[if_pos (show(portA (eN D) ⟨3,0,0,[]⟩).kind=2 from rfl)];simp only[f];rfl
 rw[e];rfl
def dO(D now c n a b r2 r3 s y o:Int)(q w)(g:BP 2 1 D 0 [] [] 0=true)(f:1≤D)(h:0≤a)(i:a≤255):EI (eN D) 0 now (eO 3 c (dD 2 1 [a,b,r2,r3] s y o) q w n [])=(eO 3 c (dD 2 2 [a,b,r2,r3] s y o) q w n [[a]],⟨2,1,0,[(a+0)%256]⟩):=by
 have d:fK (eN D) ⟨2,1,0,[(a+0)%256]⟩ (eO 3 c (dD 2 2 [a,b,r2,r3] s y o) q w n []) [(a+0)%256]=([[a]],[],0,-1,0):=by
  rw[show (a+0)%256=a by omega];exact dV D a g f
 unfold fK at d;have e:EJ (eN D) now ⟨2,1,0,[(a+0)%256]⟩ (eO 3 c (dD 2 2 [a,b,r2,r3] s y o) q w n [])=eO 3 c (dD 2 2 [a,b,r2,r3] s y o) q w n [[a]]:=by
  unfold EJ;rw[if_neg (show¬(portA (eN D) ⟨2,1,0,[(a+0)%256]⟩).kind=1 from(by decide:¬(2:Int)=1))];simp only[d];rfl
 unfold EI;show((EJ (eN D) now ⟨2,1,0,[(a+0)%256]⟩ (eO 3 c (dD 2 2 [a,b,r2,r3] s y o) q w n [])),_)=_;rw[e];rfl
def dP(D now c n a b r2 r3 s y o:Int)(q w ou):EI (eN D) 0 now (eO 3 c (dD 2 2 [a,b,r2,r3] s y o) q w n ou)=(eO 3 c (dD 2 0 [a,b,r2,r3] s y o) q w n ou,zeroA):=rfl
def dG(D now c a b n s y o:Int)(r:List Int)(q w ou)(f:a=2∨(a=3∧y=3)):Dl (eN D) now (eO 3 c (dD a b r s y o) q w n ou)=eO 3 c (dD a b r s y o) q w n ou:=by
 have:Dg (eN D) now 0 (dD a b r s y o)=dD a b r s y o:=by
  unfold Dg;rw[if_neg];rintro⟨d,e,_⟩;have d:a=3:=d;have e:y=14:=e;omega
 show eO 3 c (Dg (eN D) now 0 (dD a b r s y o)) q w n ou=_;rw[this]
def dI(D now a n s y o:Int)(r:List Int)(q w ou)(g:now≤1073741824)(f:(EI (eN D) 0 now (eO 3 (now+1) (dD 2 a r s y o) q w n ou)).2.kind≠15):
  A3 (eN D) now (eO 3 now (dD 2 a r s y o) q w n ou)=((EI (eN D) 0 now (eO 3 (now+1) (dD 2 a r s y o) q w n ou)).1,⟨0,(EI (eN D) 0 now (eO 3 (now+1) (dD 2 a r s y o) q w n ou)).2,[],0⟩):=by
 have b:=dG D now now 2 a n s y o r q w ou (.inl rfl);have e:Jr (eN D) now (eO 3 now (dD 2 a r s y o) q w n ou)=eO 3 (now+1) (dD 2 a r s y o) q w n ou:=by
  show(CP now (Dl (eN D) now (eO 3 (now+1) (dD 2 a r s y o) q w n ou))).1=_;rw[dG D now (now+1) 2 a n s y o r q w ou (.inl rfl)];rfl
 have c:Hw (eN D) (eO 3 now (dD 2 a r s y o) q w n ou)=0:=rfl;rcases aT (d:=eN D) (s:=eO 3 now (dD 2 a r s y o) q w n ou) (now:=now) rfl (bi now) g with ⟨h,_⟩|⟨_,h⟩
 ·rw[b,c] at h;omega
 ·rw[h,b,e,c];show(_,(⟨0,_,_,0⟩:Im))=_;rw[show (0:Int).toNat=0 from rfl,if_neg f];rfl
def dX(D now a n s o:Int)(r:List Int)(q w ou)(f:now≤1073741824):
  A3 (eN D) now (eO 3 now (dD 3 a r s 3 o) q w n ou)=(eO 3 (now+1) (dD 3 a r s 3 o) q w n ou,⟨-1,zeroA,[],0⟩):=by
 have b:=dG D now now 3 a n s 3 o r q w ou (.inr ⟨rfl,rfl⟩);have e:Jr (eN D) now (eO 3 now (dD 3 a r s 3 o) q w n ou)=eO 3 (now+1) (dD 3 a r s 3 o) q w n ou:=by
  show(CP now (Dl (eN D) now (eO 3 (now+1) (dD 3 a r s 3 o) q w n ou))).1=_;rw[dG D now (now+1) 3 a n s 3 o r q w ou (.inr ⟨rfl,rfl⟩)];rfl
 have c:Hw (eN D) (eO 3 now (dD 3 a r s 3 o) q w n ou)=-1:=rfl;rcases aT (d:=eN D) (s:=eO 3 now (dD 3 a r s 3 o) q w n ou) (now:=now) rfl (bi now) f with ⟨_,h⟩|⟨h,_⟩
 ·rw[h,b,e,c];rfl
 ·rw[b,c] at h;omega
def dM(D n:Int)(q a:List (List Int)):A3 (eN D) 0 (eO 1 0 EU q [] n a)=(eO 3 1 (dD 2 0 [0,0,0,0] 0 0 0) q [] n a,⟨-1,zeroA,[],0⟩):=rfl
def eH(D m c n:Int)(p q w ou):ET (eN D) 1 (eO m c p q w n ou)=(eO m c p q w n [],ou,0):=rfl
def dE(D m now n v:Int)(p q w ou)(a:now≤1073741824):Dc (eN D) now 0 [v] (eO m now p q w n ou)=(wakeP (eN D) now [v] [(sendQ 2 1 D 0 q w n [v]).2.2.2.1] (eO m now p (sendQ 2 1 D 0 q w n [v]).1 (sendQ 2 1 D 0 q w n [v]).2.1 (sendQ 2 1 D 0 q w n [v]).2.2.1 ou),(sendQ 2 1 D 0 q w n [v]).2.2.2.2):=by
 unfold Dc;rw[show Ek (eN D) 0 false=Z (dF D) from rfl];simp only[];rw[if_neg (show¬(now<(eO m now p q w n ou).clock∨1073741824<now∨[v]=[]) from fun h=>by
  rcases h with h|h|h
  ·have h:now<now:=h;omega
  ·omega
  ·cases h),if_neg (show¬(dF D).size<(([v]:List Int).length:Int) from(by decide:¬(1:Int)<1)),if_neg (show¬(dF D).kind=1 from(by decide:¬(2:Int)=1))]
 rfl
def eP(D now:Int)(a d:List Int)(f:Nat)(s:Ae):Prop:=
 ∃ q:List Int,(q.length:Int)≤D∧(∀ v∈q,0≤v∧v≤255)∧
  ((now=0∧s=eO 1 0 EU (q.map fun v=> [v]) [] f []∧d=a++q)∨
  (0<now∧∃ c b e i r2 r3 j h g w,s=eO 3 now (dD c b [e,i,r2,r3] j h g) (q.map fun v=> [v]) w f []∧
   ((c=2∧b=0∧w=[]∧d=a++q)∨(c=2∧b=1∧w=[]∧0≤e∧e≤255∧d=a++e::q)∨(c=2∧b=2∧w=[]∧d=a++q)∨(c=3∧h=3∧g=0∧b=1∧w=[⟨0,0,0⟩]∧q=[]∧d=a))))
section
variable {D now v:Int} {got want:List Int} {lost:Nat} {s:Ae}
def eI(b:1≤D):eP D 0 [] [] 0 (DB (eN D)):=⟨[],by simp;omega,fun v a=>(by cases a),.inl ⟨rfl,rfl,rfl⟩⟩
def dL(q:List Int):∀ m∈q.map (fun v=> [v]),m.length=1:=fun m a=>by
 obtain⟨v,_,rfl⟩:=bA.1 a;rfl
def dH(D v n:Int)(q:List Int)(a:1≤D)(b:D≤16)(e:(q.length:Int)≤D)(c:0≤n)(d:n<1073741824):
  sendQ 2 1 D 0 (q.map fun v=> [v]) [] n [v]=if(q.length:Int)=D then(q.map fun v=> [v],[],n+1,-1,4) else((q++ [v]).map fun v=> [v],[],n,-1,0):=by
 have f:=dJ D n (q.map fun v=> [v]) a b (by simpa using e) (dL q) c (by omega);unfold sendQ;rw[f];simp[d]
def dW(D v n:Int)(a:1≤D)(b:D≤16)(c:0≤n)(e:n<1073741824):
  sendQ 2 1 D 0 [] [⟨0,0,0⟩] n [v]=([],[],n,0,0):=by
 have d:=dY D n a b c (by omega);unfold sendQ;rw[d];rfl
def eM(d:Ad)(now:Int)(data:List Int)(s:Ae):wakeP d now data [-1] s=s:=rfl
def eC(h:eP D now got want lost s)(e:1≤D)(f:D≤16)(b:0≤v∧v≤255)(y:lost<1000)(z:now≤1000000):
  ((Dc (eN D) now 0 [v] s).2=0∧eP D now got (want++ [v]) lost (Dc (eN D) now 0 [v] s).1)∨
  ((Dc (eN D) now 0 [v] s).2=4∧portN (Dc (eN D) now 0 [v] s).1 0=D∧eP D now got want (lost+1) (Dc (eN D) now 0 [v] s).1):=by
 obtain⟨q,c,k,t⟩:=h;have l:∀ u∈q++ [v],0≤u∧u≤255:=fun u d=>by
  simp only[List.mem_append,aP] at d;rcases d with d|rfl
  ·exact k u d
  ·exact b
 have g:(0:Int)≤(lost:Int):=by omega
 have i:(lost:Int)<1073741824:=by omega
 rcases t with ⟨rfl,rfl,rfl⟩|⟨j,E,C,n,o,r2,r3,p,r,m,w,rfl,x⟩
 ·rw[dE D 1 0 lost v _ _ _ _ (by decide),dH D v lost q e f c g i];by_cases a:(q.length:Int)=D
  ·rw[if_pos a];refine .inr ⟨rfl,?_,q,c,k,.inl ⟨rfl,rfl,rfl⟩⟩;show((q.map fun v=> [v]).length:Int)=D;simpa using a
  ·rw[if_neg a];exact .inl ⟨rfl,q++ [v],by simp;omega,l,.inl ⟨rfl,rfl,by simp⟩⟩
 ·rcases x with ⟨rfl,rfl,rfl,rfl⟩|⟨rfl,rfl,rfl,A,B,rfl⟩|⟨rfl,rfl,rfl,rfl⟩|⟨rfl,rfl,rfl,rfl,rfl,rfl,rfl⟩
  case inr.inr.inr=>
   rw[dE D 3 now lost v _ _ _ _ (by omega),show([]:List Int).map (fun v=> [v])=[] from rfl,dW D v lost e f g i];exact .inl ⟨rfl,[],by simp;omega,fun v b=>(by cases b),.inr ⟨j,2,1,v,1,r2,r3,now,0,0,[],rfl,.inr (.inl ⟨rfl,rfl,rfl,b.1,b.2,rfl⟩)⟩⟩
  all_goals
   rw[dE D 3 now lost v _ _ _ _ (by omega),dH D v lost q e f c g i];by_cases a:(q.length:Int)=D
   ·rw[if_pos a];refine .inr ⟨rfl,?_,q,c,k,.inr ⟨j,2,_,n,o,r2,r3,p,r,m,[],rfl,by simp[*]⟩⟩;show((q.map fun v=> [v]).length:Int)=D;simpa using a
   ·rw[if_neg a];exact .inl ⟨rfl,q++ [v],by simp;omega,l,.inr ⟨j,2,_,n,o,r2,r3,p,r,m,[],rfl,by simp[*]⟩⟩
def eG(h:eP D now got want lost s)(n:1≤D)(p:D≤16)(H:lost<1000)(K:now≤1000000):
  (A3 (eN D) now s).2.e=0∧∃ o:List Int,(ET (eN D) 1 (A3 (eN D) now s).1).2=(o.map (fun v=> [v]),0)∧o.length≤1∧(∀ v∈o,0≤v∧v≤255)∧eP D (now+1) (got++o) want lost (ET (eN D) 1 (A3 (eN D) now s).1).1:=by
 obtain⟨q,k,l,C⟩:=h;have x:(0:Int)≤(lost:Int):=by omega
 have y:(lost:Int)≤1073741824:=by omega
 have nil:∀ v∈([]:List Int),0≤v∧v≤255:=fun v i=>by cases i
 rcases C with ⟨rfl,rfl,rfl⟩|⟨L,N,M,a,c,r2,r3,b,g,f,w,rfl,F⟩
 ·rw[dM D lost _ []];exact⟨rfl,[],rfl,by simp,nil,q,k,l,.inr ⟨by omega,2,0,0,0,0,0,0,0,0,[],rfl,.inl ⟨rfl,rfl,rfl,by simp⟩⟩⟩
 ·rcases F with ⟨rfl,rfl,rfl,rfl⟩|⟨rfl,rfl,rfl,z,A,rfl⟩|⟨rfl,rfl,rfl,rfl⟩|⟨rfl,rfl,rfl,rfl,rfl,rfl,rfl⟩
  ·cases q with
   |nil=>
    have i:=dJ D lost [] n p (by simp;omega) (fun m r=>by cases r) x y;have d:=dQ D now (now+1) lost a c r2 r3 b g f [] i;have j:=dI D now 0 lost b g f [a,c,r2,r3] [] [] [] (by omega) (by rw[d];exact(by decide:¬(3:Int)=15));rw[show ([]:List Int).map (fun v=> [v])=[] from rfl,j,d];exact⟨rfl,[],rfl,by simp,nil,[],by simp;omega,nil,.inr ⟨by omega,3,1,a,c,r2,r3,b,3,0,[⟨0,0,0⟩],rfl,.inr (.inr (.inr ⟨rfl,rfl,rfl,rfl,rfl,rfl,by simp⟩))⟩⟩
   |cons v t=>
    have i:=dJ D lost ((v::t).map fun v=> [v]) n p (by simpa using k) (dL _) x y;have B:=l v (List.mem_cons_self ..);have d:=dN D now (now+1) lost a c r2 r3 b g f v (t.map fun v=> [v]) [] i;have j:=dI D now 0 lost b g f [a,c,r2,r3] ([v]::t.map fun v=> [v]) [] [] (by omega) (by rw[d];exact(by decide:¬(3:Int)=15));rw[show (v::t).map (fun v=> [v])=[v]::t.map fun v=> [v] from rfl,j,d]
    exact⟨rfl,[],rfl,by simp,nil,t,by simp at k;omega,fun u E=>l u (List.mem_cons_of_mem _ E),.inr ⟨by omega,2,1,v,1,r2,r3,b,g,f,[],rfl,.inr (.inl ⟨rfl,rfl,rfl,B.1,B.2,by simp⟩)⟩⟩
  ·have i:=dJ D 0 [] n p (by simp;omega) (fun m r=>by cases r) (by decide) (by decide);have d:=dO D now (now+1) lost a c r2 r3 b g f (q.map fun v=> [v]) [] i n z A;have j:=dI D now 1 lost b g f [a,c,r2,r3] (q.map fun v=> [v]) [] [] (by omega) (by rw[d];exact(by decide:¬(2:Int)=15));rw[j,d];exact⟨rfl,[a],rfl,by simp,fun v i=>by simp only[aP] at i;rw[i];exact⟨z,A⟩,q,k,l,.inr ⟨by omega,2,2,a,c,r2,r3,b,g,f,[],rfl,.inr (.inr (.inl ⟨rfl,rfl,rfl,by simp⟩))⟩⟩
  ·have d:=dP D now (now+1) lost a c r2 r3 b g f (q.map fun v=> [v]) [] [];have j:=dI D now 2 lost b g f [a,c,r2,r3] (q.map fun v=> [v]) [] [] (by omega) (by rw[d];exact(by decide:¬(0:Int)=15));rw[j,d];exact⟨rfl,[],rfl,by simp,nil,q,k,l,.inr ⟨by omega,2,0,a,c,r2,r3,b,g,f,[],rfl,.inl ⟨rfl,rfl,rfl,by simp⟩⟩⟩
  ·rw[show ([]:List Int).map (fun v=> [v])=[] from rfl,dX D now 1 lost b 0 [a,c,r2,r3] [] [⟨0,0,0⟩] [] (by omega)];exact⟨rfl,[],rfl,by simp,nil,[],by simp;omega,nil,.inr ⟨by omega,3,1,a,c,r2,r3,b,3,0,[⟨0,0,0⟩],rfl,.inr (.inr (.inr ⟨rfl,rfl,rfl,rfl,rfl,rfl,by simp⟩))⟩⟩
def eE(h:eP D now got want lost s):∃ r,want=got++r∧(r.length:Int)≤D+1:=by
 obtain⟨q,b,_,a⟩:=h;rcases a with ⟨_,_,rfl⟩|⟨_,j,f,d,g,r2,r3,i,k,e,w,_,c⟩
 ·exact⟨q,rfl,by omega⟩
 ·rcases c with ⟨_,_,_,rfl⟩|⟨_,_,_,_,_,rfl⟩|⟨_,_,_,rfl⟩|⟨_,_,_,_,_,rfl,rfl⟩
  ·exact⟨q,rfl,by omega⟩
  ·exact⟨d::q,rfl,by simp;omega⟩
  ·exact⟨q,rfl,by omega⟩
  ·exact⟨[],by simp,by simp at b ⊢;omega⟩
def eF(h:eP D now got want lost s):(s.queues.getD 0 default).lost=(lost:Int):=by
 obtain⟨q,b,_,a⟩:=h;rcases a with ⟨_,rfl,_⟩|⟨_,i,d,e,f,r2,r3,g,j,c,w,rfl,_⟩
 ·rfl
 ·rfl
def eD(h:eP D now got want lost s)(r:now≤1000000):(Br (eN D) 2 0 s).2=0∧(A3 (eN D) now (Br (eN D) 2 0 s).1).2.e=0∧(A3 (eN D) now (Br (eN D) 2 0 s).1).2.ran=-1∧((A3 (eN D) now (Br (eN D) 2 0 s).1).1.procs.getD 0 default).status=(if 0<now then 1 else 2):=by
 obtain⟨q,t,_,f⟩:=h;rcases f with ⟨rfl,rfl,_⟩|⟨g,o,k,l,m,r2,r3,n,p,j,w,rfl,_⟩
 ·have e:Br (eN D) 2 0 (eO 1 0 EU (q.map fun v=> [v]) [] lost [])=(eO 1 0 EU (q.map fun v=> [v]) [] lost [],0):=rfl;rw[e];show(0:Int)=0∧(A3 (eN D) 0 (eO 1 0 EU (q.map fun v=> [v]) [] lost [])).2.e=0∧(A3 (eN D) 0 (eO 1 0 EU (q.map fun v=> [v]) [] lost [])).2.ran=-1∧((A3 (eN D) 0 (eO 1 0 EU (q.map fun v=> [v]) [] lost [])).1.procs.getD 0 default).status=_;rw[dM D lost _ []];exact⟨rfl,rfl,rfl,rfl⟩
 ·obtain⟨w',i⟩:=ex (leaveW w 0);have e:Br (eN D) 2 0 (eO 3 now (dD o k [l,m,r2,r3] n p j) (q.map fun v=> [v]) w lost [])=(eO 3 now EU (q.map fun v=> [v]) w' lost [],0):=by rw[i];rfl
  rw[e];show(0:Int)=0∧(A3 (eN D) now (eO 3 now EU (q.map fun v=> [v]) w' lost [])).2.e=0∧(A3 (eN D) now (eO 3 now EU (q.map fun v=> [v]) w' lost [])).2.ran=-1∧((A3 (eN D) now (eO 3 now EU (q.map fun v=> [v]) w' lost [])).1.procs.getD 0 default).status=_;have a:∀ c,Dl (eN D) now (eO 3 c EU (q.map fun v=> [v]) w' lost [])=eO 3 c EU (q.map fun v=> [v]) w' lost []:=fun c=>rfl
  have b:Hw (eN D) (eO 3 now EU (q.map fun v=> [v]) w' lost [])=-1:=rfl;rcases aT (d:=eN D) (s:=eO 3 now EU (q.map fun v=> [v]) w' lost []) (now:=now) rfl (bi now) (by omega) with ⟨_,h⟩|⟨h,_⟩
  ·rw[h,a,b,if_pos g];exact⟨rfl,rfl,rfl,rfl⟩
  ·rw[a,b] at h;omega
end
def C5.eT{W:aU}{B q e c:Nat}{v:aX}{l:List Int}{x:Int}(h:C5 W B v l)(g:B≤W.heap.size)(s:l.length≤1000)(i:W.cell? ⟨q,e,O⟩=Z (I U x))(f:bf):
  ∃ a d w',(bj #[34,34] f #[v,Y (Z ⟨q,e,O⟩) 1 c]).run prog W=.ok (Y a (l.length+1) d) w'∧C5 w' B (Y a (l.length+1) d) (l++ [x])∧W.grownBy w' v.ownBlock∧((aH a (l.length+1) d).ownBlock=v.ownBlock∨(aH a (l.length+1) d).ownBlock=Z W.heap.size):=by
 obtain⟨p,k,m,n,o⟩:=info_parts Vd;obtain⟨t,w',r,r2,r3,_,r5⟩:=run_append_own_at (P:=prog) W B 34 f 5 p (I U 0) 1 1 underlying34 k m n o rfl (by decide) v l.length _ h ⟨q,e,O⟩ 1 c [I U x] rfl (fun j u b=>by
  cases j with
  |zero=>
   obtain rfl:Value.int U x=u:=by simpa using b
   exact i
  |succ j=>simp at b) (by intro u b;simp only[aP] at b;subst b;rfl) (by unfold maxLen;omega) (by omega) g
 obtain⟨a,c,rfl⟩:=Bq r2;refine⟨a,c,w',r,?_,r3,r5⟩;show w'.ownsRow _ _ _ _ _ _;rw[aK,bt];exact r2
def eR(B N:Nat)(e:aU)(g:Nat)(d:Ad)(s:Ae)(vw:aX)(f:List Int)(a:aX)(c:List Int)(w:aU):Prop:=∃ F,Lv B w F g d s∧(B≤N∧∀ b,F b→N≤b)∧Below N e w∧N≤w.heap.size∧C5 w N vw f∧C5 w N a c∧(∀ b,vw.ownBlock=Z b→¬F b∧a.ownBlock≠Z b)∧∀ b,a.ownBlock=Z b→¬F b
section
variable {B N g:Nat} {w0 w w':aU} {d:Ad} {s s':Ae} {vw vg:aX} {want got:List Int}
def C5.eS{v:aX}{l:List Int}(h:C5 w N v l)(f:∀ b,v.ownBlock=Z b→w'.heap[b]? =w.heap[b]?):C5 w' N v l:=by
 refine⟨h.1,?_⟩;rcases h.2 with c|⟨q,cap,cur,a,e,i,j⟩
 ·exact .inl c
 ·exact .inr ⟨q,cap,cur,a,e,(f q (by rw[a];rfl)).trans i,j⟩
def eR.new(h:Wd B N w0 w g d s)(j:B≤N):eR B N w0 g d s (Y O 0 0) [] (Y O 0 0) [] w:=by
 obtain⟨F,c,e,f,i⟩:=h;exact⟨F,c,⟨j,e⟩,f,i,⟨rfl,.inl ⟨rfl,rfl⟩⟩,⟨rfl,.inl ⟨rfl,rfl⟩⟩,fun b a=>(by cases a),fun b a=>(by cases a)⟩
def eR.wd(h:eR B N w0 g d s vw want vg got w):Wd B N w0 w g d s:=by
 obtain⟨F,a,b,c,e,_⟩:=h;exact⟨F,a,b.2,c,e⟩
def eR.below(h:eR B N w0 g d s vw want vg got w)(a:Bl w w'):eR B N w0 g d s vw want vg got w':=by
 obtain⟨F,j,k,l,c,f,i,m,n⟩:=h;exact⟨F,j.below a,k,l.trans (a.mono c),aL c a.size,f.eS fun b e=>a.block b (F8 f e).2,i.eS fun b e=>a.block b (F8 i e).2,m,n⟩
def eR.op{F:Nat→Prop}(c:Dr B w F g d s' w')(f:B≤N∧∀ b,F b→N≤b)(m:Below N w0 w)(k:N≤w.heap.size)(h:C5 w N vw want)(i:C5 w N vg got)(j:∀ b,vw.ownBlock=Z b→¬F b∧vg.ownBlock≠Z b)(l:∀ b,vg.ownBlock=Z b→¬F b):eR B N w0 g d s' vw want vg got w':=
 ⟨_,c.1,⟨f.1,fun b a=>by
  rcases a with a|a
  ·exact f.2 b a
  ·omega⟩,m.trans (c.2.low f.2 k),aL k c.2.size,h.eS fun b e=>c.2.block b (F8 h e).2 (j b e).1,i.eS fun b e=>c.2.block b (F8 i e).2 (l b e),fun b e=>⟨fun a=>by
  rcases a with a|a
  ·exact(j b e).1 a
  ·have:=(F8 h e).2;omega,(j b e).2⟩,fun b e a=>by
  rcases a with a|a
  ·exact l b e a
  ·have:=(F8 i e).2;omega⟩
def eR.grow{n:aX}{l:List Int}(h:eR B N w0 g d s vw want vg got w)(c:w.grownBy w' vw.ownBlock)(y:C5 w' N n l)(x:∀ b,n.ownBlock=Z b→vw.ownBlock=Z b∨w.heap.size≤b):eR B N w0 g d s n l vg got w':=by
 obtain⟨F,i,o,r,t,p,k,m,u⟩:=h;have j:∀ b,b<w.heap.size→vw.ownBlock≠Z b→w'.heap[b]? =w.heap[b]?:=fun b a e=>c.block b a (fun h=>e h.symm);have v:∀ b,F b→vw.ownBlock≠Z b:=fun b a e=>(m b e).1 a;refine⟨F,i.Ag c.size fun b a=>?_,o,r.trans ⟨c.os,c.tape,c.output,c.size,fun b a=>j b (by omega) fun e=>by have:=(F8 p e).1;omega⟩,aL t c.size,y,k.eS fun b e=>j b (F8 k e).2 fun f=>(m b f).2 e,fun b e=>?_,u⟩
 ·rcases a with a|a
  ·refine j b (i.lt b (.inl a)) fun e=>?_
   have:=(F8 p e).1;have:=o.1;omega
  ·exact j b (i.lt b (.inr a)) (v b a)
 ·rcases x b e with f|f
  ·exact m b f
  ·exact⟨fun a=>by have:=i.px.1 b a;omega,fun q=>by have:=(F8 k q).2;omega⟩
def eR.swap(h:eR B N w0 g d s vw want vg got w):eR B N w0 g d s vg got vw want w:=by
 obtain⟨F,f,i,j,k,l,m,a,n⟩:=h;exact⟨F,f,i,j,k,m,l,fun b e=>⟨n b e,fun c=>(a b c).2 e⟩,fun b e=>(a b e).1⟩
def eX(h:eR B N w0 g d s vw want vg got w)(now c x:Int)(C:0≤x∧x≤255):
  bE prog 19 #[G (Z ⟨g,0,O⟩),I J now,I J c,Y (Z ⟨w.heap.size,0,O⟩) 1 1] (w.alloc (T #[I U x] 5)) fun e w'=>e=.returned (I J (Dc d now c [x] s).2)∧eR B N w0 g d (Dc d now c [x] s).1 vw want vg got w':=by
 have a:Bl w (w.alloc (T #[I U x] 5)):=(av _ w).alloc (ak _) _;have y:Af U (w.alloc (T #[I U x] 5)) w.heap.size (Y (Z ⟨w.heap.size,0,O⟩) 1 1) [x]:=⟨_,_,rfl,ak _,fun e=>(by cases e),rfl,fun _=>⟨w.heap.size,0,rfl,ak _,by simp,fun j u A=>by
  rw[Nat.zero_add,Cr (ar w _)];simpa using A⟩⟩
 obtain⟨F,f,o,p,i,l,m,q,r⟩:=h;refine(S6 (f.below a) now c _ [x] (Af.CZ y fun b D _ v=>by have:=f.px.1 b v;omega) (by simp) (fun z n=>by simp only[aP] at n;subst n;exact C)).mono ?_;rintro e w' ⟨t,k⟩;exact⟨t,eR.op k o (p.trans (a.mono i)) (aL i a.size) (l.eS fun b e=>a.block b (F8 l e).2) (m.eS fun b e=>a.block b (F8 m e).2) q r⟩
def eZ(h:eR B N w0 g d s vw want vg got w)(now:Int):bE prog 17 #[G (Z ⟨g,0,O⟩),I J now] w fun e w'=>
  ∃ k a b c z i f A j,e=.returned (.tuple #[.agg #[I J (A3 d now s).2.ran,I U k,I J a,I J b,Y c z i,Y f A j],I J (A3 d now s).2.e])∧eR B N w0 g d (A3 d now s).1 vw want vg got w':=by
 obtain⟨F,l,m,n,o,p,q,r,t⟩:=h;refine(QF l now).mono ?_;rintro e w' ⟨C,D,u,v,x,y⟩;obtain⟨c,i,rfl,_⟩:=v;obtain⟨f,j,rfl,_⟩:=x;exact⟨_,_,_,_,_,_,_,_,_,u,eR.op y m n o p q r t⟩
def eU(h:eR B N w0 g d s vw want vg got w)(a:Int):bE prog 21 #[G (Z ⟨g,0,O⟩),I J a] w fun e w'=>∃ v,e=.returned (.tuple #[v,I J (ET d a s).2.2])∧A6 w' 0 v (ET d a s).2.1∧eR B N w0 g d (ET d a s).1 vw want vg got w':=by
 obtain⟨F,b,c,f,i,j,k,l,m⟩:=h;refine(So b a).mono ?_;rintro e w' ⟨v,n,o,p⟩;exact⟨v,n,o.rd,eR.op p c f i j k l m⟩
def eR.push(h:eR B N w0 g d s vw want vg got w)(o:want.length≤1000){q i c:Nat}{x:Int}(n:w.cell? ⟨q,i,O⟩=Z (I U x))(j:bf):
  ∃ a f w',(bj #[34,34] j #[vw,Y (Z ⟨q,i,O⟩) 1 c]).run prog w=.ok (Y a (want.length+1) f) w'∧eR B N w0 g d s (Y a (want.length+1) f) (want++ [x]) vg got w'∧w.heap.size≤w'.heap.size:=by
 have k:=h;obtain⟨F,r,t,u,l,m,v,y,z⟩:=k;obtain⟨a,f,w',p,r2,r3,r4⟩:=m.eT l o n j;refine⟨a,f,w',p,h.grow r3 r2 fun b e=>?_,r3.size⟩;rcases r4 with r4|r4
 ·exact .inl (r4.symm.trans e)
 ·refine .inr ?_;rw[r4] at e;injection e with e;omega
def fA(h:eR B N w0 g d s vw want vg got w)(k p:Int):bE prog 16 #[G (Z ⟨g,0,O⟩),I U k,I J p] w fun e w'=>e=.returned (I J (Br d k p s).2)∧eR B N w0 g d (Br d k p s).1 vw want vg got w':=by
 obtain⟨F,a,b,c,f,i,j,l,m⟩:=h;refine(SH a k p).mono ?_;rintro e w' ⟨n,o⟩;exact⟨n,eR.op o b c f i j l m⟩
def eR.fD(h:eR B N w0 g d s vw want vg got w):Af U w 0 vw want∧Af U w 0 vg got:=by
 obtain⟨F,c,e,f,i,a,b,j,k⟩:=h;exact⟨Sl.mono (C5.rd a) (aW _),Sl.mono (C5.rd b) (aW _)⟩
def Af.pre{k:IntKind}{a:Option Addr}{c:Nat}{l m:List Int}(h:Af k w 0 (Y a (l++m).length c) (l++m)):l.length≤c∧Af k w 0 (Y a l.length c) l:=by
 obtain⟨y,cap,n,o,p,A,f⟩:=h;simp only[ai,true_and] at n;obtain⟨rfl,rfl⟩:=n;rw[aK] at o f;refine⟨by omega,a,c,rfl,by omega,p,by simp,fun z=>?_⟩;obtain⟨b,x,e,q,r,t⟩:=f (by omega);refine⟨b,x,e,q,r,fun j u i=>t j u ?_⟩;have v:=(bc.1 i).1;rw[bt,List.getElem?_append_left v];exact i
def fE(a:Option Addr)(n c k:Nat)(f:k≤c)(w:aU):(bu 34 (Y a n c) O (Z (I J k)) O).run prog w=.ok (Y a k c) w:=by
 have e:(if c=0 then a else a.map (·.add (0*1)))=a:=by
  split
  ·rfl
  ·cases a<;>rfl
 have b:(k:Int)≤(c:Int):=by omega
 simp[bu,Instr.slice,Instr.sliceBounds,Instr.sliceBound,asIntOf,go_sem,b];exact fun h=>absurd h (by omega)
def fC{k c:Nat}{a:Option Addr}{l:List BA}(h:Rl w k (Y a l.length c) l)(i:0<l.length):0<c∧∃ b f,a=Z ⟨b,f,O⟩∧w.cell? ⟨b,f,O⟩=Z (I U (l.getD 0 default).status):=by
 obtain⟨o,cap,j,p,q,r,m⟩:=h;simp only[ai,true_and] at j;obtain⟨rfl,rfl⟩:=j;obtain⟨b,f,e,_,_,n⟩:=m i;refine⟨by omega,b,f,e,?_⟩;cases l with
 |nil=>cases i
 |cons x l=>exact n 0 _ rfl
end
def fH(W:aU)(n:Nat)(a:Array aX)(t:bf)(v:aX)(w:aU):Prop:=∃ q,W.heap.size≤q∧v=Y (Z ⟨q,0,O⟩) n n∧w.heap[q]? =Z (T a t (0,0))
def fI{W:aU}{n:Nat}{a:Array aX}{t:bf}(v:aX)(w w':aU):fH W n a t v w→Bl w w'→fH W n a t v w':=fun⟨q,c,d,b⟩ e=>⟨q,c,d,(e.block _ (Aa b)).trans b⟩
def eL(W:aU)(D:Int)(e d f:Nat)(o:W.heap[e]? =Z (T #[.string ⟨#[]⟩,I U 2,.bool false,I J 1,I J D,I J 0,.string ⟨#[]⟩,I U 2,.bool true,I J 1,I J D,I J 0] 62 (0,0)))(p:W.heap[d]? =Z (T #[I U 8,I J 0,I J 0,I J 1,I U 7,I J 1,I J 0,I J 1,I U 20,I J 0,I J 0,I J 0] 64 (0,0)))(q:W.heap[f]? =Z (T #[.string ⟨#[]⟩,I J 0,I J 0,I J 0,Y (Z ⟨d,0,O⟩) 3 3] 68 (0,0))):
  C6 W (Y O 0 0) (eN D).semas∧C6 W (Y O 0 0) (eN D).bufs∧Ex W (Y (Z ⟨e,0,O⟩) 2 2) (eN D).Ab∧Gd W (Y (Z ⟨f,0,O⟩) 1 1) (eN D).procs∧∀ c∈(eN D).procs,∀ i∈c.code,0≤i.op∧i.op≤255:=by
 have nil:∀ sz u,AW W (Y O 0 0) 0 sz u:=fun sz u=>⟨O,0,rfl,ak _,fun _=>rfl,fun h=>absurd h (Nat.lt_irrefl 0)⟩;refine⟨nil _ _,nil _ _,⟨fun _=>⟨#[]⟩,AW.blk o fun k j a m=>?_⟩,⟨fun _=>⟨#[]⟩,fun _=>Y (Z ⟨d,0,O⟩) 3 3,AW.blk q fun k j a m=>?_,fun k a=>?_⟩,?_⟩
 ·have a:k<2:=a;rcases(show k=0∨k=1 by omega) with rfl|rfl<;>rcases(show j=0∨j=1∨j=2∨j=3∨j=4∨j=5 by omega) with rfl|rfl|rfl|rfl|rfl|rfl<;>rfl
 ·have a:k<1:=a;obtain rfl:k=0:=by omega
  rcases(show j=0∨j=1∨j=2∨j=3∨j=4 by omega) with rfl|rfl|rfl|rfl|rfl<;>rfl
 ·have a:k<1:=a;obtain rfl:k=0:=by omega
  refine AW.blk p fun b j n m=>?_
  have n:b<3:=n;rcases(show b=0∨b=1∨b=2 by omega) with rfl|rfl|rfl<;>rcases(show j=0∨j=1∨j=2∨j=3 by omega) with rfl|rfl|rfl|rfl<;>rfl
 ·intro c g i l;simp only[eN,bw,br,or_false] at g;subst g;simp only[dK,bw,br,or_false] at l;rcases l with rfl|rfl|rfl<;>decide
def dZ(D:Int)(a:1≤D)(b:D≤16):E6 (eN D)=true:=by
 rcases(show D=1∨D=2∨D=3∨D=4∨D=5∨D=6∨D=7∨D=8∨D=9∨D=10∨D=11∨D=12∨D=13∨D=14∨D=15∨D=16 by omega) with rfl|rfl|rfl|rfl|rfl|rfl|rfl|rfl|rfl|rfl|rfl|rfl|rfl|rfl|rfl|rfl<;>kernel_rfl
def eK(B:Nat)(w:aU)(bm:Gl B w)(GS:Ce w)(aZ:Int)(fg:0≤aZ)(gu:aZ≤255)(vg vd:aX)(ae data:List Int)(hG:Af J w 0 vg ae)(hD:Af U w 0 vd data)(dd:Bf data):
  bE prog 7 #[I U aZ,vg,vd] w fun e w'=>e=.returned (.bool true)∧Bl w w':=by
 obtain⟨HG,cP⟩:=H2 bm GS;have fd:16≤w.heap.size:=aL bm.hb bm.hw;obtain⟨ga,gc,rfl,gy,fl,pg⟩:=hG.open_;obtain⟨da,dc,rfl,gv,fi,pd⟩:=hD.open_;obtain⟨e3,e2,eB⟩:=H3 pg pd dd;obtain⟨b,fj⟩:=ex (aZ%16);have bB:1≤1+b:=by omega
 have ce:1+b≤16:=by omega
 have ef:Int.tmod aZ 16=b:=by rw[bd fg];omega
 clear fj;clear bm GS hG hD pg pd dd fl fi;go_enter func7,ntmps7;go_wp2_with fail;refine(RC B w HG.o cP.o).mono ?_;rintro e w1 ⟨rfl,a⟩;have B1:=HH a;clear a;by_cases gx:(ae.length:Int)≤60
 ·cases hd:((data.length:Int)==0) with
  |true=>
   go_wp2_with fail;go_ret;exact⟨rfl,B1.o⟩
  |false=>
   have dr:¬(data.length:Int)=0:=by simpa using hd
   go_upto_region 9 with (fail);obtain⟨u,ch⟩:=ex ((w1.alloc (T #[.string ⟨#[]⟩,I U 2,.bool false,I J 1,I J (1+b),I J 0] 62)).alloc (T #[.string ⟨#[]⟩,I U 2,.bool true,I J 1,I J (1+b),I J 0] 62));have ci:Bl w1 u:=by rw[ch];exact DX w1 _ _
   obtain⟨k8,k9⟩:=Da w1 (T #[.string ⟨#[]⟩,I U 2,.bool false,I J 1,I J (1+b),I J 0] 62) (T #[.string ⟨#[]⟩,I U 2,.bool true,I J 1,I J (1+b),I J 0] 62);rw[←ch] at k8 k9 ⊢;have ax:=HH (B1.o.trans (ci.mono B1.o.size));have fq:=Aa k8;have fr:=Aa k9;obtain⟨c0,c1,c2,c3,c4,c5⟩:=q6 k8;obtain⟨y0,y1,y2,y3,y4,y5⟩:=q6 k9;clear ch ci k8 k9;refine BQ 19 [(2,(fH u 2 #[.string ⟨#[]⟩,I U 2,.bool false,I J 1,I J (1+b),I J 0,.string ⟨#[]⟩,I U 2,.bool true,I J 1,I J (1+b),I J 0] 62)),(3,(fH u 3 #[I J 0,I J 0,I J 1] 3)),(4,(fun v _=>v=.agg #[I U 8,I J 0,I J 0,I J 1])),(5,(fH u 3 #[I J 1,I J 0,I J 1] 3)),(6,(fun v _=>v=.agg #[I U 7,I J 1,I J 0,I J 1])),(7,(fH u 1 #[I J 0] 3)),(8,(fun v _=>v=.agg #[I U 20,I J 0,I J 0,I J 0])),(9,(fH u 3 #[I U 8,I J 0,I J 0,I J 1,I U 7,I J 1,I J 0,I J 1,I U 20,I J 0,I J 0,I J 0] 64)),(11,(fun v w=>∃ q c,v=Y (Z ⟨q,0,O⟩) 1 1∧w.heap[q]? =Z (T #[.string ⟨#[]⟩,I J 0,I J 0,I J 0,Y (Z ⟨c,0,O⟩) 3 3] 68 (0,0))∧w.heap[c]? =Z (T #[I U 8,I J 0,I J 0,I J 1,I U 7,I J 1,I J 0,I J 1,I U 20,I J 0,I J 0,I J 0] 64 (0,0)))),(13,(fun v w=>∃ g,v=.tuple #[G (Z ⟨g,0,O⟩),I J 0]∧Wd B u.heap.size u w g (eN (1+b)) (DB (eN (1+b)))))] ⟨fI,fI,Ch,fI,Ch,fI,Ch,fI,(fun _ _ _ ⟨q,c,h1,h2,h3⟩ a=>⟨q,c,h1,(a.block _ (Aa h2)).trans h2,(a.block _ (Aa h3)).trans h3⟩),(fun _ _ _ ⟨g,h1,h2⟩ a=>⟨g,h1,h2.below a⟩),trivial⟩ ?_
   iterate 2 (refine AK rfl ?_;intro K hK;go_big_quiet_op;go_big_quiet_on)
   refine Ca rfl (fun w' a E=>?_) ?_
   ·exact Bn (v:=Y (Z ⟨w'.heap.size,0,O⟩) 2 2) (w':=w'.alloc (T #[.string ⟨#[]⟩,I U 2,.bool false,I J 1,I J (1+b),I J 0,.string ⟨#[]⟩,I U 2,.bool true,I J 1,I J (1+b),I J 0] 62)) (by simp[bl,go_sem]) ⟨(av _ _).alloc (ak _) _,⟨w'.heap.size,a.size,rfl,ar _ _⟩⟩
   intro v w' a d;obtain⟨qp,fz,rfl,fV⟩:=d;clear a fz fV w';simp only[Au,ab,ag,ad];refine Ca rfl (fun w' a E=>?_) ?_
   ·exact Bn (v:=Y (Z ⟨w'.heap.size,0,O⟩) 3 3) (w':=w'.alloc (T #[I J 0,I J 0,I J 1] 3)) (by simp[bl,go_sem]) ⟨(av _ _).alloc (ak _) _,⟨w'.heap.size,a.size,rfl,ar _ _⟩⟩
   intro v w' a d;obtain⟨qa,fv,rfl,fR⟩:=d;clear a fv fR w';simp only[Au,ab,ag,ad];refine Ca rfl (fun w' a E=>?_) ?_
   ·obtain⟨V,_,l,a3⟩:=E 3 _ rfl (.base (by kernel_rfl));have l:(aH (Z ⟨qa,0,O⟩) 3 3)=Y (Z ⟨V,0,O⟩) 3 3:=l;simp only[ai,aq,aG,and_true,true_and] at l;subst l;refine AD (f:=18) (al:=[I U 8,Y (Z ⟨qa,0,O⟩) 3 3]) rfl rfl rfl Ow ?_;exact(Jb 8 _ [0,0,1] w' (by decide) (He.three a3)).mono fun e w2 h=>⟨_,h.1,h.2,rfl⟩
   intro v w' a d;subst d;clear a w';simp only[Au,ab,ag,ad];refine Ca rfl (fun w' a E=>?_) ?_
   ·exact Bn (v:=Y (Z ⟨w'.heap.size,0,O⟩) 3 3) (w':=w'.alloc (T #[I J 1,I J 0,I J 1] 3)) (by simp[bl,go_sem]) ⟨(av _ _).alloc (ak _) _,⟨w'.heap.size,a.size,rfl,ar _ _⟩⟩
   intro v w' a d;obtain⟨qb,fw,rfl,fS⟩:=d;clear a fw fS w';simp only[Au,ab,ag,ad];refine Ca rfl (fun w' a E=>?_) ?_
   ·obtain⟨V,_,l,a3⟩:=E 5 _ rfl (.base (by kernel_rfl));have l:(aH (Z ⟨qb,0,O⟩) 3 3)=Y (Z ⟨V,0,O⟩) 3 3:=l;simp only[ai,aq,aG,and_true,true_and] at l;subst l;refine AD (f:=18) (al:=[I U 7,Y (Z ⟨qb,0,O⟩) 3 3]) rfl rfl rfl Ow ?_;exact(Jb 7 _ [1,0,1] w' (by decide) (He.three a3)).mono fun e w2 h=>⟨_,h.1,h.2,rfl⟩
   intro v w' a d;subst d;clear a w';simp only[Au,ab,ag,ad];refine Ca rfl (fun w' a E=>?_) ?_
   ·exact Bn (v:=Y (Z ⟨w'.heap.size,0,O⟩) 1 1) (w':=w'.alloc (T #[I J 0] 3)) (by simp[bl,go_sem]) ⟨(av _ _).alloc (ak _) _,⟨w'.heap.size,a.size,rfl,ar _ _⟩⟩
   intro v w' a d;obtain⟨qd,cr,rfl,fU⟩:=d;clear a cr fU w';simp only[Au,ab,ag,ad];refine Ca rfl (fun w' a E=>?_) ?_
   ·obtain⟨V,_,l,a3⟩:=E 7 _ rfl (.base (by kernel_rfl));have l:(aH (Z ⟨qd,0,O⟩) 1 1)=Y (Z ⟨V,0,O⟩) 1 1:=l;simp only[ai,aq,aG,and_true,true_and] at l;subst l;refine AD (f:=18) (al:=[I U 20,Y (Z ⟨qd,0,O⟩) 1 1]) rfl rfl rfl Ow ?_;exact(Jb 20 _ [0] w' (by decide) (He.one a3)).mono fun e w2 h=>⟨_,h.1,h.2,rfl⟩
   intro v w' a d;subst d;clear a w';simp only[Au,ab,ag,ad];refine Ca rfl (fun w' a E=>?_) ?_
   ·exact Bn (v:=Y (Z ⟨w'.heap.size,0,O⟩) 3 3) (w':=w'.alloc (T #[I U 8,I J 0,I J 0,I J 1,I U 7,I J 1,I J 0,I J 1,I U 20,I J 0,I J 0,I J 0] 64)) (by simp[bl,go_sem]) ⟨(av _ _).alloc (ak _) _,⟨w'.heap.size,a.size,rfl,ar _ _⟩⟩
   intro v w' a d;obtain⟨qc,fx,rfl,fT⟩:=d;clear a fx fT w';simp only[Au,ab,ag,ad]
   iterate 1 (refine AK rfl ?_;intro K hK;go_big_quiet_op;go_big_quiet_on)
   refine Ca rfl (fun w' a E=>?_) ?_
   ·obtain⟨V,_,l,R⟩:=E 9 _ rfl (.step (k:=10) (by kernel_rfl) (.base (by kernel_rfl)));have l:(aH (Z ⟨qc,0,O⟩) 3 3)=Y (Z ⟨V,0,O⟩) 3 3:=l;simp only[ai,aq,aG,and_true,true_and] at l;subst l;exact Bn (v:=Y (Z ⟨w'.heap.size,0,O⟩) 1 1) (w':=w'.alloc (T #[.string ⟨#[]⟩,I J 0,I J 0,I J 0,Y (Z ⟨qc,0,O⟩) 3 3] 68)) (by simp[bl,go_sem]) ⟨(av _ _).alloc (ak _) _,⟨w'.heap.size,qc,rfl,ar _ _,(Below.heap_alloc _ _ _ (Aa R)).trans R⟩⟩
   intro v w' a d;obtain⟨qq,cc,rfl,fP,fQ⟩:=d;clear a fP fQ w';simp only[Au,ab,ag,ad]
   iterate 1 (refine AK rfl ?_;intro K hK;go_big_quiet_op;go_big_quiet_on)
   refine Ca rfl (fun w' a E=>?_) ?_
   ·obtain⟨V,_,l,X⟩:=E 2 _ rfl (.step (k:=12) (by kernel_rfl) (.base (by kernel_rfl)));have l:(aH (Z ⟨qp,0,O⟩) 2 2)=Y (Z ⟨V,0,O⟩) 2 2:=l;simp only[ai,aq,aG,and_true,true_and] at l;subst l;obtain⟨V,c',l,hq,R⟩:=E 11 _ rfl (.step (k:=12) (by kernel_rfl) (.base (by kernel_rfl)));have l:(aH (Z ⟨qq,0,O⟩) 1 1)=Y (Z ⟨V,0,O⟩) 1 1:=l;simp only[ai,aq,aG,and_true,true_and] at l;subst l;obtain⟨r1,r2,r3,r4,r5⟩:=eL w' (1+b) _ _ _ X R hq;have di:=ax.o.trans (a.mono ax.o.size);refine AD (f:=9) (al:=[.agg #[.string ⟨#[]⟩,I J 0,I J 0,I J 0,Y O 0 0,I J 0,I J 0,Y O 0 0,Y (Z ⟨qp,0,O⟩) 2 2,Y (Z ⟨qq,0,O⟩) 1 1]]) rfl rfl rfl eQ ?_;exact(MG B (eN (1+b)) ⟨#[]⟩ 0 0 O O (Z ⟨qp,0,O⟩) (Z ⟨qq,0,O⟩) 0 0 2 1 w' r1 r2 (fun n hn=>by cases hn) r3 r4 r5 (HG.o.below di) (cP.o.below fd di)).mono fun e w2 h=>by
     obtain⟨g,he,hw⟩:=Wd.new h (dZ (1+b) bB ce) a a.size;exact⟨_,he,h.1,g,rfl,hw⟩
   intro v w' a d;obtain⟨g1,rfl,bK⟩:=d;clear a bK w';simp only[Au,ab,ag,ad]
   iterate 5 (refine AK rfl ?_;intro K hK;go_big_quiet_op;go_big_quiet_on)
   refine BN ?_;intro w9 fe ei;simp only[List.drop_succ_cons,List.drop_zero,List.drop_nil];obtain⟨g',e,bK⟩:=ei 13 _ (by decide) rfl;have e:(Value.tuple #[G (Z ⟨g1,0,O⟩),I J 0])=.tuple #[G (Z ⟨g',0,O⟩),I J 0]:=e;simp only[Value.tuple.injEq,Array.mk.injEq,List.cons.injEq,bF,aq,aG,and_true] at e;subst e;have eV:=HH (eR.new bK (aL HG.o.hw ax.o.size));have bU:Hq (∀ W,Bl u W→Bl w W):=fun W a=>ax.o.trans (a.mono ax.o.size);clear bK ei fe ax fq fr c0 y0 c1 y1 c2 y2 c3 y3 c4 y4 c5 y5;have cO:=HH dr;clear dr hd ef;go_wp2_with fail
   go_loopw [12,13,14,15,16,17,18,19,20,21,22,23,24] (fun gd bk cF cG _ _ _ _ _ _ _ _ _ wr=>∃ i:Nat,i≤ae.length∧cG=I J i∧∃ now:Nat,cF=I J now∧∃ aw cw M N D r ap s,gd=Y aw (az D) cw∧bk=Y M (az r) N∧Hq (eR B u.heap.size u g1 (eN (1+b)) s (Y aw (az D) cw) D (Y M (az r) N) r wr∧eP (1+b) now r D ap s∧D.length+ap=i∧now≤9*i)) (fun _ _ _ cG _ _ _ _ _ _ _ _ _ _=>ae.length-(bx cG).toNat)
   case atStart=>exact⟨0,aW _,rfl,0,rfl,O,0,O,0,[],[],0,_,rfl,rfl,eV.o,eI bB,rfl,by omega⟩
   case round=>
    obtain⟨i,fo,rfl,now,rfl,aw,cw,M,N,D,r,ap,s,rfl,rfl,A⟩:=hrel;obtain⟨hm,aA,a8,dA⟩:=A.o;obtain⟨HM,aN,F⟩:=H3 hm aA (And.intro a8 dA);clear A hm aA a8 dA;by_cases hi:i<ae.length
    ·have gA:(i:Int)<(ae.length:Int):=by omega
     have dz:i%data.length<data.length:=Nat.mod_lt _ (by have:=cO.o;omega);obtain⟨m,cm⟩:=ex (i%data.length);rw[←cm] at dz;have ef:Int.tmod (i:Int) (data.length:Int)=(m:Int):=by rw[cm,bd (by omega)];rfl
     obtain⟨qd,en,rfl,_,cr,bD⟩:=e2.o (by omega);obtain⟨x,hx⟩:=ex (data[m]);have a5:=bU.o wr HM.o.wd.bel;have px:wr.cell? ⟨qd,en+m,O⟩=Z (I U x):=(a5.cell (p:=⟨qd,en+m,O⟩) cr).trans (by rw[hx];exact bD m dz);have bL:0≤x∧x≤255:=by rw[hx];exact eB.o _ (bs _)
     have fh:¬(data.length:Int)=0:=cO.o;have gG:(m:Int)<(data.length:Int):=by omega
     have gF:m<dc:=by omega
     have cN:=HH (eX HM.o now 0 x bL);have bD:=eC (v:=x) aN.o bB ce bL (by have:=F.o;omega) (by have:=F.o;omega);obtain⟨gm,bV⟩:=H2 bL bD;clear cm hx bD a5 bL;go_wp2_with fail;refine cN.o.mono ?_;rintro e u1 ⟨rfl,a7⟩;have L:=HH a7;clear a7 cN HM px fh;rcases bV.o with ⟨h0,R⟩|⟨h4,X,R⟩
     case' inl=>
      rw[h0];obtain⟨W3,bC⟩:=ex (u1.alloc (T #[I U x] 5));have dh:Bl u1 W3:=by rw[bC];exact(av _ u1).alloc (ak _) _
      have dt:W3.heap[u1.heap.size]? =Z (T #[I U x] 5 (0,0)):=by rw[bC];exact ar _ _
      have dk:W3.cell? ⟨u1.heap.size,0,O⟩=Z (I U x):=Cr dt;obtain⟨aR,aY,u2,aD,aB,_⟩:=(L.o.below dh).push (c:=1) (by have:=F.o;omega) dk 34;rw[bC] at aD;obtain⟨cU,aj,bn⟩:=H3 aD aB R;clear bC dh dt dk aD aB R h0;go_upto_region 22 with (fail);go_upto_region 27 with (at_builtin;refine bh _ rfl _ _ _ _ rfl _ _ rfl rfl _ _ cU.o ?_);obtain⟨H,aE⟩:=ex ((Dc (eN (1+b)) now 0 [x] s).1);obtain⟨Q,cy⟩:=ex (D++ [x]);have au:D.length+1=Q.length:=by rw[cy,aK];rfl
      obtain⟨aJ,rfl⟩:=ex ap;have ay:Hq (Q.length+aJ=i+1∧now≤9*i):=by have:=F.o;exact⟨by omega,by omega⟩
      rw[au] at aj ⊢;rw[←aE,←cy] at aj bn;clear aE cy au cU L bV F
     case' inr=>
      rw[h4];have S:(Dc (eN (1+b)) now 0 [x] s).1.queues.length=2:=L.o.wd.good.ok.queues;obtain⟨H,aE⟩:=ex ((Dc (eN (1+b)) now 0 [x] s).1);rw[←aE] at X R S;have ac:Hq (eR B u.heap.size u g1 (eN (1+b)) H (Y aw D.length cw) D (Y M r.length N) r u1):=by rw[aE];exact L.o
      have aM:=HH R;clear aE h4 R L bV;go_wp2_with fail;refine(Zt ac.o.wd).mono ?_;rintro e u2 ⟨b1,b2,b3,b4,b5,b6,b7,b8,k1,k2,k3,k4,k5,k6,k7,k8,m8,rfl,d,a⟩;have aj:=HH (ac.o.below a);obtain⟨ao,cap,ev,a6,_,pp⟩:=(JJ.po d).open_;simp only[ai,ba,List.length_range,true_and] at ev a6;obtain⟨rfl,rfl⟩:=ev;obtain⟨pq,po,rfl,_,_,an⟩:=pp (by simp[S]);have pc:u2.cell? ⟨pq,po,O⟩=Z (I J (1+b)):=by
       have:=an 0 (by simp[S]);simpa[X] using this
      have hf:=cH H.mode H.clock b1 b2 b3 b4 b5 (Z ⟨pq,po,O⟩) b7 b8 H.procs.length k1 H.mem.length k2 H.semas.length k3 H.events.length k4 H.boards.length k5 H.queues.length k6 H.queues.length k7 m8 k8;have bJ:(0:Int)<(H.queues.length:Int):=by omega
      have cs:0<k6:=by omega
      clear X d a an pp a6 ac S;go_upto_region 27 with (fail);have bn:=HH aM.o;obtain⟨aJ,dw⟩:=ex (ap+1);have ay:Hq (D.length+aJ=i+1∧now≤9*i):=by have:=F.o;exact⟨by omega,by omega⟩
      rw[←dw] at bn;obtain⟨Q,rfl⟩:=ex D;obtain⟨aR,rfl⟩:=ex aw;obtain⟨aY,rfl⟩:=ex cw;clear dw pc hf bJ cs aM F
     all_goals
      obtain⟨qg,eo,rfl,_,fy,dl⟩:=e3.o (by omega);obtain⟨y,hy⟩:=ex (ae[i]);have a5:=bU.o u2 aj.o.wd.bel;have py:u2.cell? ⟨qg,eo+i,O⟩=Z (I J y):=(a5.cell (p:=⟨qg,eo+i,O⟩) fy).trans (by rw[hy];exact dl i hi);have gz:i<gc:=by omega
      clear hy a5 dl;go_wp2_with fail;refine(Jj y 10 (by decide) (by decide) u2).mono ?_;rintro e u3 ⟨rfl,rfl⟩;obtain⟨kk,du⟩:∃ kk:Nat,y%10=(kk:Int):=⟨(y%10).toNat,by omega⟩;have cj:kk≤9:=by omega
      rw[du];have bY:=HH cj;clear py du cj;go_wp2_with fail
      go_loopw [13,14,19,20,21,22,23,24] (fun bk cF cI _ _ _ _ _ wr=>∃ j:Nat,j≤kk∧cI=I J j∧∃ P:Nat,cF=I J P∧∃ M N r s,bk=Y M (az r) N∧Hq (eR B u.heap.size u g1 (eN (1+b)) s (Y aR Q.length aY) Q (Y M (az r) N) r wr∧eP (1+b) P r Q aJ s∧P+j=now+kk)) (fun _ _ cI _ _ _ _ _ _=>(bx cI).toNat)
      case atStart=>exact⟨kk,ak _,rfl,now,rfl,M,N,r,H,rfl,aj.o,bn.o,rfl⟩
      case round=>
       obtain⟨j,gC,rfl,P,rfl,cX,c6,ah,s3,rfl,A⟩:=hrel;by_cases hj:(0:Int)<(j:Int)
       ·skip;obtain⟨hm,aA,a8⟩:=A.o;have ci:P≤549:=by have:=ay.o;have:=bY.o;omega
        have cj:kk≤9:=bY.o;have fk:ah.length≤1000:=by
         obtain⟨rr,fM,_⟩:=eE aA;have:=congrArg az fM;rw[aK] at this;have:=ay.o.1;omega
        obtain⟨he,o,dm,dC,dB,dj⟩:=eG aA bB ce (by have:=ay.o.1;omega) (by omega);obtain⟨HT,bW,gl,aM,HE,e5⟩:=H6 (eZ hm P) dm dB dj he a8;clear A hm aA he dm dB dj a8;go_wp2_with fail;refine HT.o.mono ?_;rintro e t1 ⟨tk,ta,tb,aa,na,ca,af,nf,cf,rfl,a7⟩;rw[HE.o];obtain⟨T1,am⟩:=ex (t1.alloc (T #[I J (A3 (eN (1+b)) P s3).2.ran,I U tk,I J ta,I J tb,Y aa na ca,Y af nf cf] 43));have a4:Bl t1 T1:=by rw[am];exact(av _ t1).alloc (ak _) _
        obtain⟨L,bo⟩:=H2 (a7.below a4) am;clear a7 a4 am HT;go_upto_region 31 with (fail);rw[←bo.o];go_wp2_with fail;refine(eU L.o 1).mono ?_;rintro e t2 ⟨v,rfl,hq,ck⟩;rw[show (ET (eN (1+b)) 1 (A3 (eN (1+b)) P s3).1).2.2=0 by rw[bW.o]];rw[bW.o] at hq;obtain⟨C,aF⟩:=ex ((ET (eN (1+b)) 1 (A3 (eN (1+b)) P s3).1).1);rw[←aF] at ck;have eA:Hq (eP (1+b) ((P:Int)+1) (ah++o) Q aJ C):=by rw[aF];exact aM.o
        obtain⟨vs,⟨al,cl,d,an,_,au,X⟩,ej⟩:=hq;rw[ba] at d an X;subst d;obtain⟨ol,cp⟩:=ex o.length;rw[←cp] at an X dC ⊢;obtain⟨cR,ac,HP,e6,eT,eY⟩:=H6 cp ck X ej au dC;clear ck L bo X ej au aF aM bW cp;go_wp2_with fail
        go_loopw [13,24] (fun bk cJ wr=>∃ p:Nat,p≤ol∧cJ=I J p∧∃ M N,bk=Y M (az (ah++o.take p)) N∧Hq (eR B u.heap.size u g1 (eN (1+b)) C (Y aR Q.length aY) Q (Y M (az (ah++o.take p)) N) (ah++o.take p) wr∧(p=0→t2=wr))) (fun _ cJ _=>ol-(bx cJ).toNat)
        case atStart=>exact⟨0,aW _,rfl,cX,c6,by rw[bb,aV],by rw[bb,aV];exact ac.o,fun _=>rfl⟩
        case round=>
         obtain⟨p,gI,rfl,cY,c7,rfl,A⟩:=hrel;by_cases gJ:(p:Int)<(ol:Int)
         ·skip;have gH:=eY.o;have cn:=cR.o;obtain rfl:p=0:=by omega
          obtain⟨z,rfl⟩:∃ z,o=[z]:=by
           cases o with
           |nil=>simp at cn;omega
           |cons z t=>
            cases t with
            |nil=>exact⟨z,rfl⟩
            |cons _ _=>simp at cn;omega
          obtain rfl:=A.o.2 rfl;have hm:=A.o.1;rw[bb,aV] at hm ⊢;obtain⟨bq,oq,rfl,_,_,dn⟩:=HP.o (by omega);obtain⟨u0,rfl⟩:∃ u0,vs=[u0]:=by
           have hl:=eT.o
           match vs,hl with
           | [u0],_=>exact⟨u0,rfl⟩
          have hr:=e6.o 0 u0 [z] rfl rfl;obtain⟨a0,c0,rfl,gt,_,h0⟩:=hr.open_;obtain⟨bz,oz,rfl,_,_,hz⟩:=h0 (by simp);have pz:t2.cell? ⟨bz,oz,O⟩=Z (I U z):=hz 0 (by simp);have pv:t2.cell? ⟨bq,oq,O⟩=Z (Y (Z ⟨bz,oz,O⟩) 1 c0):=dn 0 _ rfl;obtain⟨e7,e9,w5,aD,dy,_⟩:=hm.swap.push (c:=c0) fk pz 34;have e4:=HH aD;have eW:=HH dy.swap;clear A hm dn hr h0 hz aD dy ac cn;go_wp2_with (at_builtin;refine bh _ rfl _ _ _ _ rfl _ _ rfl rfl _ _ e4.o ?_)
          go_roundw
          case rel=>exact⟨1,by omega,by go_num,e7,e9,by simp,by have:=eW.o;simpa using this,fun h=>absurd h (by decide)⟩
          case measure=>simp[bx];omega
         ·obtain rfl:p=ol:=by omega
          have cx:o.take p=o:=by rw[cR.o,List.take_length]
          have HA:Hq (eR B u.heap.size u g1 (eN (1+b)) C (Y aR Q.length aY) Q (Y cY (ah++o).length c7) (ah++o) wr):=by
           have:=A.o.1;rw[cx] at this;exact this
          rw[cx];clear A cx;go_wp2_with fail
          go_roundw
          case rel=>exact⟨j-1,by omega,by go_num,P+1,by go_num,cY,c7,ah++o,C,rfl,HA.o,by have:=eA.o;exact this,by have:=e5.o;omega⟩
          case measure=>simp[bx];omega
       ·have HA:=HH A.o;clear A;go_wp2_with fail
        go_roundw
        case rel=>exact⟨i+1,by omega,by go_num,P,rfl,aR,aY,cX,c6,Q,ah,aJ,s3,rfl,rfl,HA.o.1,HA.o.2.1,ay.o.1,by have:=HA.o.2.2;have:=bY.o;have:=ay.o.2;omega⟩
        case measure=>simp[bx];omega
    ·obtain rfl:i=ae.length:=by omega
     obtain⟨rr,ct,fL⟩:=eE aN.o;obtain⟨dq,ee,eh,eg⟩:=eD aN.o (by have:=F.o;omega);have dx:=eF aN.o;have S:s.queues.length=2:=HM.o.wd.good.ok.queues;have au:D.length=r.length+rr.length:=by rw[ct,aK]
     obtain⟨ec,eb⟩:=HM.o.fD;have cq:r.length≤cw∧Af U wr 0 (Y aw r.length cw) r:=Af.pre (m:=rr) (by rw[←ct];exact ec);have fN:=fE aw D.length cw r.length cq.1;have cV:Hq (bE prog 14 #[Y M r.length N,Y aw r.length cw] wr fun e w'=>e=.returned (.bool true)∧Bl wr w'):=by
      have:=YI _ _ r r wr eb cq.2 (by have:=F.o.1;omega);rwa [decide_eq_true rfl] at this
     have fn:¬((D.length:Int)<(r.length:Int)):=by omega
     have gK:(D.length:Int)≤60:=by have:=F.o.1;omega
     have gw:(r.length:Int)≤60:=by omega
     have gE:(ap:Int)≤60:=by have:=F.o.1;omega
     have fu:((ap:Int) !=((ae.length:Int)-(D.length:Int)))=false:=by
      have:=F.o.1;simp;omega
     have fm:¬(1+b+1<(D.length:Int)-(r.length:Int)):=by omega
     obtain⟨cT,cQ,cM,b0,b9,aO⟩:=H6 S dx dq ee eh eg;clear ct fL dq ee eh eg dx S au ec eb cq F aN hi fo;go_wp2_with fail;refine cV.o.mono ?_;rintro e u1 ⟨rfl,df⟩;have L:=HH (HM.o.below df);clear df cV HM fN fn;go_wp2_with fail;refine(Zt L.o.wd).mono ?_;rintro e u2 ⟨b1,b2,b3,b4,b5,b6,b7,b8,k1,k2,k3,k4,k5,k6,k7,k8,m8,rfl,d,a⟩;have ac:=HH (L.o.below a);obtain⟨ao,cap,ev,a6,_,pp⟩:=(JJ.lo d).open_;simp only[ai,ba,true_and] at ev a6;obtain⟨rfl,rfl⟩:=ev;have S:=cT.o;obtain⟨pq,po,rfl,_,_,an⟩:=pp (by simp[S]);have pc:u2.cell? ⟨pq,po,O⟩=Z (I J ap):=by
      have h:=an 0 (by simp[S]);rw[List.getElem_map,bI] at h;have h2:=cQ.o;rw[aS,List.getElem?_eq_getElem (by omega)] at h2;rw[h,←h2];rfl
     have hf:=fB s.mode s.clock b1 b2 b3 b4 b5 b6 (Z ⟨pq,po,O⟩) b8 s.procs.length k1 s.mem.length k2 s.semas.length k3 s.events.length k4 s.boards.length k5 s.queues.length k6 s.queues.length k7 m8 k8;have bJ:(0:Int)<(s.queues.length:Int):=by omega
     have cs:0<k7:=by omega
     clear d a an pp a6 L S cT cQ;go_wp2_with fail;clear hf pc bJ cs fu fm;refine(fA ac.o 2 0).mono ?_;rintro e u3 ⟨rfl,aB⟩;rw[cM.o];obtain⟨s3,ed⟩:=ex ((Br (eN (1+b)) 2 0 s).1);rw[←ed] at aB b0 b9 aO;have aj:=HH aB;clear aB ac cM ed;go_wp2_with fail;refine(eZ aj.o now).mono ?_;rintro e u4 ⟨tk,ta,tb,aa,na,ca,af,nf,cf,rfl,bG⟩;rw[b0.o,b9.o];obtain⟨C,aF⟩:=ex ((A3 (eN (1+b)) now s3).1);rw[←aF] at bG aO;obtain⟨T1,am⟩:=ex (u4.alloc (T #[I J (-1),I U tk,I J ta,I J tb,Y aa na ca,Y af nf cf] 43));have a4:Bl u4 T1:=by rw[am];exact(av _ u4).alloc (ak _) _
     have dv:T1.heap[u4.heap.size]? =Z (T #[I J (-1),I U tk,I J ta,I J tb,Y aa na ca,Y af nf cf] 43 (0,0)):=by rw[am];exact ar _ _
     obtain⟨bZ,bo⟩:=H2 (bG.below a4) am;have ff:T1.cell? ⟨u4.heap.size,0,O⟩=Z (I J (-1)):=Cr dv;have bH:C.procs.length=1:=bG.wd.good.ok.procs;have cS:=HH bH;clear am a4 dv bG aF b0 b9 aj bH;go_upto_region 49 with (fail);rw[←bo.o];by_cases dT:(0:Int)<(now:Int)
     case' pos=>
      have cv:∀ v:Int,v=(C.procs.getD 0 default).status→(v==1)=true:=fun v d=>by rw[d,aO.o,if_pos dT];rfl
      have ft:((now:Int)==0)=false:=by simp;omega
     case' neg=>
      have cv:∀ v:Int,v=(C.procs.getD 0 default).status→(v==1)=false:=fun v d=>by rw[d,aO.o,if_neg dT];rfl
      have ft:((now:Int)==0)=true:=by simp;omega
     all_goals
      go_wp2_with fail;refine(Zt bZ.o.wd).mono ?_;rintro e u5 ⟨b1,b2,b3,b4,b5,b6,b7,b8,k1,k2,k3,k4,k5,k6,k7,k8,m8,rfl,d,a⟩;have ez:=HH (bU.o u5 (bZ.o.below a).wd.bel);have bH:=cS.o;obtain⟨gD,bq,oq,rfl,pc⟩:=fC (JJ.pr d) (by omega);obtain⟨st,cu⟩:=ex ((C.procs.getD 0 default).status);have fO:=cv st cu;rw[←cu] at pc;have hf:=Uv C.mode C.clock (Z ⟨bq,oq,O⟩) b2 b3 b4 b5 b6 b7 b8 C.procs.length k1 C.mem.length k2 C.semas.length k3 C.events.length k4 C.boards.length k5 C.queues.length k6 C.queues.length k7 m8 k8;have bJ:(0:Int)<(C.procs.length:Int):=by omega
      clear d a cv bZ bH cS aO cu ff;go_wp2_with fail;go_ret;refine⟨A8 ?_,ez.o⟩;simp[fO];omega
 ·go_wp2_with fail;go_ret;exact⟨rfl,B1.o⟩
def fF{H:Type}{enc:bf×aX→H}{W:aU}{M:Nat→Bool}{w:Bool}{a:Option Addr}{f cap:Nat}{d:DataW H}{p:List MemPlace}(h:bM enc prog W 0 M w 34 (Y a f cap) d p):∃ l:List Int,l.length=f∧Af U W 0 (Y a f cap) l∧∀ z∈l,0≤z∧z≤255:=by
 obtain⟨fuel,x⟩:=h;obtain⟨l,A,Q,D,o⟩:=Kg underlying34 (show prog.cellsOf 5=1 by kernel_rfl) (by decide) (fun i (z:Int)=>i=[.int U z]∧0≤z∧z≤255) (fun i m y P E=>by
  obtain⟨z,c,_,K⟩:=DataW.trod_int underlying5 E;exact⟨z,c,bounds_u8 K⟩) x
 obtain⟨r,c2,F,R,B,C⟩:=D;have n:(l.map (·.2)).length=f:=by simpa using A
 refine⟨l.map (·.2),n,⟨r,c2,by rw[n];exact F,by omega,B,by simp,fun N=>?_⟩,fun z c=>?_⟩
 ·obtain⟨b,L,s,t,v⟩:=C (by omega);refine⟨b,L,s,aW _,t,fun j u q=>?_⟩;rw[bp,be] at q;obtain⟨z,c,rfl⟩:=q;rw[bp,be] at c;obtain⟨y,g,rfl⟩:=c;obtain⟨k,e⟩:=bc.1 g;have:=v j 0 (by omega) (by decide);dsimp only at this;rw[Nat.mul_one,bI,IX k,(o _ (bs k)).1,e] at this;rw[this];rfl
 ·obtain⟨y,g,rfl⟩:=bA.1 c;exact(o y g).2
end Go.Proofs.YtiepijihpgijbaaGreatDoor
