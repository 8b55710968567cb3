import Derived.Deep.RegionHeld3
import Derived.Test.YtiepijihpgijbaaGreatDoorQ3
set_option maxHeartbeats 4000000
set_option maxRecDepth 100000
set_option linter.all false
open Option renaming some→Z,none→O
open Go.IntKind renaming u8→U,i64→J
open Go.Value renaming int→I,slice→Y,pointer→G
open Go.Obj renaming cells→T
open Go renaming bodyPost_ret→am,heap_alloc_new→av,Value→aw,World→aE,results→aI,Calls→bq
open List renaming replicate→an,length→bs
open Nat renaming le_refl→ay,lt_of_lt_of_le→aJ
open Go.RowKit.Below renaming refl→aF,heap_setCell→aW,heap_alloc→aZ
open Bool renaming eq_iff_iff→aT
open Go.Value.slice renaming injEq→aU
open Go.Value renaming slice→bp
namespace Go.Proofs.YtiepijihpgijbaaGreatDoor
open Go.RowKit Tryz
def Ci(n:Int)(d:List Int)(p g:List Wt):Bool:=decide (1≤n) && decide (n≤16) && decide ((d.length:Int)≤n) && (decide (AY p) && decide (AY g)) && (p.length==0||(d.length:Int)==n) && (g.length==0||d.length==0) && !g.any (fun y=>y.val !=0)
def CQ(p g:List Wt)(q:Int):Bool:=decide (0≤q) && !(p++g).any (fun x=>decide (x.proc=q))
def R2(w:aE)(o a:Obj):((w.alloc o).alloc a).heap[w.heap.size+1]? =Z a:=by
 have:=av (w.alloc o) a;simpa using this
def Zi(n:Int)(M P N:aw)(d:List Int)(p g:List Wt)(w:aE)(K:Af U w 0 M d)(A:Al w 0 P p)(u:Al w 0 N g)(R:Ck p)(Q:Ck g)(ai:p.length≤100000)(ah:g.length≤100000):
  bq prog 187 #[.agg #[I J n,M,P,N]] w fun e w'=>e=.returned (.bool (Ci n d p g))∧Bl w w':=by
 obtain⟨x,z,rfl,_,_,_⟩:=K.open_;obtain⟨s,t,rfl,_,_,_⟩:=A.open_;obtain⟨m,q,rfl,_,_,_⟩:=u.open_;have v:Hq (Bl w (w.alloc (T #[I J n,Y x d.length z,Y s p.length t,Y m g.length q] 111))):=(aF _ w).alloc (ay _) _;obtain⟨l,r⟩:=ex ((w.alloc (T #[I J n,Y x d.length z,Y s p.length t,Y m g.length q] 111)).alloc (T #[Y s p.length t,Y m g.length q] 93));have b:Hq (Bl w l):=by subst r;exact((aF _ w).alloc (ay _) _).alloc (by simp) _
 have c:Hq (l.heap[w.heap.size]? =Z (T #[I J n,Y x d.length z,Y s p.length t,Y m g.length q] 111 (0,0))):=by subst r;exact(aZ _ _ _ (by simp)).trans (av w _)
 have a:Hq (bq prog 188 #[Y (Z ⟨w.heap.size+1,0,O⟩) 2 2] l fun e w'=>e=.returned (.bool (decide (AY p) && decide (AY g)))∧Bl l w'):=by
  have H:=Pt (Y (Z ⟨w.heap.size+1,0,O⟩) 2 2) [p,g] l (by subst r;exact Ds.two (by simp) (A.alloc _) (u.alloc _)) (by simp) (fun y L=>by simp only[List.mem_cons,List.not_mem_nil,or_false] at L;rcases L with rfl|rfl<;>first|exact⟨R,ai⟩|exact⟨Q,ah⟩)
  rw[show (!([p,g].any (fun y=>!decide (AY y))))=(decide (AY p) && decide (AY g)) from by simp only[List.any_cons,List.any_nil];cases decide (AY p)<;>cases decide (AY g)<;>rfl] at H;exact H
 have i:Hq (∀ W,Bl w W→bq prog 189 #[Y m g.length q] W fun e w'=>e=.returned (.bool (!g.any (fun y=>y.val !=0)))∧Bl W w'):=fun W hb=>Oa _ g W (u.below hb) (by omega);have k:=HH r;clear K A u R Q r;by_cases D:1≤n
 ·by_cases E:n≤16
  ·by_cases F:(d.length:Int)≤n
   ·cases j:(decide (AY p) && decide (AY g)) with
    |false=>
     rw[j] at a;rw[show Ci n d p g=false by simp only[Ci,j];simp];clear j i;go_enter func187,ntmps187;go_wp2_with fail;rw[←k.o];refine a.o.mono ?_;rintro e w2 ⟨rfl,f⟩;have h:=HH (b.o.trans (f.mono b.o.size));clear f a;go_wp2_with fail;go_ret;exact⟨rfl,h.o⟩
    |true=>
     rw[j] at a;have B:Hq (Ci n d p g=((p.length==0||(d.length:Int)==n) && (g.length==0||d.length==0) && !g.any (fun y=>y.val !=0))):=by show _=_;simp only[Ci,j,decide_eq_true D,decide_eq_true E,decide_eq_true F];simp
     rw[B.o];clear B j;generalize (!g.any (fun y=>y.val !=0))=br at i ⊢;have X:((p.length:Int)==0)=(p.length==0):=by rw[aT];simp
     have ab:((g.length:Int)==0)=(g.length==0):=by rw[aT];simp
     have ae:((d.length:Int)==0)=(d.length==0):=by rw[aT];simp
     cases V:(p.length==0)<;>cases hF:((d.length:Int)==n)<;>cases hG:(g.length==0)<;>cases hH:(d.length==0)
     all_goals
      rw[V] at X;rw[hG] at ab;rw[hH] at ae;go_enter func187,ntmps187;go_wp2_with fail;rw[←k.o];refine a.o.mono ?_;rintro e w2 ⟨rfl,f⟩;have h:=HH (b.o.trans (f.mono b.o.size));obtain⟨x0,x1,x2,x3,_,_,_,_⟩:=Az ((f.block _ (Aa c.o)).trans c.o);have hx:=Aa ((f.block _ (Aa c.o)).trans c.o);clear f a;go_wp2_with (go_at_call 189;refine(i.o _ h.o).mono ?_;rintro e w3 ⟨rfl,C⟩;have S:=HH (h.o.trans (C.mono h.o.size));clear C);go_ret;exact⟨A8 (by first|rfl|simp),by first|exact h.o|exact S.o⟩
   ·rw[show Ci n d p g=false by simp[Ci,F]];clear a i k b c;go_enter func187,ntmps187;go_wp2_with fail;go_ret;exact⟨rfl,v.o⟩
  ·rw[show Ci n d p g=false by simp[Ci,E]];clear a i k b c;go_enter func187,ntmps187;go_wp2_with fail;go_ret;exact⟨rfl,v.o⟩
 ·rw[show Ci n d p g=false by simp[Ci,D]];clear a i k b c;go_enter func187,ntmps187;go_wp2_with fail;go_ret;exact⟨rfl,v.o⟩
def NC(w:aE)(n:Int)(d:List Int)(p g:List Wt)(q:Int)(e:Ending)(w':aE):Prop:=
 ∃ a b f c,e=.returned (.tuple #[G (Z ⟨a,0,O⟩),.bool (Ci n d p g && CQ p g q)])∧w.heap.size≤a∧w'.heap[a]? =Z (T #[I J n,b,f,c] 261 (0,0))∧AA w' w.heap.size b d∧Ax w' w.heap.size f p∧Ax w' w.heap.size c g∧Bl w w'
def Ht(n:Int)(q:Int)(vd vp vg:aw)(d:List Int)(p g:List Wt)(w:aE)(hd:Af U w 0 vd d)(hp:Al w 0 vp p)(hg:Al w 0 vg g)(wp:Ck p)(wg:Ck g)(a6:d.length≤40000)(a8:p.length≤40000)(a7:g.length≤40000):
  bq prog 160 #[.agg #[I J n,vd,vp,vg],I J q] w (NC w n d p g q):=by
 obtain⟨ad,cd,rfl,_,_,_⟩:=hd.open_;obtain⟨t,z,rfl,_,_,_⟩:=hp.open_;obtain⟨s,y,rfl,_,_,_⟩:=hg.open_;obtain⟨a,ab⟩:=ex (w.alloc (T #[I J n,Y ad d.length cd,Y t p.length z,Y s g.length y] 111));have k:Hq (Bl w a):=by subst ab;exact(aF _ w).alloc (ay _) _
 have l:Hq (a.heap[w.heap.size]? =Z (T #[I J n,Y ad d.length cd,Y t p.length z,Y s g.length y] 111 (0,0))):=by subst ab;exact av w _
 obtain⟨HD,HP,HG,WP,WG,aN⟩:=H6 (hd.below k.o) (hp.below k.o) (hg.below k.o) wp wg ab;have h:=Aa l.o;obtain⟨F,H,K,L,_,_,_,_⟩:=Az l.o;clear hd hp hg wp wg ab;go_enter func160,ntmps160;go_upto_region 1 with (fail);rw[←aN.o]
 go_cut [6] (fun s6 V=>∃ (B:Nat) (ac af ae:aw),s6=G (Z ⟨B,0,O⟩)∧Hq (a.heap.size≤B∧V.heap[B]? =Z (T #[I J n,ac,af,ae] 261 (0,0))∧AA V a.heap.size ac d∧Ax V a.heap.size af p∧Ax V a.heap.size ae g∧Bl a V))
 case first=>
  go_region_held3 (fun w'=>w'.cell? ⟨w.heap.size,0,O⟩=Z (I J n)∧w'.cell? ⟨w.heap.size,1,O⟩=Z (Y ad d.length cd)∧w'.cell? ⟨w.heap.size,2,O⟩=Z (Y t p.length z)∧w'.cell? ⟨w.heap.size,3,O⟩=Z (Y s g.length y)) (first|go_keep|(refine⟨?_,?_,?_,?_⟩<;>assumption))
   ((first
    |(go_at_call 27;(refine(Gj _ d _ (by exact HD.o) (by omega)).mono ?_);rintro e E ⟨v2,rfl,Q,c⟩;replace c:Bl a E:=(by first|exact c|exact EM c);replace Q:C5 E a.heap.size v2 d:=Q;obtain⟨a2,c2,rfl⟩:=Bq Q;have T2:Hq (AA E a.heap.size (Y a2 d.length c2) d):=Ty.Bw Q;have X:=HH c;obtain⟨r0,r1,r2,r3,_,_,_,_⟩:=Az ((c.block _ h).trans l.o);have a9:w.heap.size<E.heap.size:=aJ h c.size;clear Q c)
    |(go_at_call_of 112 (bp t p.length z);(refine(GK _ p _ (by exact HP.o.below X.o) (by omega)).mono ?_);rintro e i ⟨v3,rfl,R,u⟩;replace u:Bl E i:=(by first|exact u|exact EM u);replace R:i.ownsRow E.heap.size 161 3 v3 p.length (cellsW p):=R;obtain⟨a3,c3,rfl⟩:=Bq R;have T3:Hq (Ax i a.heap.size (Y a3 p.length c3) p):=Ty.mono (Ty.Bw R) X.o.size;have aP:Hq (AA i a.heap.size (Y a2 d.length c2) d):=Ty.below T2.o u;have m:=HH (X.o.trans (u.mono X.o.size));obtain⟨bg,bh,bi,bj,_,_,_,_⟩:=Az ((m.o.block _ h).trans l.o);have ba:w.heap.size<i.heap.size:=aJ h m.o.size;clear R u)
    |(go_at_call_of 112 (bp s g.length y);(refine(GK _ g _ (by exact HG.o.below m.o) (by omega)).mono ?_);rintro e j ⟨v4,rfl,S,f⟩;replace f:Bl i j:=(by first|exact f|exact EM f);replace S:j.ownsRow i.heap.size 161 3 v4 g.length (cellsW g):=S;obtain⟨a4,c4,rfl⟩:=Bq S;have T4:Hq (Ax j a.heap.size (Y a4 g.length c4) g):=Ty.mono (Ty.Bw S) m.o.size;have aS:Hq (Ax j a.heap.size (Y a3 p.length c3) p):=Ty.below T3.o f;have aQ:Hq (AA j a.heap.size (Y a2 d.length c2) d):=Ty.below aP.o f;have N:=HH (m.o.trans (f.mono m.o.size));obtain⟨bk,bl,bm,bn,_,_,_,_⟩:=Az ((N.o.block _ h).trans l.o);have bb:w.heap.size<j.heap.size:=aJ h N.o.size;clear S f)))
  all_goals
   go_wp2_with fail
   go_meet
   exact⟨_,_,_,_,rfl,N.o.size,av j _,Ty.alloc aQ.o _,Ty.alloc aS.o _,Ty.alloc T4.o _,N.o.alloc N.o.size _⟩
 case rest=>
  obtain⟨B,ac,af,ae,rfl,A⟩:=hcut;obtain⟨hA1,hA2,hA3,hA4,hA5,hA6⟩:=A.o;obtain⟨wr,rfl⟩:=ex wc;have ax:w.heap.size≤a.heap.size:=k.o.size;have ai:Hq (∀ W (b:Bool),Bl wr W→b=(Ci n d p g && CQ p g q)→NC w n d p g q (.returned (.tuple #[G (Z ⟨B,0,O⟩),.bool b])) W):=fun W b P he=>by
   subst he;have aX:=hA6.trans (P.mono hA6.size);exact⟨B,ac,af,ae,rfl,by omega,(P.block _ (Aa hA2)).trans hA2,Ty.mono (Ty.below hA3 P) ax,Ty.mono (Ty.below hA4 P) ax,Ty.mono (Ty.below hA5 P) ax,k.o.trans (aX.mono k.o.size)⟩
  obtain⟨M,ah⟩:=H2 hA6 ((hA6.block _ h).trans l.o);clear A hA1 hA2 hA3 hA4 hA5 hA6 F H K L;obtain⟨F,H,K,L,_,_,_,_⟩:=Az ah.o;have hx:=Aa ah.o;go_wp2_with fail;have C:=Zi n _ _ _ d p g wr (HD.o.below M.o) (HP.o.below M.o) (HG.o.below M.o) WP.o WG.o (by omega) (by omega);cases D:Ci n d p g with
  |false=>
   rw[D] at C;have K1:=HH D;refine C.mono ?_;clear C D;rintro e w5 ⟨rfl,v⟩;have r:=HH v;clear v F H K L hx;go_wp2_with fail
   go_ret2
   exact ai.o _ _ r.o (by rw[K1.o];rfl)
  |true=>
   rw[D] at C;have K1:=HH D;refine C.mono ?_;clear C D;rintro e w5 ⟨rfl,v⟩;obtain⟨r,az⟩:=H2 v ((v.block _ hx).trans ah.o);clear v F H K L;obtain⟨F,H,K,L,_,_,_,_⟩:=Az az.o;have bc:=Aa az.o;by_cases hq:0≤q
   ·go_wp2_with fail;have ao:=M.o.trans (r.o.mono M.o.size);have hw:=KB q (Y (Z ⟨w5.heap.size,0,O⟩) 2 2) [p,g] (w5.alloc (T #[Y t p.length z,Y s g.length y] 93)) (Ds.two rfl (HP.o.below ao) (HG.o.below ao)) (by simp) (by rw[OF,List.length_append];omega);rw[OF] at hw;refine hw.mono ?_;clear hw ao;rintro e w6 ⟨rfl,b6⟩;have aq:=r.o.alloc r.o.size (T #[Y t p.length z,Y s g.length y] 93);have aL:=HH (aq.trans (b6.mono aq.size));have aB:Hq (CQ p g q=!((p++g).any fun x=>decide (x.proc=q))):=by show _=_;simp only[CQ,decide_eq_true hq,Bool.true_and]
    generalize ((p++g).any fun x=>decide (x.proc=q))=od at aB ⊢;clear b6 aq F H K L;go_wp2_with fail
    go_ret2
    exact ai.o _ _ aL.o (by rw[K1.o,aB.o];rfl)
   ·have HM:Hq (CQ p g q=false):=by show _=_;simp[CQ,hq]
    go_wp2_with fail
    go_ret2
    exact ai.o _ _ r.o (by rw[K1.o,HM.o];rfl)
def Cb(n:Int)(d:List Int)(p g:List Wt)(q r v:Int):List Int×List Wt×List Wt×Bool×Int×Int:=
 if(Ci n d p g && CQ p g q)=false then(d,p,g,false,-1,2) else match g with
  |x::m=>(d,p,m,true,x.proc,0)
  | []=>if(d.length:Int)<n then(d++ [v],p,[],true,-1,0) else(d,Cl p ⟨q,r,v⟩,[],false,-1,0)
def getBu(n:Int)(d:List Int)(p g:List Wt)(q r:Int):List Int×List Wt×List Wt×Int×Bool×Int×Int:=
 if(Ci n d p g && CQ p g q)=false then(d,p,g,0,false,-1,2) else match d with
  | []=>([],p,Cl g ⟨q,r,0⟩,0,false,-1,0)
  |y::t=>match p with
   |x::m=>(t++ [x.val],m,g,y,true,x.proc,0)
   | []=>(t,[],g,y,true,-1,0)
section
variable {n:Int} {d t:List Int} {p g m:List Wt} {q r v y:Int} {x:Wt}
def PW(h:(Ci n d p g && CQ p g q)=false):Cb n d p g q r v=(d,p,g,false,-1,2):=by simp only[Cb,h,if_pos]
def Qb(h:(Ci n d p g && CQ p g q)=true)(a:g=x::m):Cb n d p g q r v=(d,p,m,true,x.proc,0):=by subst a;simp only[Cb,h];rfl
def PY(h:(Ci n d p g && CQ p g q)=true)(a:g=[])(b:(d.length:Int)<n):Cb n d p g q r v=(d++ [v],p,[],true,-1,0):=by subst a;simp[Cb,h,b]
def Qa(h:(Ci n d p g && CQ p g q)=true)(a:g=[])(b:¬(d.length:Int)<n):Cb n d p g q r v=(d,Cl p ⟨q,r,v⟩,[],false,-1,0):=by subst a;simp[Cb,h,b]
def OI(h:(Ci n d p g && CQ p g q)=false):getBu n d p g q r=(d,p,g,0,false,-1,2):=by simp only[getBu,h,if_pos]
def OL(h:(Ci n d p g && CQ p g q)=true)(a:d=[]):getBu n d p g q r=([],p,Cl g ⟨q,r,0⟩,0,false,-1,0):=by subst a;simp only[getBu,h];rfl
def OM(h:(Ci n d p g && CQ p g q)=true)(a:d=y::t)(b:p=x::m):getBu n d p g q r=(t++ [x.val],m,g,y,true,x.proc,0):=by subst a;subst b;simp only[getBu,h];rfl
def OJ(h:(Ci n d p g && CQ p g q)=true)(a:d=y::t)(b:p=[]):getBu n d p g q r=(t,[],g,y,true,-1,0):=by subst a;subst b;simp only[getBu,h];rfl
end
def NJ(w:aE)(n:Int)(d:List Int)(p g:List Wt)(f h i:aw)(e:Ending)(w':aE):Prop:=∃ a c b,e=.returned (.tuple #[.agg #[I J n,a,c,b],f,h,i])∧AA w' w.heap.size a d∧Ax w' w.heap.size c p∧Ax w' w.heap.size b g∧Bl w w'
def NK(w:aE)(n:Int)(d:List Int)(p g:List Wt)(f h i j:aw)(e:Ending)(w':aE):Prop:=∃ a c b,e=.returned (.tuple #[.agg #[I J n,a,c,b],f,h,i,j])∧AA w' w.heap.size a d∧Ax w' w.heap.size c p∧Ax w' w.heap.size b g∧Bl w w'
def Df(W:aE)(g:Nat)(a b c d:aw):aE:=(((W.setCell ⟨g,0,O⟩ a).setCell ⟨g,1,O⟩ b).setCell ⟨g,2,O⟩ c).setCell ⟨g,3,O⟩ d
def Ty.Df{w:aE}{B sz n g:Nat}{t k:TypeId}{v:aw}{l:List aw}{m o p q:aw}(h:Ty w B t sz v n l)(j:w.heap[g]? =Z (T #[m,o,p,q] k (0,0)))(e:k≠t)(a b c d:aw):Ty (Df w g a b c d) B t sz v n l:=by
 have f:=(I4 j a).1;have i:=(I4 f b).2.1;have r:=(I4 i c).2.2.1;exact(((h.set j e).set f e).set i e).set r e
def Yi{w W:aE}{B g:Nat}(h:Below B w W)(e:B≤g)(a b c d:aw):Below B w (Df W g a b c d):=
 (((h.setCell (p:=⟨g,0,O⟩) e a).setCell (p:=⟨g,1,O⟩) e b).setCell (p:=⟨g,2,O⟩) e c).setCell (p:=⟨g,3,O⟩) e d
structure AM(w W:aE)(n0:Int)(d0 p0 g0:aw)(gb:Nat)(n:Int)(vd vp vg:aw)(d:List Int)(p g:List Wt):Prop where
 arg:W.heap[w.heap.size]? =Z (T #[I J n0,d0,p0,g0] 111 (0,0))
 res:W.heap[w.heap.size+1]? =Z (T #[I J 0,Y O 0 0,Y O 0 0,Y O 0 0] 111 (0,0))
 ge:w.heap.size+2≤gb
 obj:W.heap[gb]? =Z (T #[I J n,vd,vp,vg] 261 (0,0))
 td:AA W (w.heap.size+2) vd d
 tp:Ax W (w.heap.size+2) vp p
 tg:Ax W (w.heap.size+2) vg g
 bel:Bl w W
section
variable {w W W':aE} {n0 n:Int} {d0 p0 g0 vd vp vg v':aw} {gb:Nat} {d d':List Int} {p g p' g':List Wt}
def AM.next(m:AM w W n0 d0 p0 g0 gb n vd vp vg d p g)(a:Bl W W'):AM w W' n0 d0 p0 g0 gb n vd vp vg d p g:=
 ⟨(a.block _ (Aa m.arg)).trans m.arg,(a.block _ (Aa m.res)).trans m.res,m.ge,(a.block _ (Aa m.obj)).trans m.obj,Ty.below m.td a,Ty.below m.tp a,Ty.below m.tg a,m.bel.trans (a.mono m.bel.size)⟩
def AM.drew(m:AM w W n0 d0 p0 g0 gb n vd vp vg d p g):AM w W.drew n0 d0 p0 g0 gb n vd vp vg d p g:=⟨m.arg,m.res,m.ge,m.obj,m.td,m.tp,m.tg,m.bel.drew⟩
def AM.drewN(m:AM w W n0 d0 p0 g0 gb n vd vp vg d p g)(k:Nat):AM w (W.drewN k) n0 d0 p0 g0 gb n vd vp vg d p g:=⟨m.arg,m.res,m.ge,m.obj,m.td,m.tp,m.tg,JO m.bel k⟩
def AM.alloc(m:AM w W n0 d0 p0 g0 gb n vd vp vg d p g)(o:Obj):AM w (W.alloc o) n0 d0 p0 g0 gb n vd vp vg d p g:=m.next ((aF _ _).alloc (ay _) _)
def AM.set{j:Nat}{u a c b:aw}(m:AM w W n0 d0 p0 g0 gb n vd vp vg d p g)(i:(W.setCell ⟨gb,j,O⟩ u).heap[gb]? =Z (T #[I J n,a,c,b] 261 (0,0)))(e:AA W (w.heap.size+2) a d')(f:Ax W (w.heap.size+2) c p')(h:Ax W (w.heap.size+2) b g'):AM w (W.setCell ⟨gb,j,O⟩ u) n0 d0 p0 g0 gb n a c b d' p' g':=by
 have k:=m.ge;exact⟨(aW _ _ _ _ (by show w.heap.size≠gb;omega)).trans m.arg,(aW _ _ _ _ (by show w.heap.size+1≠gb;omega)).trans m.res,m.ge,i,Ty.set e m.obj (by decide),Ty.set f m.obj (by decide),Ty.set h m.obj (by decide),m.bel.setCell (p:=⟨gb,j,O⟩) (by show _≤gb;omega) u⟩
def AM.Lm(m:AM w W n0 d0 p0 g0 gb n vd vp vg d p g)(h:AA W (w.heap.size+2) v' d'):AM w (W.setCell ⟨gb,1,O⟩ v') n0 d0 p0 g0 gb n v' vp vg d' p g:=m.set (I4 m.obj _).2.1 h m.tp m.tg
def AM.Yl(m:AM w W n0 d0 p0 g0 gb n vd vp vg d p g)(h:Ax W (w.heap.size+2) v' p'):AM w (W.setCell ⟨gb,2,O⟩ v') n0 d0 p0 g0 gb n vd v' vg d p' g:=m.set (I4 m.obj _).2.2.1 m.td h m.tg
def AM.Yk(m:AM w W n0 d0 p0 g0 gb n vd vp vg d p g)(h:Ax W (w.heap.size+2) v' g'):AM w (W.setCell ⟨gb,3,O⟩ v') n0 d0 p0 g0 gb n vd vp v' d p g':=m.set (I4 m.obj _).2.2.2 m.td m.tp h
def AM.sz(m:AM w W n0 d0 p0 g0 gb n vd vp vg d p g):w.heap.size+2≤W.heap.size:=by have a:=m.ge;have b:=Aa m.obj;omega
def AM.Ux(m:AM w W n0 d0 p0 g0 gb n vd vp vg d p g)(c:W'.heap[gb]? =Z (T ((#[I J n,vd,vp,vg]:Array aw).setIfInBounds 3 v') 261 (0,0)))(f:Ax W' (w.heap.size+2) v' g')(a:W.grownBy W' (Z gb)):AM w W' n0 d0 p0 g0 gb n vd vp v' d p g':=by
 have h:=m.ge;exact⟨(a.block _ (Aa m.arg) (by intro e;cases e;omega)).trans m.arg,(a.block _ (Aa m.res) (by intro e;cases e;omega)).trans m.res,m.ge,c,Ty.grown m.td a m.obj (by decide),Ty.grown m.tp a m.obj (by decide),f,m.bel.grown a m.bel.size (fun b e=>by cases e;omega)⟩
def AM.O9(m:AM w W n0 d0 p0 g0 gb n vd vp vg d p g)(c:W'.heap[gb]? =Z (T ((#[I J n,vd,vp,vg]:Array aw).setIfInBounds 2 v') 261 (0,0)))(f:Ax W' (w.heap.size+2) v' p')(a:W.grownBy W' (Z gb)):AM w W' n0 d0 p0 g0 gb n vd v' vg d p' g:=by
 have h:=m.ge;exact⟨(a.block _ (Aa m.arg) (by intro e;cases e;omega)).trans m.arg,(a.block _ (Aa m.res) (by intro e;cases e;omega)).trans m.res,m.ge,c,Ty.grown m.td a m.obj (by decide),f,Ty.grown m.tg a m.obj (by decide),m.bel.grown a m.bel.size (fun b e=>by cases e;omega)⟩
def AM.store{e:Ending}(m:AM w W n0 d0 p0 g0 gb n vd vp vg d p g)(h:LL W gb n vp vg (w.heap.size+2) d' e W'):∃ v',e=.returned (.tuple #[])∧AM w W' n0 d0 p0 g0 gb n v' vp vg d' p g:=by
 obtain⟨v',k,l,o,j,r,f⟩:=h;have q:=m.ge;have i:∀ (b:Nat) (a:Array aw),W.heap[b]? =Z (Obj.cells a 161 (0,0))→W'.heap[b]? =Z (Obj.cells a 161 (0,0)):=fun b a c=>f b a _ _ (by
  rintro rfl;rw[m.obj] at c;simp only[Option.some.injEq,Obj.cells.injEq] at c;exact absurd c.2.1 (by decide)) c (by decide)
 exact⟨v',k,f _ _ _ _ (by omega) m.arg (by decide),f _ _ _ _ (by omega) m.res (by decide),m.ge,l,o,Ty.Ag m.tp i,Ty.Ag m.tg i,m.bel.trans (j.mono (by omega))⟩
def AM.last(m:AM w W n0 d0 p0 g0 gb n vd vp vg d p g)(a b c e:aw):AA (Df W (w.heap.size+1) a b c e) w.heap.size vd d∧Ax (Df W (w.heap.size+1) a b c e) w.heap.size vp p∧Ax (Df W (w.heap.size+1) a b c e) w.heap.size vg g∧Bl w (Df W (w.heap.size+1) a b c e):=
 ⟨Ty.mono (Ty.Df m.td m.res (by decide) a b c e) (by omega),Ty.mono (Ty.Df m.tp m.res (by decide) a b c e) (by omega),Ty.mono (Ty.Df m.tg m.res (by decide) a b c e) (by omega),Yi m.bel (by omega) a b c e⟩
def AM.fin(m:AM w W n0 d0 p0 g0 gb n vd vp vg d p g)(f:d=d')(i:p=p')(h:g=g')(a b c e:aw):AA (Df W (w.heap.size+1) a b c e) w.heap.size vd d'∧Ax (Df W (w.heap.size+1) a b c e) w.heap.size vp p'∧Ax (Df W (w.heap.size+1) a b c e) w.heap.size vg g'∧Bl w (Df W (w.heap.size+1) a b c e):=by
 subst f i h;exact m.last a b c e
def AM.Mi(m:AM w W n0 d0 p0 g0 gb n vd vp vg d p g)(k:d=d')(o:p=p')(l:g=g')(a b c e:aw)(X:Obj):AA ((Df W (w.heap.size+1) a b c e).alloc X).drew w.heap.size vd d'∧Ax ((Df W (w.heap.size+1) a b c e).alloc X).drew w.heap.size vp p'∧Ax ((Df W (w.heap.size+1) a b c e).alloc X).drew w.heap.size vg g'∧Bl w ((Df W (w.heap.size+1) a b c e).alloc X).drew:=by
 obtain⟨h,i,j,f⟩:=m.fin k o l a b c e;exact⟨Ty.alloc h X,Ty.alloc i X,Ty.alloc j X,(f.alloc f.size X).drew⟩
def AM.O5(m:AM w W n0 d0 p0 g0 gb n vd vp vg d p g)(k:d=d')(o:p=p')(l:g=g')(a b c e:aw):AA (Df W (w.heap.size+1) a b c e).drew w.heap.size vd d'∧Ax (Df W (w.heap.size+1) a b c e).drew w.heap.size vp p'∧Ax (Df W (w.heap.size+1) a b c e).drew w.heap.size vg g'∧Bl w (Df W (w.heap.size+1) a b c e).drew:=by
 obtain⟨f,h,i,j⟩:=m.fin k o l a b c e;exact⟨Ty.drew f,Ty.drew h,Ty.drew i,j.drew⟩
def AM.new{a:aE}(b:a=(w.alloc (T #[I J n0,d0,p0,g0] 111)).alloc (T #[I J 0,Y O 0 0,Y O 0 0,Y O 0 0] 111))(j:a.heap.size≤gb)(m:W.heap[gb]? =Z (T #[I J n,vd,vp,vg] 261 (0,0)))(f:AA W a.heap.size vd d)(h:Ax W a.heap.size vp p)(i:Ax W a.heap.size vg g)(c:Bl a W):AM w W n0 d0 p0 g0 gb n vd vp vg d p g:=by
 have o:a.heap.size=w.heap.size+2:=by subst b;simp
 have k:a.heap[w.heap.size]? =Z (T #[I J n0,d0,p0,g0] 111 (0,0)):=by subst b;exact(aZ _ _ _ (by simp)).trans (av w _)
 have l:a.heap[w.heap.size+1]? =Z (T #[I J 0,Y O 0 0,Y O 0 0,Y O 0 0] 111 (0,0)):=by subst b;exact R2 w _ _
 have e:Bl w a:=by subst b;exact((aF _ w).alloc (ay _) _).alloc (by simp) _
 rw[o] at f h i j;exact⟨(c.block _ (by omega)).trans k,(c.block _ (by omega)).trans l,j,m,f,h,i,e.trans (c.mono e.size)⟩
end
def AA.QC{w:aE}{B b d c:Nat}{x:Int}{m l:List Int}(h:AA w B (Y (Z ⟨b,d,O⟩) l.length c) l)(f:l=x::m)(e:c=1):AA w B (Y (Z ⟨b,d,O⟩) 0 0) m:=by
 have a:=h.Nu f e;obtain⟨_,cap,g,i,_⟩:=h;simp only[aU] at g;rw[show l.length-1=0 by omega] at a;exact a
def AA.head{w:aE}{B:Nat}{a:Option Addr}{c:Nat}{y:Int}{t l:List Int}(h:AA w B (Y a l.length c) l)(i:l=y::t):∃ b d,a=Z ⟨b,d,O⟩∧1≤l.length∧l.length≤c∧b<w.heap.size∧w.cell? ⟨b,d,O⟩=Z (I U y):=by
 subst i;obtain⟨m,cap,g,e,o,p,j⟩:=h;simp only[aU] at g;obtain⟨rfl,_,rfl⟩:=g;obtain⟨b,d,n,rfl,q,f,r,k⟩:=j (by simp at e;omega);refine⟨b,d,rfl,by simp,e,Aa f,?_⟩;rw[cell_of_row w _ _ _ _ _ f];exact k 0 _ rfl
def MH{α:Type}(l:List α):l=[]∨∃ x m,l=x::m:=by
 cases l with
 |nil=>exact .inl rfl
 |cons x m=>exact .inr ⟨x,m,rfl⟩
def Yj(n:Int)(q r v:Int)(vd vp vg:aw)(d:List Int)(p g:List Wt)(w:aE)(hd:Af U w 0 vd d)(hp:Al w 0 vp p)(hg:Al w 0 vg g)(wp:Ck p)(wg:Ck g)(az:d.length≤40000)(aB:p.length≤40000)(aA:g.length≤40000):
  bq prog 123 #[.agg #[I J n,vd,vp,vg],I J q,I J r,I U v] w (NJ w n (Cb n d p g q r v).1 (Cb n d p g q r v).2.1 (Cb n d p g q r v).2.2.1 (.bool (Cb n d p g q r v).2.2.2.1) (I J (Cb n d p g q r v).2.2.2.2.1) (I J (Cb n d p g q r v).2.2.2.2.2)):=by
 obtain⟨ad,cd,rfl,_,_,_⟩:=hd.open_;obtain⟨ap,cp,rfl,_,_,_⟩:=hp.open_;obtain⟨ag,cg,rfl,_,_,_⟩:=hg.open_;obtain⟨W0,aD⟩:=ex ((w.alloc (T #[I J n,Y ad d.length cd,Y ap p.length cp,Y ag g.length cg] 111)).alloc (T #[I J 0,Y O 0 0,Y O 0 0,Y O 0 0] 111));have B0:Hq (Bl w W0):=by subst aD;exact((aF _ w).alloc (ay _) _).alloc (by simp) _
 obtain⟨HD,HP,HG,WP,WG,af⟩:=H6 (hd.below B0.o) (hp.below B0.o) (hg.below B0.o) wp wg aD;clear hd hp hg wp wg aD;cases k1:(Ci n d p g && CQ p g q) with
 |false=>
  rw[PW k1];have K1:=HH k1;clear k1;go_enter func123,ntmps123;go_wp2_with fail;rw[←af.o];refine(Ht n q _ _ _ d p g W0 HD.o HP.o HG.o WP.o WG.o az aB aA).mono ?_;rintro e w1 ⟨b,aK,aM,aL,rfl,c,ab,k,s,l,b1⟩;obtain⟨a1,c1,rfl⟩:=Ty.shape k;obtain⟨a2,c2,rfl⟩:=Ty.shape s;obtain⟨a3,c3,rfl⟩:=Ty.shape l;rw[K1.o];have a:=HH (AM.new af.o c ab k s l b1);clear c ab k s l b1;obtain⟨M,N,P,Q,R,S,V,W⟩:=Az a.o.arg;obtain⟨i,j,r2,r3,r4,r5,r6,r7⟩:=Az a.o.res;obtain⟨D,u,E,y,F,H,K,L⟩:=Az a.o.obj;have z:=Aa a.o.arg;have t:=Aa a.o.res;have C:=Aa a.o.obj;have c:=a.o.ge;have A:b≠w.heap.size+1:=by omega
  have B:w.heap.size+1≠b:=by omega
  go_wp2_with fail;refine am (v:=.tuple #[.agg #[I J n,Y a1 d.length c1,Y a2 p.length c2,Y a3 g.length c3],.bool false,I J (-1),I J 2]) (by simp[aI,results123,go_sem,i,j,r2,r3]) rfl ?_;exact⟨_,_,_,rfl,a.o.last _ _ _ _⟩
 |true=>
  have K1:=HH k1;rcases MH g with aP|⟨x,m,aQ⟩
  ·have ai:=HH aP;clear aP;by_cases hl:(d.length:Int)<n
   ·rw[PY k1 ai.o hl];clear k1;go_enter func123,ntmps123;go_wp2_with fail;rw[←af.o];refine(Ht n q _ _ _ d p g W0 HD.o HP.o HG.o WP.o WG.o az aB aA).mono ?_;rintro e w1 ⟨b,aK,aM,aL,rfl,c,ab,k,s,l,b1⟩;obtain⟨a1,c1,rfl⟩:=Ty.shape k;obtain⟨a2,c2,rfl⟩:=Ty.shape s;obtain⟨a3,c3,rfl⟩:=Ty.shape l;rw[K1.o];have a:=HH (AM.new af.o c ab k s l b1);clear c ab k s l b1;obtain⟨M,N,P,Q,R,S,V,W⟩:=Az a.o.arg;obtain⟨i,j,r2,r3,r4,r5,r6,r7⟩:=Az a.o.res;obtain⟨D,u,E,y,F,H,K,L⟩:=Az a.o.obj;have z:=Aa a.o.arg;have t:=Aa a.o.res;have C:=Aa a.o.obj;have c:=a.o.ge;have A:b≠w.heap.size+1:=by omega
    have B:w.heap.size+1≠b:=by omega
    go_wp2_with fail;refine(KN b 3 _ (w.heap.size+2) _ w1 a.o.obj rfl (ai.o ▸ a.o.tg)).mono ?_;rintro e w2 ⟨rfl,b2⟩;obtain⟨f,h⟩:=H2 ((a.o.next b2).alloc (T #[I J (-1),I J 0,I U 0] 161)) (a.o.next b2);clear b2 a;clear M N P Q R S V W i j r2 r3 r4 r5 r6 r7 D u E y F H K L z t C c A B;obtain⟨M,N,P,Q,R,S,V,W⟩:=Az h.o.arg;obtain⟨i,j,r2,r3,r4,r5,r6,r7⟩:=Az h.o.res;obtain⟨D,u,E,y,F,H,K,L⟩:=Az h.o.obj;have z:=Aa h.o.arg;have t:=Aa h.o.res;have C:=Aa h.o.obj;have c:=h.o.ge;have A:b≠w.heap.size+1:=by omega
    have B:w.heap.size+1≠b:=by omega
    clear h;go_wp2_with fail
    go_quiet (fail)
    go_wp2_with fail;refine(Ns b n v _ _ _ (w.heap.size+2) d _ (f.o.drewN _).obj (f.o.drewN _).td f.o.ge (by omega)).mono ?_;rintro e w3 hs;obtain⟨v3,rfl,aG⟩:=(f.o.drewN _).store hs;obtain⟨a4,c4,rfl⟩:=Ty.shape aG.td;have X:=HH aG;clear hs aG f;clear M N P Q R S V W i j r2 r3 r4 r5 r6 r7 D u E y F H K L z t C c A B;obtain⟨M,N,P,Q,R,S,V,W⟩:=Az X.o.arg;obtain⟨i,j,r2,r3,r4,r5,r6,r7⟩:=Az X.o.res;obtain⟨D,u,E,y,F,H,K,L⟩:=Az X.o.obj;have z:=Aa X.o.arg;have t:=Aa X.o.res;have C:=Aa X.o.obj;have c:=X.o.ge;have A:b≠w.heap.size+1:=by omega
    have B:w.heap.size+1≠b:=by omega
    generalize (d++ [v]).length=m4 at X u ⊢;go_wp2_with fail;refine am (v:=.tuple #[.agg #[I J n,Y a4 m4 c4,Y a2 p.length c2,Y a3 g.length c3],.bool true,I J (-1),I J 0]) (by simp[aI,results123,go_sem,i,j,r2,r3]) rfl ?_;exact⟨_,_,_,rfl,X.o.fin rfl rfl ai.o _ _ _ _⟩
   ·rw[Qa k1 ai.o hl];clear k1;go_enter func123,ntmps123;go_wp2_with fail;rw[←af.o];refine(Ht n q _ _ _ d p g W0 HD.o HP.o HG.o WP.o WG.o az aB aA).mono ?_;rintro e w1 ⟨b,aK,aM,aL,rfl,c,ab,k,s,l,b1⟩;obtain⟨a1,c1,rfl⟩:=Ty.shape k;obtain⟨a2,c2,rfl⟩:=Ty.shape s;obtain⟨a3,c3,rfl⟩:=Ty.shape l;rw[K1.o];have a:=HH (AM.new af.o c ab k s l b1);clear c ab k s l b1;obtain⟨M,N,P,Q,R,S,V,W⟩:=Az a.o.arg;obtain⟨i,j,r2,r3,r4,r5,r6,r7⟩:=Az a.o.res;obtain⟨D,u,E,y,F,H,K,L⟩:=Az a.o.obj;have z:=Aa a.o.arg;have t:=Aa a.o.res;have C:=Aa a.o.obj;have c:=a.o.ge;have A:b≠w.heap.size+1:=by omega
    have B:w.heap.size+1≠b:=by omega
    go_wp2_with fail;refine(KN b 3 _ (w.heap.size+2) _ w1 a.o.obj rfl (ai.o ▸ a.o.tg)).mono ?_;rintro e w2 ⟨rfl,b2⟩;obtain⟨f,h⟩:=H2 ((a.o.next b2).alloc (T #[I J (-1),I J 0,I U 0] 161)) (a.o.next b2);clear b2 a;clear M N P Q R S V W i j r2 r3 r4 r5 r6 r7 D u E y F H K L z t C c A B;obtain⟨M,N,P,Q,R,S,V,W⟩:=Az h.o.arg;obtain⟨i,j,r2,r3,r4,r5,r6,r7⟩:=Az h.o.res;obtain⟨D,u,E,y,F,H,K,L⟩:=Az h.o.obj;have z:=Aa h.o.arg;have t:=Aa h.o.res;have C:=Aa h.o.obj;have c:=h.o.ge;have A:b≠w.heap.size+1:=by omega
    have B:w.heap.size+1≠b:=by omega
    clear h;go_wp2_with fail
    go_quiet (fail)
    go_wp2_with fail;refine(JV _ p ⟨q,r,v⟩ _ (f.o.drewN _).tp.rd (by omega)).mono ?_;rintro e w3 ⟨v3,rfl,aH,aO⟩;obtain⟨a4,c4,rfl⟩:=Bq aH;have ae:=HH ((f.o.drewN _).next aO);have X:=HH (ae.o.Yl (Ty.mono (Ty.Bw aH) (f.o.drewN _).sz));clear aH aO f;clear M N P Q R S V W i j r2 r3 r4 r5 r6 r7 D u E y F H K L z t C c A B;obtain⟨M,N,P,Q,R,S,V,W⟩:=Az ae.o.arg;obtain⟨i,j,r2,r3,r4,r5,r6,r7⟩:=Az ae.o.res;obtain⟨D,u,E,y,F,H,K,L⟩:=Az ae.o.obj;have z:=Aa ae.o.arg;have t:=Aa ae.o.res;have C:=Aa ae.o.obj;have c:=ae.o.ge;have A:b≠w.heap.size+1:=by omega
    have B:w.heap.size+1≠b:=by omega
    clear ae;generalize (Cl p ⟨q,r,v⟩).length=m4 at X ⊢;go_wp2_with fail;refine am (v:=.tuple #[.agg #[I J n,Y a1 d.length c1,Y a4 m4 c4,Y a3 g.length c3],.bool false,I J (-1),I J 0]) (by simp[aI,results123,go_sem,i,j,r2,r3]) rfl ?_;exact⟨_,_,_,rfl,X.o.fin rfl rfl ai.o _ _ _ _⟩
  ·have aN:=HH aQ;clear aQ;rw[Qb k1 aN.o];clear k1;go_enter func123,ntmps123;go_wp2_with fail;rw[←af.o];refine(Ht n q _ _ _ d p g W0 HD.o HP.o HG.o WP.o WG.o az aB aA).mono ?_;rintro e w1 ⟨b,aK,aM,aL,rfl,c,ab,k,s,l,b1⟩;obtain⟨a1,c1,rfl⟩:=Ty.shape k;obtain⟨a2,c2,rfl⟩:=Ty.shape s;obtain⟨a3,c3,rfl⟩:=Ty.shape l;rw[K1.o];have a:=HH (AM.new af.o c ab k s l b1);clear c ab k s l b1;obtain⟨M,N,P,Q,R,S,V,W⟩:=Az a.o.arg;obtain⟨i,j,r2,r3,r4,r5,r6,r7⟩:=Az a.o.res;obtain⟨D,u,E,y,F,H,K,L⟩:=Az a.o.obj;have z:=Aa a.o.arg;have t:=Aa a.o.res;have C:=Aa a.o.obj;have c:=a.o.ge;have A:b≠w.heap.size+1:=by omega
   have B:w.heap.size+1≠b:=by omega
   go_wp2_with fail;refine(Mj b 3 _ (w.heap.size+2) _ x m w1 a.o.obj rfl (aN.o ▸ a.o.tg)).mono ?_;rintro e w2 ⟨v4,rfl,ho,ht,aR⟩;obtain⟨a4,c4,rfl⟩:=Ty.shape ht;have f:=HH (a.o.Ux ho ht aR);clear ho ht aR a;clear M N P Q R S V W i j r2 r3 r4 r5 r6 r7 D u E y F H K L z t C c A B;obtain⟨M,N,P,Q,R,S,V,W⟩:=Az f.o.arg;obtain⟨i,j,r2,r3,r4,r5,r6,r7⟩:=Az f.o.res;obtain⟨D,u,E,y,F,H,K,L⟩:=Az f.o.obj;have z:=Aa f.o.arg;have t:=Aa f.o.res;have C:=Aa f.o.obj;have c:=f.o.ge;have A:b≠w.heap.size+1:=by omega
   have B:w.heap.size+1≠b:=by omega
   generalize m.length=m4 at f y ⊢;go_wp2_with fail
   go_region
   all_goals
    go_wp2_with fail;refine am (v:=.tuple #[.agg #[I J n,Y a1 d.length c1,Y a2 p.length c2,Y a4 m4 c4],.bool true,I J x.proc,I J 0]) (by simp[aI,results123,go_sem,i,j,r2,r3,t]) rfl ?_;exact⟨_,_,_,rfl,f.o.Mi rfl rfl rfl _ _ _ _ _⟩
def Uz(n:Int)(q r:Int)(vd vp vg:aw)(d:List Int)(p g:List Wt)(w:aE)(hd:Af U w 0 vd d)(hp:Al w 0 vp p)(hg:Al w 0 vg g)(wp:Ck p)(wg:Ck g)(aO:d.length≤40000)(aQ:p.length≤40000)(aP:g.length≤40000):
  bq prog 124 #[.agg #[I J n,vd,vp,vg],I J q,I J r] w (NK w n (getBu n d p g q r).1 (getBu n d p g q r).2.1 (getBu n d p g q r).2.2.1 (I U (getBu n d p g q r).2.2.2.1) (.bool (getBu n d p g q r).2.2.2.2.1) (I J (getBu n d p g q r).2.2.2.2.2.1) (I J (getBu n d p g q r).2.2.2.2.2.2)):=by
 obtain⟨ad,cd,rfl,_,_,_⟩:=hd.open_;obtain⟨ap,cp,rfl,_,_,_⟩:=hp.open_;obtain⟨ag,cg,rfl,_,_,_⟩:=hg.open_;obtain⟨W0,aV⟩:=ex ((w.alloc (T #[I J n,Y ad d.length cd,Y ap p.length cp,Y ag g.length cg] 111)).alloc (T #[I J 0,Y O 0 0,Y O 0 0,Y O 0 0] 111));have B0:Hq (Bl w W0):=by subst aV;exact((aF _ w).alloc (ay _) _).alloc (by simp) _
 obtain⟨HD,HP,HG,WP,WG,al⟩:=H6 (hd.below B0.o) (hp.below B0.o) (hg.below B0.o) wp wg aV;clear hd hp hg wp wg aV;cases k1:(Ci n d p g && CQ p g q) with
 |false=>
  rw[OI k1];have K1:=HH k1;clear k1;go_enter func124,ntmps124;go_wp2_with fail;rw[←al.o];refine(Ht n q _ _ _ d p g W0 HD.o HP.o HG.o WP.o WG.o aO aQ aP).mono ?_;rintro e w1 ⟨c,a8,ba,a9,rfl,f,af,X,ab,aa,b1⟩;obtain⟨a1,c1,rfl⟩:=Ty.shape X;obtain⟨a2,c2,rfl⟩:=Ty.shape ab;obtain⟨a3,c3,rfl⟩:=Ty.shape aa;rw[K1.o];have a:=HH (AM.new al.o f af X ab aa b1);clear f af X ab aa b1;obtain⟨M,N,P,Q,R,S,V,W⟩:=Az a.o.arg;obtain⟨h,i,r2,r3,r4,r5,r6,r7⟩:=Az a.o.res;obtain⟨D,s,u,E,F,H,K,L⟩:=Az a.o.obj;have z:=Aa a.o.arg;have l:=Aa a.o.res;have C:=Aa a.o.obj;have f:=a.o.ge;have A:c≠w.heap.size+1:=by omega
  have B:w.heap.size+1≠c:=by omega
  go_wp2_with fail;refine am (v:=.tuple #[.agg #[I J n,Y a1 d.length c1,Y a2 p.length c2,Y a3 g.length c3],I U 0,.bool false,I J (-1),I J 2]) (by simp[aI,results124,go_sem,h,i,r2,r3]) rfl ?_;exact⟨_,_,_,rfl,a.o.last _ _ _ _⟩
 |true=>
  have K1:=HH k1;rcases MH d with aN|⟨y,t,ar⟩
  ·have bc:=HH aN;have hz:(d.length==0)=true:=by simp[aN]
   have bD:((d.length:Int)==0)=true:=by simp[aN]
   rw[OL k1 bc.o];clear k1 aN;go_enter func124,ntmps124;go_wp2_with fail;rw[←al.o];refine(Ht n q _ _ _ d p g W0 HD.o HP.o HG.o WP.o WG.o aO aQ aP).mono ?_;rintro e w1 ⟨c,a8,ba,a9,rfl,f,af,X,ab,aa,b1⟩;obtain⟨a1,c1,rfl⟩:=Ty.shape X;obtain⟨a2,c2,rfl⟩:=Ty.shape ab;obtain⟨a3,c3,rfl⟩:=Ty.shape aa;rw[K1.o];have a:=HH (AM.new al.o f af X ab aa b1);clear f af X ab aa b1;obtain⟨M,N,P,Q,R,S,V,W⟩:=Az a.o.arg;obtain⟨h,i,r2,r3,r4,r5,r6,r7⟩:=Az a.o.res;obtain⟨D,s,u,E,F,H,K,L⟩:=Az a.o.obj;have z:=Aa a.o.arg;have l:=Aa a.o.res;have C:=Aa a.o.obj;have f:=a.o.ge;have A:c≠w.heap.size+1:=by omega
   have B:w.heap.size+1≠c:=by omega
   go_wp2_with fail;refine(JV _ g ⟨q,r,0⟩ _ a.o.tg.rd (by omega)).mono ?_;rintro e w3 ⟨v3,rfl,aY,be⟩;obtain⟨a4,c4,rfl⟩:=Bq aY;have ak:=HH (a.o.next be);have b:=HH (ak.o.Yk (Ty.mono (Ty.Bw aY) a.o.sz));clear aY be a;clear M N P Q R S V W h i r2 r3 r4 r5 r6 r7 D s u E F H K L z l C f A B;obtain⟨M,N,P,Q,R,S,V,W⟩:=Az ak.o.arg;obtain⟨h,i,r2,r3,r4,r5,r6,r7⟩:=Az ak.o.res;obtain⟨D,s,u,E,F,H,K,L⟩:=Az ak.o.obj;have z:=Aa ak.o.arg;have l:=Aa ak.o.res;have C:=Aa ak.o.obj;have f:=ak.o.ge;have A:c≠w.heap.size+1:=by omega
   have B:w.heap.size+1≠c:=by omega
   clear ak;generalize (Cl g ⟨q,r,0⟩).length=m4 at b ⊢;go_wp2_with fail;refine am (v:=.tuple #[.agg #[I J n,Y a1 d.length c1,Y a2 p.length c2,Y a4 m4 c4],I U 0,.bool false,I J (-1),I J 0]) (by simp[aI,results124,go_sem,h,i,r2,r3]) rfl ?_;exact⟨_,_,_,rfl,b.o.fin bc.o rfl rfl _ _ _ _⟩
  ·have aj:=HH ar;have hz:(d.length==0)=false:=by simp[ar]
   have bD:((d.length:Int)==0)=false:=by rw[beq_eq_false_iff_ne];have:=congrArg bs ar;simp at this;omega
   clear ar;have bJ:t.length≤40000:=by have:=congrArg bs aj.o;simp at this;omega
   rcases MH p with bf|⟨x,m,bg⟩
   ·have au:=HH bf;clear bf;rw[OJ k1 aj.o au.o];clear k1;go_enter func124,ntmps124;go_wp2_with fail;rw[←al.o];refine(Ht n q _ _ _ d p g W0 HD.o HP.o HG.o WP.o WG.o aO aQ aP).mono ?_;rintro e w1 ⟨c,a8,ba,a9,rfl,f,af,X,ab,aa,b1⟩;obtain⟨a1,c1,rfl⟩:=Ty.shape X;obtain⟨a2,c2,rfl⟩:=Ty.shape ab;obtain⟨a3,c3,rfl⟩:=Ty.shape aa;rw[K1.o];have a:=HH (AM.new al.o f af X ab aa b1);clear f af X ab aa b1;obtain⟨M,N,P,Q,R,S,V,W⟩:=Az a.o.arg;obtain⟨h,i,r2,r3,r4,r5,r6,r7⟩:=Az a.o.res;obtain⟨D,s,u,E,F,H,K,L⟩:=Az a.o.obj;have z:=Aa a.o.arg;have l:=Aa a.o.res;have C:=Aa a.o.obj;have f:=a.o.ge;have A:c≠w.heap.size+1:=by omega
    have B:w.heap.size+1≠c:=by omega
    obtain⟨bd,a7,rfl,ar,bt,bu,y0⟩:=a.o.td.head aj.o;have bw:(1:Int)≤(d.length:Int):=by omega
    have bx:(d.length:Int)≤(c1:Int):=by omega
    have bz:(0:Int)<(d.length:Int):=by omega
    by_cases aB:c1=1
    ·subst aB;have j:=HH (a.o.Lm (a.o.td.QC aj.o rfl));go_wp2_with fail;refine(KN c 2 _ (w.heap.size+2) _ _ j.o.obj rfl (au.o ▸ j.o.tp)).mono ?_;rintro e w2 ⟨rfl,b2⟩;have b:=HH (j.o.next b2);clear b2 a j y0;clear M N P Q R S V W h i r2 r3 r4 r5 r6 r7 D s u E F H K L z l C f A B;obtain⟨M,N,P,Q,R,S,V,W⟩:=Az b.o.arg;obtain⟨h,i,r2,r3,r4,r5,r6,r7⟩:=Az b.o.res;obtain⟨D,s,u,E,F,H,K,L⟩:=Az b.o.obj;have z:=Aa b.o.arg;have l:=Aa b.o.res;have C:=Aa b.o.obj;have f:=b.o.ge;have A:c≠w.heap.size+1:=by omega
     have B:w.heap.size+1≠c:=by omega
     go_wp2_with fail
     go_region
     all_goals
      go_wp2_with fail;refine am (v:=.tuple #[.agg #[I J n,Y (Z ⟨bd,a7,O⟩) 0 0,Y a2 p.length c2,Y a3 g.length c3],I U y,.bool true,I J (-1),I J 0]) (by simp[aI,results124,go_sem,h,i,r2,r3,l]) rfl ?_;exact⟨_,_,_,rfl,b.o.Mi rfl au.o rfl _ _ _ _ _⟩
    ·have j:=HH (a.o.Lm (a.o.td.L5 aj.o aB));go_wp2_with fail;refine(KN c 2 _ (w.heap.size+2) _ _ j.o.obj rfl (au.o ▸ j.o.tp)).mono ?_;rintro e w2 ⟨rfl,b2⟩;have b:=HH (j.o.next b2);clear b2 a j y0;clear M N P Q R S V W h i r2 r3 r4 r5 r6 r7 D s u E F H K L z l C f A B;obtain⟨M,N,P,Q,R,S,V,W⟩:=Az b.o.arg;obtain⟨h,i,r2,r3,r4,r5,r6,r7⟩:=Az b.o.res;obtain⟨D,s,u,E,F,H,K,L⟩:=Az b.o.obj;have z:=Aa b.o.arg;have l:=Aa b.o.res;have C:=Aa b.o.obj;have f:=b.o.ge;have A:c≠w.heap.size+1:=by omega
     have B:w.heap.size+1≠c:=by omega
     go_wp2_with fail
     go_region
     all_goals
      go_wp2_with fail;refine am (v:=.tuple #[.agg #[I J n,Y (Z ⟨bd,a7+1,O⟩) (d.length-1) (c1-1),Y a2 p.length c2,Y a3 g.length c3],I U y,.bool true,I J (-1),I J 0]) (by simp[aI,results124,go_sem,h,i,r2,r3,l]) rfl ?_;exact⟨_,_,_,rfl,b.o.Mi rfl au.o rfl _ _ _ _ _⟩
   ·have aS:=HH bg;clear bg;rw[OM k1 aj.o aS.o];clear k1;go_enter func124,ntmps124;go_wp2_with fail;rw[←al.o];refine(Ht n q _ _ _ d p g W0 HD.o HP.o HG.o WP.o WG.o aO aQ aP).mono ?_;rintro e w1 ⟨c,a8,ba,a9,rfl,f,af,X,ab,aa,b1⟩;obtain⟨a1,c1,rfl⟩:=Ty.shape X;obtain⟨a2,c2,rfl⟩:=Ty.shape ab;obtain⟨a3,c3,rfl⟩:=Ty.shape aa;rw[K1.o];have a:=HH (AM.new al.o f af X ab aa b1);clear f af X ab aa b1;obtain⟨M,N,P,Q,R,S,V,W⟩:=Az a.o.arg;obtain⟨h,i,r2,r3,r4,r5,r6,r7⟩:=Az a.o.res;obtain⟨D,s,u,E,F,H,K,L⟩:=Az a.o.obj;have z:=Aa a.o.arg;have l:=Aa a.o.res;have C:=Aa a.o.obj;have f:=a.o.ge;have A:c≠w.heap.size+1:=by omega
    have B:w.heap.size+1≠c:=by omega
    obtain⟨bd,a7,rfl,ar,bt,bu,y0⟩:=a.o.td.head aj.o;have bw:(1:Int)≤(d.length:Int):=by omega
    have bx:(d.length:Int)≤(c1:Int):=by omega
    have bz:(0:Int)<(d.length:Int):=by omega
    by_cases aB:c1=1
    ·subst aB;have j:=HH (a.o.Lm (a.o.td.QC aj.o rfl));go_wp2_with fail;refine(Mj c 2 _ (w.heap.size+2) _ x m _ j.o.obj rfl (aS.o ▸ j.o.tp)).mono ?_;rintro e w2 ⟨v4,rfl,ho,ht,aC⟩;obtain⟨a4,c4,rfl⟩:=Ty.shape ht;have b:=HH (j.o.O9 ho ht aC);clear ho ht aC a j y0;clear M N P Q R S V W h i r2 r3 r4 r5 r6 r7 D s u E F H K L z l C f A B;obtain⟨M,N,P,Q,R,S,V,W⟩:=Az b.o.arg;obtain⟨h,i,r2,r3,r4,r5,r6,r7⟩:=Az b.o.res;obtain⟨D,s,u,E,F,H,K,L⟩:=Az b.o.obj;have z:=Aa b.o.arg;have l:=Aa b.o.res;have C:=Aa b.o.obj;have f:=b.o.ge;have A:c≠w.heap.size+1:=by omega
     have B:w.heap.size+1≠c:=by omega
     obtain⟨ac,V3⟩:=H2 (b.o.alloc (T #[I J x.proc,I J x.prio,I U x.val] 161)) (av w2 (T #[I J x.proc,I J x.prio,I U x.val] 161));have a0:w2.heap.size≠c:=by omega
     have bA:w2.heap.size≠w.heap.size+1:=by omega
     generalize m.length=m4 at b ac u ⊢;go_upto_region 11 with (fail)
     go_region_with (go_at_call 162;refine(Ns c n x.val _ _ _ (w.heap.size+2) t _ ac.o.drew.obj ac.o.drew.td ac.o.ge (by omega)).mono ?_;rintro e w3 hs;obtain⟨v5,rfl,ao⟩:=ac.o.drew.store hs;obtain⟨_,_,_,_,_,_,hk⟩:=hs;have V4:=HH (hk w2.heap.size _ _ _ a0 V3.o (by decide));obtain⟨a5,c5,rfl⟩:=Ty.shape ao.td;have k:=HH ao;clear ao hk)
     all_goals
      clear b ac V3;clear M N P Q R S V W h i r2 r3 r4 r5 r6 r7 D s u E F H K L z l C f A B;obtain⟨M,N,P,Q,R,S,V,W⟩:=Az k.o.arg;obtain⟨h,i,r2,r3,r4,r5,r6,r7⟩:=Az k.o.res;obtain⟨D,s,u,E,F,H,K,L⟩:=Az k.o.obj;have z:=Aa k.o.arg;have l:=Aa k.o.res;have C:=Aa k.o.obj;have f:=k.o.ge;have A:c≠w.heap.size+1:=by omega
      have B:w.heap.size+1≠c:=by omega
      obtain⟨v0,v1,v2,_,_,_⟩:=Aj V4.o;have bB:=Aa V4.o;generalize (t++ [x.val]).length=m5 at k s ⊢;go_wp2_with fail
      go_region
      all_goals
       go_wp2_with fail;refine am (v:=.tuple #[.agg #[I J n,Y a5 m5 c5,Y a4 m4 c4,Y a3 g.length c3],I U y,.bool true,I J x.proc,I J 0]) (by simp[aI,results124,go_sem,h,i,r2,r3]) rfl ?_;exact⟨_,_,_,rfl,k.o.O5 rfl rfl rfl _ _ _ _⟩
    ·have j:=HH (a.o.Lm (a.o.td.L5 aj.o aB));go_wp2_with fail;refine(Mj c 2 _ (w.heap.size+2) _ x m _ j.o.obj rfl (aS.o ▸ j.o.tp)).mono ?_;rintro e w2 ⟨v4,rfl,ho,ht,aC⟩;obtain⟨a4,c4,rfl⟩:=Ty.shape ht;have b:=HH (j.o.O9 ho ht aC);clear ho ht aC a j y0;clear M N P Q R S V W h i r2 r3 r4 r5 r6 r7 D s u E F H K L z l C f A B;obtain⟨M,N,P,Q,R,S,V,W⟩:=Az b.o.arg;obtain⟨h,i,r2,r3,r4,r5,r6,r7⟩:=Az b.o.res;obtain⟨D,s,u,E,F,H,K,L⟩:=Az b.o.obj;have z:=Aa b.o.arg;have l:=Aa b.o.res;have C:=Aa b.o.obj;have f:=b.o.ge;have A:c≠w.heap.size+1:=by omega
     have B:w.heap.size+1≠c:=by omega
     obtain⟨ac,V3⟩:=H2 (b.o.alloc (T #[I J x.proc,I J x.prio,I U x.val] 161)) (av w2 (T #[I J x.proc,I J x.prio,I U x.val] 161));have a0:w2.heap.size≠c:=by omega
     have bA:w2.heap.size≠w.heap.size+1:=by omega
     generalize m.length=m4 at b ac u ⊢;go_upto_region 11 with (fail)
     go_region_with (go_at_call 162;refine(Ns c n x.val _ _ _ (w.heap.size+2) t _ ac.o.drew.obj ac.o.drew.td ac.o.ge (by omega)).mono ?_;rintro e w3 hs;obtain⟨v5,rfl,ao⟩:=ac.o.drew.store hs;obtain⟨_,_,_,_,_,_,hk⟩:=hs;have V4:=HH (hk w2.heap.size _ _ _ a0 V3.o (by decide));obtain⟨a5,c5,rfl⟩:=Ty.shape ao.td;have k:=HH ao;clear ao hk)
     all_goals
      clear b ac V3;clear M N P Q R S V W h i r2 r3 r4 r5 r6 r7 D s u E F H K L z l C f A B;obtain⟨M,N,P,Q,R,S,V,W⟩:=Az k.o.arg;obtain⟨h,i,r2,r3,r4,r5,r6,r7⟩:=Az k.o.res;obtain⟨D,s,u,E,F,H,K,L⟩:=Az k.o.obj;have z:=Aa k.o.arg;have l:=Aa k.o.res;have C:=Aa k.o.obj;have f:=k.o.ge;have A:c≠w.heap.size+1:=by omega
      have B:w.heap.size+1≠c:=by omega
      obtain⟨v0,v1,v2,_,_,_⟩:=Aj V4.o;have bB:=Aa V4.o;generalize (t++ [x.val]).length=m5 at k s ⊢;go_wp2_with fail
      go_region
      all_goals
       go_wp2_with fail;refine am (v:=.tuple #[.agg #[I J n,Y a5 m5 c5,Y a4 m4 c4,Y a3 g.length c3],I U y,.bool true,I J x.proc,I J 0]) (by simp[aI,results124,go_sem,h,i,r2,r3]) rfl ?_;exact⟨_,_,_,rfl,k.o.O5 rfl rfl rfl _ _ _ _⟩
instance :Inhabited Ai:=⟨⟨0,0,0,0⟩⟩
instance :Inhabited St:=⟨⟨0,0,[]⟩⟩
structure CV where
 kind:Int
 o:Bool
 size:Int
 depth:Int
 At:Int
 deriving DecidableEq,Inhabited
structure Eu where
 prio:Int
 period:Int
 Cf:Int
 code:List Ai
 deriving DecidableEq,Inhabited
structure Ad where
 mem:Int
 semas:List Int
 events:Int
 boards:Int
 bufs:List Int
 Ab:List CV
 procs:List Eu
 deriving DecidableEq,Inhabited
structure BA where
 status:Int
 s:St
 since:Int
 release:Int
 deadline:Int
 why:Int
 on:Int
 deriving DecidableEq,Inhabited
structure Ee where
 data:List Int
 at_:Int
 has:Bool
 deriving DecidableEq,Inhabited
structure AO where
 q:List (List Int)
 wait:List Wt
 lost:Int
 deriving DecidableEq,Inhabited
structure AT where
 depth:Int
 data:List Int
 put:List Wt
 get:List Wt
 deriving DecidableEq,Inhabited
structure BE where
 has:Bool
 val:Int
 wait:List Wt
 deriving DecidableEq,Inhabited
structure BU where
 count:Int
 wait:List Wt
 deriving DecidableEq,Inhabited
structure C3 where
 up:Bool
 wait:List Wt
 deriving DecidableEq,Inhabited
structure Ae where
 mode:Int
 clock:Int
 mem:List Int
 procs:List BA
 samples:List Ee
 queues:List AO
 bufs:List AT
 boards:List BE
 semas:List BU
 events:List C3
 deriving DecidableEq,Inhabited
structure CG where
 proc:Int
 fault:Int
 code:Int
 deriving DecidableEq,Inhabited
def DZ(k:CV)(x:Ee):Bool:=
 k.kind==1 && k.depth==0 && (decide (1≤k.size) && decide (k.size≤64)) && (decide (0≤k.At) && decide (k.At≤1073741824)) &&
 (if x.has then(decide (1≤(x.data.length:Int)) && decide ((x.data.length:Int)≤k.size)) && (decide (0≤x.at_) && decide (x.at_≤1073741824)) else x.data.length==0 && x.at_==0)
def Ff(k:CV)(x:Ee)(now:Int):Bool:=DZ k x && (decide (x.at_≤now) && decide (now≤1073741824))
def writeSa(k:CV)(x:Ee)(now:Int)(m:List Int):Ee×Int:=
 if Ff k x now=false∨m=[] then(x,2) else if k.size<(m.length:Int) then(x,3) else(⟨m,now,true⟩,0)
def DN(k:CV)(x:Ee)(now:Int):List Int×Bool×Int:=
 if Ff k x now=false then([],false,2) else if x.has=false then([],false,6) else(x.data,decide (now-x.at_≤k.At),0)
def EU:BA:=⟨1,⟨0,0,[0,0,0,0]⟩,0,-1,-1,0,0⟩
def Hm(d:Ad)(mode:Int)(s:Ae):Ae:=
 {s with mode:=mode,procs:=an d.procs.length EU,samples:=an d.Ab.length ⟨[],0,false⟩,queues:=an d.Ab.length ⟨[],[],0⟩,bufs:=d.bufs.map fun n=>⟨n,[],[],[]⟩,boards:=an d.boards.toNat ⟨false,0,[]⟩,semas:=d.semas.map fun n=>⟨n,[]⟩,events:=an d.events.toNat ⟨false,[]⟩}
def DB(d:Ad):Ae:=Hm d 1 ⟨0,0,an d.mem.toNat 0,[],[],[],[],[],[],[]⟩
def AO.leave(p:Int)(x:AO):AO:={x with wait:=leaveW x.wait p}
def AT.leave(p:Int)(x:AT):AT:={x with put:=leaveW x.put p,get:=leaveW x.get p}
def BE.leave(p:Int)(x:BE):BE:={x with wait:=leaveW x.wait p}
def BU.leave(p:Int)(x:BU):BU:={x with wait:=leaveW x.wait p}
def C3.leave(p:Int)(x:C3):C3:={x with wait:=leaveW x.wait p}
def CX(p:Int)(s:Ae):Ae:=
 {s with queues:=s.queues.map (AO.leave p),bufs:=s.bufs.map (AT.leave p),boards:=s.boards.map (BE.leave p),semas:=s.semas.map (BU.leave p),events:=s.events.map (C3.leave p)}
def afterI(t n:Int):Int:=if n=0 then-1 else t+n
def FD(d:Ad)(i:Nat)(t:Int)(s:Ae):Ae:=
 let a:=CX i s
 {a with procs:=a.procs.set i ⟨2,⟨0,0,[0,0,0,0]⟩,t,afterI t (d.procs.getD i default).period,afterI t (d.procs.getD i default).Cf,0,0⟩}
def readyR(t:Int)(x:BA):BA:={x with status:=2,since:=t,why:=0,on:=0}
def En(i:Nat)(t:Int)(s:Ae):Ae:={s with procs:=s.procs.set i (readyR t (s.procs.getD i default))}
def Hp(d:Ad)(i:Nat)(data:List Int)(x:BA):BA:={x with s:=DS (d.procs.getD i default).code x.s data}
def Co(d:Ad)(i:Nat)(data:List Int)(s:Ae):Ae:={s with procs:=s.procs.set i (Hp d i data (s.procs.getD i default))}
def CT(d:Ad)(t:Int)(data:List Int)(s:Ae)(i:Int):Ae:=if 0≤i then En i.toNat t (Co d i.toNat data s) else s
def wakeP(d:Ad)(t:Int)(data:List Int)(l:List Int)(s:Ae):Ae:=l.foldl (CT d t data) s
def EL(d:Ad)(s:Ae)(a b:Nat):Bool:=
 if(d.procs.getD a default).prio≠(d.procs.getD b default).prio then decide ((d.procs.getD b default).prio<(d.procs.getD a default).prio) else decide ((s.procs.getD a default).since<(s.procs.getD b default).since)
def CL(d:Ad)(s:Ae)(a:Int)(i:Nat):Int:=if(s.procs.getD i default).status=2∧(a<0∨EL d s i a.toNat=true) then(i:Int) else a
def Hw(d:Ad)(s:Ae):Int:=(List.range s.procs.length).foldl (CL d s) (-1)
def Dg(d:Ad)(now:Int)(i:Nat)(x:BA):BA:=
 if x.status=3∧x.why=14∧x.release≤now then {readyR now x with deadline:=afterI x.release (d.procs.getD i default).Cf,release:=x.release+(d.procs.getD i default).period} else x
def Dl(d:Ad)(now:Int)(s:Ae):Ae:={s with procs:=s.procs.mapIdx (Dg d now)}
def GP(now:Int)(x:BA):Bool:=decide (0≤x.deadline) && decide (x.deadline≤now)
def CK(now:Int)(x:BA):BA:=if GP now x then {x with deadline:=-1} else x
def C7(now:Int):Nat→List BA→List CG
 | _,[]=> []
 |i,x::l=>(if GP now x then [⟨i,1,0⟩] else [])++C7 now (i+1) l
def CP(now:Int)(s:Ae):Ae×List CG:=({s with procs:=s.procs.map (CK now)},C7 now 0 s.procs)
section
variable (d:Ad) (i:Nat) (now:Int) (a:Ac) (s:Ae)
def portA:CV:=d.Ab.getD a.a.toNat default
def prioA:Int:=(d.procs.getD i default).prio
def Q9:Ae:={s with mem:=s.mem.set a.a.toNat (a.b%256)}
def quA:AO:=s.queues.getD a.a.toNat default
def EJ:Ae:=
 if(portA d a).kind=1 then {s with samples:=s.samples.set a.a.toNat (writeSa (portA d a) (s.samples.getD a.a.toNat default) now a.data).1}
 else let r:=sendQ (portA d a).kind (portA d a).size (portA d a).depth (portA d a).At (quA a s).q (quA a s).wait (quA a s).lost a.data
  {s with queues:=s.queues.set a.a.toNat ⟨r.1,r.2.1,r.2.2.1⟩}
def Fg:Ae×Bool:=
 if(portA d a).kind=2 then
  let r:=recvQ (portA d a).kind (portA d a).size (portA d a).depth (portA d a).At (quA a s).q (quA a s).wait (quA a s).lost i (prioA d i);let b:={s with queues:=s.queues.set a.a.toNat ⟨r.1,r.2.1,(quA a s).lost⟩}
  if r.2.2.2.1 then(Co d i r.2.2.1 b,true) else(b,false)
 else
  let r:=DN (portA d a) (s.samples.getD a.a.toNat default) now
  (Co d i (if r.2.1=true∧r.2.2=0 then r.1 else []) s,true)
def Ia:BU:=s.semas.getD a.a.toNat default
def J4:Ae×Bool:=
 let r:=Eb (Ia a s).count (Ia a s).wait i (prioA d i)
 ({s with semas:=s.semas.set a.a.toNat ⟨r.1,r.2.1⟩},r.2.2.1)
def Kt:Ae:=
 let r:=Dm (Ia a s).count (Ia a s).wait
 wakeP d now [] [r.2.2.1] {s with semas:=s.semas.set a.a.toNat ⟨r.1,r.2.1⟩}
def EW:C3:=s.events.getD a.a.toNat default
def Kk:Ae:=
 let r:=DC (EW a s).up (EW a s).wait
 wakeP d now [] r.2.2.1 {s with events:=s.events.set a.a.toNat ⟨r.1,r.2.1⟩}
def Kc:Ae:={s with events:=s.events.set a.a.toNat ⟨(Iz (EW a s).up (EW a s).wait).1,(EW a s).wait⟩}
def J2:Ae×Bool:=
 let r:=Es (EW a s).up (EW a s).wait i (prioA d i)
 ({s with events:=s.events.set a.a.toNat ⟨(EW a s).up,r.1⟩},r.2.1)
def buA:AT:=s.bufs.getD a.a.toNat default
def Jn:Ae×Bool:=
 let r:=Cb (buA a s).depth (buA a s).data (buA a s).put (buA a s).get i (prioA d i) (a.data.getD 0 0)
 (wakeP d now a.data [r.2.2.2.2.1] {s with bufs:=s.bufs.set a.a.toNat ⟨(buA a s).depth,r.1,r.2.1,r.2.2.1⟩},r.2.2.2.1)
def Gt:Ae×Bool:=
 let r:=getBu (buA a s).depth (buA a s).data (buA a s).put (buA a s).get i (prioA d i);let b:=wakeP d now [] [r.2.2.2.2.2.1] {s with bufs:=s.bufs.set a.a.toNat ⟨(buA a s).depth,r.1,r.2.1,r.2.2.1⟩}
 if r.2.2.2.2.1 then(Co d i [r.2.2.2.1] b,true) else(b,false)
def boA:BE:=s.boards.getD a.a.toNat default
def Ks:Ae:=
 let r:=Dh (boA a s).has (boA a s).val (boA a s).wait (a.data.getD 0 0)
 wakeP d now a.data r.2.2.2.1 {s with boards:=s.boards.set a.a.toNat ⟨r.1,r.2.1,r.2.2.1⟩}
def Gu:Ae×Bool:=
 let r:=lookBd (boA a s).has (boA a s).val (boA a s).wait i (prioA d i);let b:={s with boards:=s.boards.set a.a.toNat ⟨(boA a s).has,(boA a s).val,r.1⟩}
 if r.2.2.1 then(Co d i [r.2.1] b,true) else(b,false)
def Ky:Ae:=let r:=FN (boA a s).has (boA a s).val (boA a s).wait;{s with boards:=s.boards.set a.a.toNat ⟨r.1,r.2.1,(boA a s).wait⟩}
def stopA:Ae:={s with procs:=s.procs.set i EU}
def nextA:Ae×Bool:=
 if(d.procs.getD i default).period=0 then(stopA i s,true) else({s with procs:=s.procs.set i {s.procs.getD i default with deadline:=-1}},false)
def actA:Ae×Bool:=
 match a.kind with
 |1=>(Q9 a s,true)|2=>(EJ d now a s,true)|3=>Fg d i now a s|4=>J4 d i a s|5=>(Kt d now a s,true)|6=>(Kk d now a s,true)
 |7=>(Kc a s,true)|8=>J2 d i a s|9=>Jn d i now a s|10=>Gt d i now a s|11=>(Ks d now a s,true)|12=>Gu d i a s|13=>(Ky a s,true)
 |14=>nextA d i s|16=>(stopA i s,true)| _=>(s,true)
end
def waitR(a:Ac)(x:BA):BA:={x with status:=3,why:=a.kind,on:=a.a}
def EI(d:Ad)(i:Nat)(now:Int)(s:Ae):Ae×Ac:=
 let r:=FZ (d.procs.getD i default).code (s.procs.getD i default).s s.mem;let a:={s with procs:=s.procs.set i {s.procs.getD i default with s:=r.1}};let t:=actA d i now r.2 a
 (if t.2 then t.1 else {t.1 with procs:=t.1.procs.set i (waitR r.2 (t.1.procs.getD i default))},r.2)
structure Im where
 ran:Int
 act:Ac
 faults:List CG
 e:Int
def FE(d:Ad)(t:Int):Nat→Ae→Ae
 |0,s=>s
 |k+1,s=>FD d k t (FE d t k s)
def A3(d:Ad)(now:Int)(s:Ae):Ae×Im:=
 if now<s.clock∨1073741824<now then(s,⟨-1,zeroA,[],2⟩)
 else if s.mode=4 then({s with clock:=now+1},⟨-1,zeroA,[],0⟩)
 else if s.mode=1∨s.mode=2 then(FE d now s.procs.length {s with clock:=now+1,mode:=3},⟨-1,zeroA,[],0⟩)
 else
  let r:=CP now (Dl d now {s with clock:=now+1});let p:=Hw d r.1
  if p<0 then(r.1,⟨p,zeroA,r.2,0⟩)
  else
   let u:=EI d p.toNat now r.1
   (u.1,⟨p,u.2,if u.2.kind=15 then r.2++ [⟨p,u.2.a%256,u.2.b⟩] else r.2,0⟩)
def Ek(d:Ad)(i:Int)(a:Bool):Option CV:=if i<0 then O else match d.Ab[i.toNat]? with|none=>O|some p=>if p.o=a then Z p else O
def Dc(d:Ad)(now a:Int)(data:List Int)(s:Ae):Ae×Int:=
 match Ek d a false with
 |none=>(s,2)
 |some p=>
  if now<s.clock∨1073741824<now∨data=[] then(s,2)
  else if p.size<(data.length:Int) then(s,3)
  else if p.kind=1 then
   let r:=writeSa p (s.samples.getD a.toNat default) now data
   ({s with clock:=now,samples:=s.samples.set a.toNat r.1},r.2)
  else
   let q:=s.queues.getD a.toNat default;let r:=sendQ p.kind p.size p.depth p.At q.q q.wait q.lost data
   (wakeP d now data [r.2.2.2.1] {s with clock:=now,queues:=s.queues.set a.toNat ⟨r.1,r.2.1,r.2.2.1⟩},r.2.2.2.2)
def ET(d:Ad)(a:Int)(s:Ae):Ae×List (List Int)×Int:=
 match Ek d a true with
 |none=>(s,[],2)
 |some _=>
  let q:=s.queues.getD a.toNat default;let x:=s.samples.getD a.toNat default
  ({s with queues:=s.queues.set a.toNat {q with q:=[]},samples:=s.samples.set a.toNat ⟨[],0,false⟩},if x.has then [x.data] else q.q,0)
def Br(d:Ad)(k p:Int)(s:Ae):Ae×Int:=
 if k<1∨6<k∨(k=2∨k=3)∧¬(0≤p∧p≤(s.procs.length:Int)-1) then(s,2)
 else if(k=2∨k=3)∧s.mode≠3 then(s,0)
 else if k=2 then(stopA p.toNat (CX p s),0)
 else if k=3 then(FD d p.toNat s.clock s,0)
 else if k=4 then(Hm d 2 s,0)
 else if k=5 then(Hm d 1 {s with mem:=an s.mem.length 0},0)
 else if k=6 then(Hm d 4 s,0)
 else(s,0)
def Bz(n:Nat)(l:List Wt):Prop:=(l.map (·.proc)).Nodup∧∀ x∈l,0≤x.proc∧x.proc<(n:Int)
def Bf(l:List Int):Prop:=∀ z∈l,0≤z∧z≤255
structure NB(c:Eu):Prop where
 len:c.code.length≤24
 ops:∀ x∈c.code,0≤x.op∧x.op≤255
 prio:0≤c.prio∧c.prio≤255
 period:0≤c.period∧c.period≤1073741824
 Cf:0≤c.Cf∧c.Cf≤1073741824
structure Ik(d:Ad):Prop where
 procs:d.procs.length≤6
 Ab:d.Ab.length≤8
 semas:d.semas.length≤8
 bufs:d.bufs.length≤8
 events:0≤d.events∧d.events≤8
 boards:0≤d.boards∧d.boards≤8
 mem:0≤d.mem∧d.mem≤4096
 pc:∀ c∈d.procs,NB c
structure D5(x:BA):Prop where
 AG:x.s.AG.length=4
 bytes:Bf x.s.AG
 pc:0≤x.s.pc∧x.s.pc≤24
 left:0≤x.s.left∧x.s.left≤2000
 since:0≤x.since∧x.since≤4294967296
 release:-1≤x.release∧x.release≤4294967296
 deadline:-1≤x.deadline∧x.deadline≤4294967296
structure K6(x:Ee):Prop where
 len:x.data.length≤64
 bytes:Bf x.data
 at_:0≤x.at_∧x.at_≤1073741824
structure FK(n:Nat)(x:AO):Prop where
 len:x.q.length≤16
 msg:∀ m∈x.q,m.length≤64∧Bf m
 wait:Bz n x.wait
structure Hc(n:Nat)(x:AT):Prop where
 len:x.data.length≤16
 bytes:Bf x.data
 put:Bz n x.put
 get:Bz n x.get
 ID:∀ y∈x.put,0≤y.val∧y.val≤255
structure Ah(d:Ad)(s:Ae):Prop where
 ok:Ik d
 procs:s.procs.length=d.procs.length
 samples:s.samples.length=d.Ab.length
 queues:s.queues.length=d.Ab.length
 bufs:s.bufs.length=d.bufs.length
 boards:(s.boards.length:Int)=d.boards
 semas:s.semas.length=d.semas.length
 events:(s.events.length:Int)=d.events
 mem:(s.mem.length:Int)=d.mem
 I0:Bf s.mem
 pr:∀ x∈s.procs,D5 x
 sa:∀ x∈s.samples,K6 x
 qu:∀ x∈s.queues,FK d.procs.length x
 bu:∀ x∈s.bufs,Hc d.procs.length x
 bo:∀ x∈s.boards,Bz d.procs.length x.wait
 se:∀ x∈s.semas,Bz d.procs.length x.wait
 ev:∀ x∈s.events,Bz d.procs.length x.wait
 clock:0≤s.clock∧s.clock≤1073741825
def MI:∀ (n:Nat) (l:List Int),l.Nodup→(∀ x∈l,0≤x∧x<(n:Int))→l.length≤n
 |0,l,_,h=>by
  cases l with
  |nil=>simp
  |cons x l=>have:=h x (List.mem_cons_self ..);omega
 |n+1,l,b,h=>by
  by_cases d:(n:Int)∈l
  ·have c:=MI n (l.erase (n:Int)) (b.erase _) (fun x a=>by
    have e:=h x (List.mem_of_mem_erase a);have f:x≠(n:Int):=by
     rintro rfl;exact(b.mem_erase_iff.1 a).1 rfl
    omega)
   rw[List.length_erase_of_mem d] at c;omega
  ·have c:=MI n l b (fun x a=>by
    have e:=h x a;have f:x≠(n:Int):=by
     rintro rfl;exact d a
    omega)
   omega
def Bz.len{n:Nat}{l:List Wt}(h:Bz n l):l.length≤n:=by
 have:=MI n (l.map (·.proc)) h.1 (fun x a=>by
  obtain⟨y,b,rfl⟩:=List.mem_map.1 a;exact h.2 y b)
 simpa using this
def Bz.wf{n:Nat}{l:List Wt}(h:Bz n l)(d:n≤6):Ck l:=fun x c=>by
 have:=h.2 x c;have a:IntKind.i64.min≤x.proc:=by show(-9223372036854775808:Int)≤_;omega
 have b:x.proc≤IntKind.i64.max:=by show _≤(9223372036854775807:Int);omega
 show(decide (IntKind.i64.min≤x.proc) && decide (x.proc≤IntKind.i64.max))=true;rw[decide_eq_true a,decide_eq_true b];rfl
end Go.Proofs.YtiepijihpgijbaaGreatDoor
