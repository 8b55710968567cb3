import Derived.Deep.CutRange
import Derived.Test.YtiepijihpgijbaaGreatDoorQ6
set_option maxHeartbeats 16000000
set_option maxRecDepth 1000000
set_option linter.all false
open Go.Value renaming int→I,slice→Y,pointer→G
open Go.IntKind renaming i64→J,u8→U
open Option renaming some→Z,none→O
open Go.Obj renaming cells→T
open Go renaming heap_alloc_new→aj,World→aM,madeCells→bS,Calls→da,wp_region_quiet_lit→db,Value→dd
open Nat renaming le_trans→ak,le_refl→ao,zero_le→aJ,le_succ→bH,lt_of_lt_of_le→ci,not_lt_zero→dc
open Go.RowKit.Below renaming heap_alloc→aG,refl→aH,heap_setCell→bI
open List renaming getD_eq_getElem?_getD→aK,length_append→aN,append_nil→aP,getElem?_eq_none→bo
open Go.Value.slice renaming injEq→aY
open Go.Lib renaming wpList_append_run→bp
open Bool renaming false_eq_true→b9
open Go.RowKit renaming intOf→cj
namespace Go.Proofs.YtiepijihpgijbaaGreatDoor
open Go.RowKit Tryz
def cU:EG 39:=fun _ _=>by kernel_rfl
def cT(t n:Int)(b:-9000000000≤t)(c:t≤9000000000)(d:-9000000000≤n)(f:n≤9000000000)(w:aM):da prog 39 #[I J t,I J n] w fun e w'=>e=.returned (I J (afterI t n))∧w'=w:=by
 unfold afterI;by_cases a:n=0
 ·rw[if_pos a];go_enter func39,ntmps39;go_wp2;go_ret;exact⟨rfl,rfl⟩
 ·rw[if_neg a];go_enter func39,ntmps39;go_wp2;go_ret;exact⟨rfl,rfl⟩
section
variable {d:Ad} {s:Ae} {now:Int}
def aC(k:Nat):((CP now s).1.procs.getD k default).status=(s.procs.getD k default).status∧((CP now s).1.procs.getD k default).since=(s.procs.getD k default).since:=by
 by_cases a:k<s.procs.length
 ·rw[WI k a];exact⟨(MB _).1,(MB _).2.2.2.1⟩
 ·rw[aK,bo (by rw[WK];omega),aK,bo (by omega)];exact⟨rfl,rfl⟩
def aQ(b:Int)(i:Nat):CL d (CP now s).1 b i=CL d s b i:=by
 unfold CL EL;rw[(aC i).1,(aC i).2,(aC b.toNat).2]
def aI:Hw d (CP now s).1=Hw d s:=by
 unfold Hw;rw[WK]
 congr 1
 funext b i;exact aQ b i
def cK(d:Ad)(s:Ae)(now:Int)(t:Im):Bool:=
 decide (t.ran=Hw d (Dl d now s)) && (decide (t.faults=C7 now 0 (Dl d now s).procs++(if t.act.kind=15 then [⟨Hw d (Dl d now s),t.act.a%256,t.act.b⟩] else [])) && (decide (0≤Hw d (Dl d now s))||decide (t.act.kind=0)))
def aT(i:s.mode=3)(f:s.clock≤now)(g:now≤1073741824):
  (Hw d (Dl d now s)<0∧A3 d now s=(Jr d now s,⟨Hw d (Dl d now s),zeroA,C7 now 0 (Dl d now s).procs,0⟩))∨
  (0≤Hw d (Dl d now s)∧A3 d now s=((EI d (Hw d (Dl d now s)).toNat now (Jr d now s)).1,⟨Hw d (Dl d now s),(EI d (Hw d (Dl d now s)).toNat now (Jr d now s)).2,C7 now 0 (Dl d now s).procs++(if(EI d (Hw d (Dl d now s)).toNat now (Jr d now s)).2.kind=15 then [⟨Hw d (Dl d now s),(EI d (Hw d (Dl d now s)).toNat now (Jr d now s)).2.a%256,(EI d (Hw d (Dl d now s)).toNat now (Jr d now s)).2.b⟩] else []),0⟩)):=by
 have c:Hw d (Jr d now s)=Hw d (Dl d now s):=by
  show Hw d (CP now (Dl d now {s with clock:=now+1})).1=_;rw[aI];rfl
 have e:(CP now (Dl d now {s with clock:=now+1})).2=C7 now 0 (Dl d now s).procs:=rfl;unfold A3;rw[if_neg (by omega),if_neg (by omega),if_neg (by omega)];simp only[];rw[e];show(_∧(if Hw d (Jr d now s)<0 then _ else _)=_)∨(_∧(if Hw d (Jr d now s)<0 then _ else _)=_);rw[c];by_cases h:Hw d (Dl d now s)<0
 ·refine .inl ⟨h,?_⟩;rw[if_pos h];show(Jr d now s,(⟨Hw d (Jr d now s),zeroA,C7 now 0 (Dl d now s).procs,0⟩:Im))=_;rw[c]
 ·refine .inr ⟨by omega,?_⟩;rw[if_neg h];show((EI d (Hw d (Jr d now s)).toNat now (Jr d now s)).1,(⟨Hw d (Jr d now s),(EI d (Hw d (Jr d now s)).toNat now (Jr d now s)).2,if(EI d (Hw d (Jr d now s)).toNat now (Jr d now s)).2.kind=15 then C7 now 0 (Dl d now s).procs++ [⟨Hw d (Jr d now s),(EI d (Hw d (Jr d now s)).toNat now (Jr d now s)).2.a%256,(EI d (Hw d (Jr d now s)).toNat now (Jr d now s)).2.b⟩] else C7 now 0 (Dl d now s).procs,0⟩:Im))=_;rw[c];split
  ·rfl
  ·rw[aP]
def aU(b:s.mode=3)(a:(A3 d now s).2.e=0):s.clock≤now∧now≤1073741824:=by
 by_cases h:now<s.clock∨1073741824<now
 ·unfold A3 at a;rw[if_pos h] at a;exact absurd a (show¬(2:Int)=0 by decide)
 ·omega
def cV(a:(A3 d now s).2.e=0):s.clock≤now∧now≤1073741824:=by
 by_cases h:now<s.clock∨1073741824<now
 ·unfold A3 at a;rw[if_pos h] at a;exact absurd a (show¬(2:Int)=0 by decide)
 ·omega
def cX(a:s.mode=3)(f:(A3 d now s).2.e=0):cK d s now (A3 d now s).2=true:=by
 obtain⟨b,c⟩:=aU a f;rcases aT (d:=d) a b c with ⟨h,e⟩|⟨h,e⟩
 ·rw[e];unfold cK;simp[zeroA]
 ·rw[e];unfold cK;simp[h]
structure aB(s f:Ae)(t:Im)(now:Int):Prop where
 len:f.procs.length=s.procs.length
 dl:∀ k,k<s.procs.length→¬(0≤(f.procs.getD k default).deadline∧(f.procs.getD k default).deadline≤now)
 oth:∀ k,k<s.procs.length→(k:Int)≠t.ran→((f.procs.getD k default).s=(s.procs.getD k default).s∨((s.procs.getD k default).status=3∧(f.procs.getD k default).status=2))∧(f.procs.getD k default).s.pc=(s.procs.getD k default).s.pc
 mem:f.mem=s.mem∨(t.act.kind=1∧∃ j v,f.mem=s.mem.set j v)
def aA:(Jr d now s).procs.length=s.procs.length:=by
 show(CP now (Dl d now {s with clock:=now+1})).1.procs.length=_;rw[WK,Qm]
def aD(k:Nat):((Jr d now s).procs.getD k default).s=(s.procs.getD k default).s:=by
 show((CP now (Dl d now {s with clock:=now+1})).1.procs.getD k default).s=_;rw[Pf,Qn]
def aR(k:Nat)(a:k<s.procs.length)(h:((Jr d now s).procs.getD k default).status=3):(s.procs.getD k default).status=3:=by
 have h:((CP now (Dl d now {s with clock:=now+1})).1.procs.getD k default).status=3:=h;rw[(aC k).1] at h;have h:((Dl d now s).procs.getD k default).status=3:=h;rw[Yy k a] at h;unfold Dg at h;split at h
 ·have h:(2:Int)=3:=h;omega
 ·exact h
def aF(k:Nat)(a:k<s.procs.length):¬(0≤((Jr d now s).procs.getD k default).deadline∧((Jr d now s).procs.getD k default).deadline≤now):=by
 have e:(Jr d now s).procs.getD k default=CK now ((Dl d now {s with clock:=now+1}).procs.getD k default):=WI k (by rw[Qm];exact a);rw[e];unfold CK;split
 ·show¬((0:Int)≤ -1∧_);omega
 ·rename_i h;unfold GP at h;simp only[Bool.and_eq_true,decide_eq_true_eq] at h;exact h
def aV(w:JF d)(h:Good d s)(j:s.mode=3)(t:(A3 d now s).2.e=0):aB s (A3 d now s).1 (A3 d now s).2 now:=by
 obtain⟨o,g⟩:=aU j t;have x:=h.ok.clock;have u:=h.r3 (now:=now) (by omega) g;rcases aT (d:=d) j o g with ⟨l,e⟩|⟨l,e⟩
 ·rw[e];exact⟨aA,aF,fun k a _=>⟨.inl (aD k),by rw[aD k]⟩,.inl rfl⟩
 ·rw[e];have q:=PK d (Dl d now s);rw[Qm] at q;have n:Hw d (Jr d now s)=Hw d (Dl d now s):=by
   show Hw d (CP now (Dl d now {s with clock:=now+1})).1=_;rw[aI];rfl
  have f:=PL d (Jr d now s) (Jr d now s).procs.length (by show 0≤Hw d (Jr d now s);rw[n];exact l);have f:((Jr d now s).procs.getD (Hw d (Jr d now s)).toNat default).status=2:=f;rw[n] at f;have R:=YH (now:=now) w u (i:=(Hw d (Dl d now s)).toNat) (by rw[aA];omega) f (by omega) g;refine⟨by rw[R.len,aA],fun k a=>?_,fun k a v=>?_,R.mem⟩
  ·by_cases c:k=(Hw d (Dl d now s)).toNat
   ·subst c;have r:=aF (d:=d) (now:=now) _ a;rcases R.own with e|e
    ·rw[e];exact r
    ·rw[e];omega
   ·obtain⟨m,b,_⟩:=R.oth k (by rw[aA];exact a) c;rw[b.deadline];exact aF k a
  ·have c:k≠(Hw d (Dl d now s)).toNat:=by
    rintro e;apply v;show(k:Int)=Hw d (Dl d now s);omega
   obtain⟨m,b,p⟩:=R.oth k (by rw[aA];exact a) c;refine⟨?_,by rw[b.pc,aD]⟩;cases m with
   |false=>exact .inl (by rw[b.same rfl,aD])
   |true=>exact .inr ⟨aR k a (p rfl),b.ready rfl⟩
def cY(h:Good d s)(a:s.mode≠3):(A3 d now s).2.ran=-1∧(A3 d now s).2.faults=[]:=by
 unfold A3;split
 ·exact⟨rfl,rfl⟩
 ·split
  ·exact⟨rfl,rfl⟩
  ·split
   ·exact⟨rfl,rfl⟩
   ·have:=h.md;omega
def cW(l:(A3 d now s).2.e=0)(o:JF d)(h:Good d s):(A3 d now s).1.clock=now+1:=by
 obtain⟨g,b⟩:=cV l;by_cases m:s.mode=3
 ·rcases aT (d:=d) m g b with ⟨c,e⟩|⟨c,e⟩
  ·rw[e];rfl
  ·rw[e];have j:=PK d (Dl d now s);rw[Qm] at j;have f:Hw d (Jr d now s)=Hw d (Dl d now s):=by
    show Hw d (CP now (Dl d now {s with clock:=now+1})).1=_;rw[aI];rfl
   have a:=PL d (Jr d now s) (Jr d now s).procs.length (by show 0≤Hw d (Jr d now s);rw[f];exact c);have a:((Jr d now s).procs.getD (Hw d (Jr d now s)).toNat default).status=2:=a;rw[f] at a;have q:=h.ok.clock;exact(YH (now:=now) o (h.r3 (by omega) b) (i:=(Hw d (Dl d now s)).toNat) (by rw[aA];omega) a (by omega) b).clk
 ·unfold A3;rw[if_neg (by omega)];split
  ·rfl
  ·rw[if_pos (by have:=h.md;omega)];have n:∀ k (s0:Ae),(FE d now k s0).clock=s0.clock:=fun k s0=>by
    induction k with
    |zero=>rfl
    |succ k p=>exact p
   exact n _ _
end
def cJ(d:Ad)(r:Ae)(k:Nat):Int:=(List.range k).foldl (CL d r) (-1)
section
variable {d:Ad} {s r:Ae} {now:Int} {k n:Nat}
def cL:cJ d r (k+1)=CL d r (cJ d r k) k:=by
 unfold cJ;rw[List.range_succ,List.foldl_append];rfl
def cP(k:Nat):-1≤cJ d r k∧cJ d r k<(k:Int):=by
 induction k with
 |zero=>exact⟨Int.le_refl _,by show(-1:Int)<0;decide⟩
 |succ k a=>
  rw[cL];unfold CL;split<;>omega
def cO(h:r.procs.length=n):cJ d r n=Hw d r:=by
 rw[←h];rfl
end
def cN{w:aM}{a:Option Addr}{c:Nat}{l:List Eu}(h:Gd w (Y a l.length c) l):l.length≤c∧(0<l.length→∃ b d,a=Z ⟨b,d,O⟩∧b<w.heap.size∧∀ k,k<l.length→w.cell? ⟨b,d+k*5+1,O⟩=Z (I J (l.getD k default).prio)∧w.cell? ⟨b,d+k*5+3,O⟩=Z (I J (l.getD k default).Cf)):=by
 obtain⟨r,q,⟨p,cap,g,m,_,o⟩,_⟩:=h;simp only[aY,true_and] at g;obtain⟨rfl,rfl⟩:=g;refine⟨m,fun j=>?_⟩;obtain⟨b,d,e,n,i⟩:=o j;exact⟨b,d,e,n,fun k f=>⟨i k 1 f (by decide),i k 3 f (by decide)⟩⟩
def cM:(prog.info? 3).map (fun i=>(i.zero,i.size,i.bytes))=Z (Z (I J 0),1,8):=by kernel_rfl
def cQ(n:Nat)(f:n≤1000)(W:aM):(Instr.makeSlice 22 (I J (n:Int)) (I J (n:Int))).run prog W=.ok (Y (Z ⟨W.heap.size,0,O⟩) n n) (W.alloc (T (bS #[I J 0] n) 3)):=by
 obtain⟨e,a,b,c,d⟩:=info_parts cM;have:=run_make (P:=prog) W 22 3 e _ underlying22 a b J J n n (by omega) (Int.le_refl _) (by rw[d];omega) (by omega);rw[c,Int.toNat_natCast,Nat.mul_one] at this;exact this
def aE(x:BA):(Em x).length=12:=rfl
def aO(l:List BA):∀ k j,k<l.length→j<12→(l.flatMap Em)[k*12+j]? =(Em (l.getD k default))[j]?:=by
 induction l with
 |nil=>intro k j a;exact absurd a (dc _)
 |cons x l c=>
  intro k j a b;rw[List.flatMap_cons];cases k with
  |zero=>
   rw[Nat.zero_mul,Nat.zero_add,List.getElem?_append_left (by rw[aE];exact b)];rfl
  |succ k=>
   rw[List.getElem?_append_right (by rw[aE];omega),aE,show(k+1)*12+j-12=k*12+j by omega,c k j (by simpa using a) b];rfl
def aL{w:aM}{B:Nat}{a:Option Addr}{c:Nat}{l:List BA}(h:Rl w B (Y a l.length c) l):l.length≤c∧(0<l.length→∃ b d,a=Z ⟨b,d,O⟩∧B≤b∧b<w.heap.size∧∀ k j u,k<l.length→(Em (l.getD k default))[j]? =Z u→w.cell? ⟨b,d+k*12+j,O⟩=Z u):=by
 obtain⟨t,cap,f,r,x,v,s⟩:=h;simp only[aY,true_and] at f;obtain⟨rfl,rfl⟩:=f;refine⟨r,fun g=>?_⟩;obtain⟨b,d,m,i,n,o⟩:=s g;refine⟨b,d,m,i,n,fun k j u q e=>?_⟩;have p:j<12:=(List.getElem?_eq_some_iff.1 e).1;rw[Nat.add_assoc];exact o _ u ((aO l k j q p).trans e)
def dC(w:aM)(a b c:Obj):Bl w (((w.alloc a).alloc b).alloc c)∧(((w.alloc a).alloc b).alloc c).heap.size=w.heap.size+3∧(((w.alloc a).alloc b).alloc c).heap[w.heap.size]? =Z a∧(((w.alloc a).alloc b).alloc c).heap[w.heap.size+1]? =Z b∧(((w.alloc a).alloc b).alloc c).heap[w.heap.size+1+1]? =Z c:=by
 have d:=aj (w.alloc a) b;have e:=aj ((w.alloc a).alloc b) c;refine⟨(((aH _ w).alloc (ao _) _).alloc (by simp) _).alloc (by simp;omega) _,by simp,?_,?_,by simpa using e⟩
 ·rw[aG _ _ _ (by simp<;>omega),aG _ _ _ (by simp<;>omega)];exact aj _ _
 ·rw[aG _ _ _ (by simp<;>omega)];simpa using d
def cI(S:aM)(a n:Nat)(r:Ae)(k:Nat)(v:dd)(b:List CG)(w:aM):Prop:=Upd [a] S w∧(∃ arr,w.heap[a]? =Z (T arr 3 (0,0))∧arr.size=n∧∀ j,j<k→arr[j]? =Z (I J (r.procs.getD j default).since))∧BF w (a+1) v b
section
variable {S w w':aM} {qs n:Nat} {r:Ae} {k:Nat} {v:dd} {fl:List CG}
def cI.Ag(h:cI S qs n r k v fl w)(a:Bl w w'):cI S qs n r k v fl w':=by
 obtain⟨d,⟨arr,c,e,f⟩,g⟩:=h;exact⟨d.trans (Upd.below a),⟨arr,(a.block _ (Aa c)).trans c,e,f⟩,g.Ag fun b _ i=>a.block b i⟩
def cI.cell(h:cI S qs n r k v fl w){j:Nat}(d:j<n):∃ u,w.cell? ⟨qs,j,O⟩=Z u:=by
 obtain⟨_,⟨arr,a,b,c⟩,_⟩:=h;exact⟨arr[j]'(by omega),by rw[Cr a];exact Array.getElem?_eq_getElem _⟩
def cI.at_(h:cI S qs n r k v fl w){j:Nat}(c:j<k):w.cell? ⟨qs,j,O⟩=Z (I J (r.procs.getD j default).since):=by
 obtain⟨_,⟨arr,a,d,b⟩,_⟩:=h;rw[Cr a];exact b j c
def cI.fz(h:cI S qs n r k v fl w)(j:Nat):w.frozen? ⟨qs,j,O⟩=false:=by
 obtain⟨_,⟨arr,a,_⟩,_⟩:=h;simp[World.frozen?,a]
def cI.set(h:cI S qs n r k v fl w)(o:qs<S.heap.size){m:Nat}(t:k≤m)(x:Int)(l:m=k+1→x=(r.procs.getD k default).since)(y:m≤k+1)(s:k<n):cI S qs n r m v fl (w.setCell ⟨qs,k,O⟩ (I J x)):=by
 obtain⟨a,⟨arr,c,d,f⟩,g⟩:=h;have i:(w.setCell ⟨qs,k,O⟩ (I J x)).heap[qs]? =Z (T (arr.setIfInBounds k (I J x)) 3 (0,0)):=heap_setCell_same w qs k _ _ _ c;have u:Upd [qs] w (setsAt w qs 0 [(k,I J x)]):=Upd.Cc (List.mem_singleton.2 rfl) 0 _;rw[show setsAt w qs 0 [(k,I J x)]=w.setCell ⟨qs,k,O⟩ (I J x) by simp[setsAt]] at u;refine⟨a.trans u,⟨_,i,by simpa using d,fun j q=>?_⟩,g.Ag fun b p _=>bI _ _ _ _ (by show b≠qs;omega)⟩;rw[Array.getElem?_setIfInBounds];by_cases e:k=j
 ·subst e;rw[if_pos rfl,if_pos (by omega),l (by omega)]
 ·rw[if_neg e];exact f j (by omega)
end
def cR(w:aM)(d1:Ad)(bP:ByteArray)(bQ bK:Int)(bR bq bs br:Option Addr)(bw bt bu L:Nat)(h1:Il w d1 bP bQ bK bR bq bs br bw bt bu L)(s:Ae)(hg:Good d1 s)(a1 R a3 a4 a5 a6 a7 a8:Option Addr)(c1 n2 c2 n3 c3 n4 c4 n5 c5 n6 c6 n7 c7 n8 c8:Nat)(hv:Rl w 0 (Y a1 s.procs.length c1) s.procs)(now:Int)(fw:0≤now)(fx:now≤1073741824)(t:Im)(aa af:Option Addr)(na ca cf:Nat)(ht:BJ w 0 (Y af t.faults.length cf) t.faults)(hp:cK d1 s now t=true):
  da prog 12 #[.agg #[.string bP,I J bQ,I J bK,I J d1.mem,Y bR d1.semas.length bw,I J d1.events,I J d1.boards,Y bq d1.bufs.length bt,Y bs d1.Ab.length bu,Y br d1.procs.length L],.agg #[I U s.mode,I J s.clock,Y a1 s.procs.length c1,Y R n2 c2,Y a3 n3 c3,Y a4 n4 c4,Y a5 n5 c5,Y a6 n6 c6,Y a7 n7 c7,Y a8 n8 c8],I J now,.agg #[I J t.ran,I U t.act.kind,I J t.act.a,I J t.act.b,Y aa na ca,Y af t.faults.length cf]] w fun e w'=>e=.returned (.bool true)∧Bl w w':=by
 obtain⟨r,hr⟩:=ex (Dl d1 now s);obtain⟨n,X⟩:=ex s.procs.length;have dY:r.procs.length=n:=by rw[hr,Qm,X]
 have bB:d1.procs.length=n:=by rw[X];exact hg.ok.procs.symm
 have eO:n≤6:=by have:=hg.ok.ok.procs;omega
 have eu:Hq (∀ k,k<n→r.procs.getD k default=Dg d1 now k (s.procs.getD k default)):=fun k p=>by rw[hr];exact Yy k (by omega)
 have dt:Hq (∀ k,k<n→D5 (s.procs.getD k default)∧NB (d1.procs.getD k default)):=fun k p=>⟨hg.ok.at_ (by omega),hg.ok.ok.pc _ (getD_mem (by omega))⟩;obtain⟨eE,M⟩:=cN h1.2.2.2.2.1;obtain⟨eD,cw⟩:=aL hv;rw[bB] at eE M;rw[←X] at eD cw;have dS:t.ran=Hw d1 r∧t.faults=C7 now 0 r.procs++(if t.act.kind=15 then [⟨Hw d1 r,t.act.a%256,t.act.b⟩] else [])∧(0≤Hw d1 r∨t.act.kind=0):=by
  rw[hr];simpa[cK] using hp
 obtain⟨er,du,es,dx,bn,fh,HN⟩:=H7 dS M cw ht dY bB X;obtain⟨S0,aZ⟩:=ex (((w.alloc (T #[.string bP,I J bQ,I J bK,I J d1.mem,Y bR d1.semas.length bw,I J d1.events,I J d1.boards,Y bq d1.bufs.length bt,Y bs d1.Ab.length bu,Y br d1.procs.length L] 26)).alloc (T #[I U s.mode,I J s.clock,Y a1 s.procs.length c1,Y R n2 c2,Y a3 n3 c3,Y a4 n4 c4,Y a5 n5 c5,Y a6 n6 c6,Y a7 n7 c7,Y a8 n8 c8] 37)).alloc (T #[I J t.ran,I U t.act.kind,I J t.act.a,I J t.act.b,Y aa na ca,Y af t.faults.length cf] 43));obtain⟨cn,cH,aw,V,cr⟩:=dC w (T #[.string bP,I J bQ,I J bK,I J d1.mem,Y bR d1.semas.length bw,I J d1.events,I J d1.boards,Y bq d1.bufs.length bt,Y bs d1.Ab.length bu,Y br d1.procs.length L] 26) (T #[I U s.mode,I J s.clock,Y a1 s.procs.length c1,Y R n2 c2,Y a3 n3 c3,Y a4 n4 c4,Y a5 n5 c5,Y a6 n6 c6,Y a7 n7 c7,Y a8 n8 c8] 37) (T #[I J t.ran,I U t.act.kind,I J t.act.a,I J t.act.b,Y aa na ca,Y af t.faults.length cf] 43);rw[←aZ] at cn cH aw V cr;rw[←X] at aZ V ⊢;rw[bB] at aZ aw ⊢;obtain⟨dq,dv,ey,K0,K1,K2⟩:=H6 cn aZ cH aw V cr;clear aZ cn cH aw V cr hr dY bB M cw dS hp ht hv h1 hg X;go_enter func12,ntmps12;go_upto_region 3 with (fail);rw[←dv.o];have v2:S0.cell? ⟨w.heap.size+1,2,O⟩=Z (Y a1 n c1):=Cr K1.o;have dP:=cQ n (by omega);go_upto_region 4 with (fail);clear v2 dP;obtain⟨S,hS⟩:=ex (S0.alloc (T (bS #[I J 0] n) 3));obtain⟨g,bE⟩:=ex S0.heap.size;have a0:Bl S0 S:=by rw[hS];exact(aH _ _).alloc (ao _) _
 have cs:S.heap[g]? =Z (T (bS #[I J 0] n) 3 (0,0)):=by rw[hS,bE];exact aj _ _
 have dZ:g<S.heap.size:=Aa cs;rw[←hS,←bE];have HI:Hq (cI S g n r 0 (Y O 0 0) [] S):=⟨Upd.refl _ _,⟨_,cs,by simp[bS],fun j hj=>absurd hj (dc _)⟩,BF.nil _ _⟩;have Q:Hq (Bl w S):=dq.o.trans (a0.mono dq.o.size);obtain⟨b0,dz,dD⟩:=H3 ((a0.block _ (Aa K0.o)).trans K0.o) ((a0.block _ (Aa K1.o)).trans K1.o) ((a0.block _ (Aa K2.o)).trans K2.o);have i:Hq (g<S.heap.size∧w.heap.size+1+1<g):=⟨dZ,by have:=ey.o;omega⟩;have ev:Hq (S.heap.size=g+1):=by
  show S.heap.size=g+1;rw[hS,bE];simp
 have bV:Hq (∀ W,Upd [g] S W→(∀ b,b<g→W.heap[b]? =S.heap[b]?)):=fun W h b l=>h.block b (by have:=i.o.1;omega) (by simp;omega);clear hS bE a0 cs dZ K0 K1 K2 dv;obtain⟨q,hq⟩:=ex w.heap.size;rw[←hq] at b0 dz dD i ⊢;have HQ:=HH hq;clear hq;go_wp2_with fail
 go_loopg [9,10,12,13,14,15] n (fun gg s9 dl e8 _ _ _ wr=>∃ k:Nat,k≤n∧n-k≤gg∧e8=I J k∧s9=I J (cJ d1 r k)∧∃ a c,dl=Y a (C7 now 0 (r.procs.take k)).length c∧Hq (cI S g n r k (Y a (C7 now 0 (r.procs.take k)).length c) (C7 now 0 (r.procs.take k)) wr))
 case atStart=>exact⟨0,aJ _,by omega,rfl,rfl,O,0,rfl,HI.o⟩
 case round=>
  obtain⟨k,aw,fq,rfl,rfl,fa,fc,rfl,A⟩:=hrel;have ax:=bV.o wr A.o.1;have V:=(ax _ (by have:=i.o;omega)).trans dz.o;have v2:wr.cell? ⟨q+1,2,O⟩=Z (Y a1 n c1):=Cr V;have fi:=HH V;clear V;by_cases p:k<n
  ·skip;have fs:(k:Int)<(n:Int):=by omega
   obtain⟨N,po,rfl,_,bf,M⟩:=es.o (by omega);have fr:k<c1:=by omega
   obtain⟨x,hx⟩:=ex (s.procs.getD k default);obtain⟨y,hy⟩:=ex (r.procs.getD k default);have dX:y=Dg d1 now k x:=by rw[hy,hx];exact eu.o k p
   have di:=(dt.o k p).1;rw[←hx] at di;have dU:wr.heap[N]? =w.heap[N]?:=(ax _ (by have:=i.o;have:=HQ.o;omega)).trans (Q.o.block _ bf);have M:=fun j u hu=>(Gh dU _).trans (M k j u p hu);rw[←hx] at M;obtain⟨p0,p1,p2,p3,p4,p5,p6,p7,p8,p9,PI,eY⟩:=cc12 M;generalize x.s.AG.getD 0 0=r0 at p3;generalize x.s.AG.getD 1 0=r1 at p4;generalize x.s.AG.getD 2 0=r2 at p5;generalize x.s.AG.getD 3 0=r3 at p6;obtain⟨HY,HX,bW,eq⟩:=H4 hy hx dX di;have HA:=HH A.o;clear M dU hx hy dX di ax A;go_upto_region 8 with (fail);obtain⟨W1,bA⟩:=ex (wr.alloc (T #[I U x.status,I J x.s.pc,I J x.s.left,I U r0,I U r1,I U r2,I U r3,I J x.since,I J x.release,I J x.deadline,I U x.why,I J x.on] 51));obtain⟨qx,bF⟩:=ex wr.heap.size;have ae:Bl wr W1:=by rw[bA];exact(aH _ _).alloc (ao _) _
   have kx:W1.heap[qx]? =Z (T #[I U x.status,I J x.s.pc,I J x.s.left,I U r0,I U r1,I U r2,I U r3,I J x.since,I J x.release,I J x.deadline,I U x.why,I J x.on] 51 (0,0)):=by rw[bA,bF];exact aj _ _
   have dW:g<qx:=by rw[bF];have:=HA.o.1.size;have:=i.o;omega
   rw[←bA,←bF];obtain⟨I1,KX,et⟩:=H3 (HA.o.Ag ae) kx dW;clear bA bF ae dW p0 p1 p2 p3 p4 p5 p6 p7 p8 p9 PI eY v2;obtain⟨m0,-,-,-,-,-,-,-,-,m9⟩:=DV kx;clear kx;refine db (by kernel_rfl) (by kernel_rfl) ?_
   iterate 7 (first|go_big_quiet_step (fail)|quiet_step (fail))
   refine wpQuiet_nil ?_;intro _ cC;obtain⟨nq,cD⟩:=cC;subst cD;clear m0 m9;obtain⟨V1,cl⟩:=ex (W1.drewN nq);have e1:Bl W1 V1:=by rw[cl];exact JO (aH _ W1) nq
   rw[←cl];have I2:=HH (I1.o.Ag e1);have c0:=(e1.block _ (Aa KX.o)).trans KX.o;have dE:=HH c0;have m7:V1.cell? ⟨qx,7,O⟩=Z (I J x.since):=Cr c0;obtain⟨u0,mu⟩:=I2.o.cell p;have mf:=I2.o.fz k;clear cl e1 c0 I1 KX HA;go_upto_region 10 with (fail);clear m7 mu mf;obtain⟨E,bz⟩:=ex (V1.setCell ⟨g,k,O⟩ (I J x.since));rw[←bz];have c9:E.heap[qx]? =Z (T #[I U x.status,I J x.s.pc,I J x.s.left,I U r0,I U r1,I U r2,I U r3,I J x.since,I J x.release,I J x.deadline,I U x.why,I J x.on] 51 (0,0)):=by
    rw[bz];exact(bI _ _ _ _ (by show qx≠g;have:=et.o;omega)).trans dE.o
   obtain⟨n0,-,-,-,-,-,-,-,n8,-,ef⟩:=Yn c9;obtain⟨bY,dF⟩:=H2 bz c9;clear bz c9 dE
   go_cut [55] from 20 to 126 (fun fd wx=>fd=.bool (decide (x.status=3∧x.why=14∧x.release≤now))∧E=wx)
   case first=>
    cases h3:(x.status==3)
    all_goals cases dH:(x.why==14)
    all_goals by_cases h4:x.release≤now
    all_goals
     go_wp2_with fail
     go_meet
     exact⟨by simp at h3 dH;simp[h3,dH];try omega,rfl⟩
   case rest=>
    obtain⟨rfl,rfl⟩:=hcut;obtain⟨rl,ay⟩:=ex (decide (x.status=3∧x.why=14∧x.release≤now));rw[←ay]
    go_upto_if 55 with (fail)
    go_cut [14,15] from 20 to 126 (fun e9 fb wx=>e9=.bool (decide (y.status=2))∧fb=I J y.deadline∧Hq (cI S g n r (k+1) (Y fa (C7 now 0 (r.procs.take k)).length fc) (C7 now 0 (r.procs.take k)) wx))
    case first=>
     by_cases bg:x.status=3∧x.why=14∧x.release≤now
     ·rw[decide_eq_true bg] at ay;subst ay;have cF:y.status=2∧y.since=now∧y.deadline=afterI x.release (d1.procs.getD k default).Cf:=by
       rw[bW.o];unfold Dg;rw[if_pos bg];exact⟨rfl,rfl,rfl⟩
      obtain⟨bL,bC⟩:=ex ((d1.procs.getD k default).Cf);rw[←bC] at cF;have dO:=(dt.o k p).2.Cf;rw[←bC] at dO;have eN:=eq.o.release;have ek:=HH (cT x.release bL (by omega) (by omega) (by omega) (by omega));have I3:Hq (cI S g n r k (Y fa (C7 now 0 (r.procs.take k)).length fc) (C7 now 0 (r.procs.take k)) E):=by
       rw[bY.o];exact I2.o.set i.o.1 (ao _) x.since (fun h=>absurd h (by omega)) (bH _) p
      obtain⟨bc,oc,rfl,a9,av⟩:=du.o (by omega);have ah:=bV.o E I3.o.1;have g9:E.cell? ⟨q,9,O⟩=Z (Y (Z ⟨bc,oc,O⟩) n L):=Cr ((ah _ (by have:=i.o;omega)).trans b0.o);have gl:E.cell? ⟨bc,oc+k*5+3,O⟩=Z (I J bL):=by
       rw[bC];exact(Gh ((ah _ (by have:=i.o;have:=HQ.o;omega)).trans (Q.o.block _ a9)) _).trans (av k p).2
      have eQ:=I3.o.1.size;have dV:q<E.heap.size:=by have:=i.o;omega
      have D:bc<E.heap.size:=by have:=i.o;have:=HQ.o;omega
      have eb:=Aa dF.o;have e6:=qC n8 eb;have e4:=qC g9 dV;have e5:=qC gl D;have eK:k<L:=by omega
      have bZ:=HH cF;have fy:g<E.heap.size:=by have:=i.o;omega
      clear cF bC dO eN ah eQ av a9 g9 gl dV D eb;go_upto_region 11 with (fail);clear n0 n8 ef;refine AS 16 [14] [15] [(11,(fun v _=>v=I J (afterI x.release bL)))] ⟨Ch,trivial⟩ ?_
      iterate 11 (refine An rfl rfl rfl ?_;intro K hK;go_big_quiet_op;go_big_quiet_on)
      refine A9 rfl rfl (fun w' l hA=>?_) ?_
      ·refine AD (f:=39) (al:=[I J x.release,I J bL]) rfl rfl rfl cU ?_;exact(ek.o w').mono fun e w2 h=>by
        obtain⟨he,rfl⟩:=h;exact⟨_,he,aH _ _,rfl⟩
      intro v w' l hv;subst hv;clear l w';simp only[Au,List.setIfInBounds_toArray,List.set_cons_succ,List.set_cons_zero]
      iterate 2 (refine An rfl rfl rfl ?_;intro K hK;go_big_quiet_op;go_big_quiet_on)
      refine AH rfl ?_
      iterate 1 (refine Bi rfl rfl rfl ?_;intro K hK;go_big_quiet_op;go_big_quiet_on)
      refine AR ?_;intro w9 dL eS;have I4:=HH (I3.o.Ag dL);obtain⟨u1,mu⟩:=I4.o.cell p;have mf:=I4.o.fz k;obtain⟨V3,cm⟩:=ex (w9.setCell ⟨g,k,O⟩ (I J now));refine AI (w':=V3) (by rw[cm];simp[execOp,go_sem,mu,mf,p]) ?_;unfold A7;have ew:=HH cm;clear cm mu mf eS dL e6 e4 e5;go_wp2_with fail
      go_meet
      refine⟨?_,?_,?_⟩
      ·rw[decide_eq_true bZ.o.1]
      ·rw[bZ.o.2.2]
      ·rw[ew.o];exact I4.o.set i.o.1 (bH _) now (fun _=>by rw[←HY.o,bZ.o.2.1]) (ao _) p
     ·rw[decide_eq_false bg] at ay;subst ay;have cG:y=x:=by rw[bW.o];unfold Dg;rw[if_neg bg]
      have I3:Hq (cI S g n r (k+1) (Y fa (C7 now 0 (r.procs.take k)).length fc) (C7 now 0 (r.procs.take k)) E):=by
       rw[bY.o];exact I2.o.set i.o.1 (bH _) x.since (fun _=>by rw[←HY.o,cG]) (ao _) p
      have dy:=HH cG;clear cG bg;go_wp2_with fail
      go_meet
      exact⟨by rw[dy.o];first|rfl|simp,by rw[dy.o],I3.o⟩
    case rest=>
     obtain⟨rfl,rfl,B⟩:=hcut;clear n0 n8 ef I2 bY dF bW ay rl;have ct:k<r.procs.length:=by rw[bn.o];exact p
     have F:=Us (now:=now) ct;have ec:r.procs[k]=y:=by rw[HY.o,aK,List.getElem?_eq_getElem ct];rfl
     rw[ec] at F;have eH:(C7 now 0 (r.procs.take k)).length≤k:=ak (KH _ _ _) (by simp;omega);have bT:Hq (cI S g n r (k+1) (Y fa (C7 now 0 (r.procs.take k)).length fc) (C7 now 0 (r.procs.take k)) wc):=B.o;clear ct ec B;go_upto_region 12 with (fail)
     go_cut [75] from 20 to 126 (fun fe wx=>fe=.bool (GP now y)∧wc=wx)
     case first=>
      by_cases eL:0≤y.deadline
      ·by_cases eM:y.deadline≤now
       ·go_wp2_with fail
        go_meet
        exact⟨by simp[GP,eL,eM],rfl⟩
       ·go_wp2_with fail
        go_meet
        exact⟨by simp[GP];omega,rfl⟩
      ·go_wp2_with fail
       go_meet
       exact⟨by simp[GP];omega,rfl⟩
     case rest=>
      obtain⟨rfl,rfl⟩:=hcut
      go_upto_if 75 with (fail)
      go_cut [10] from 20 to 126 (fun dl wx=>∃ a c,dl=Y a (C7 now 0 (r.procs.take (k+1))).length c∧Hq (cI S g n r (k+1) (Y a (C7 now 0 (r.procs.take (k+1))).length c) (C7 now 0 (r.procs.take (k+1))) wx))
      case first=>
       cases dN:GP now y with
       |true=>
         rw[dN,if_pos rfl] at F;obtain⟨u1,⟨arr,u2,u3,u4⟩,u5⟩:=bT.o;have bG:g+1≤wc.heap.size:=Aa u2;obtain⟨R,c2,P,bh,be,z⟩:=BF.snoc (x:=⟨(k:Int),1,0⟩) (W:=wc.alloc (T #[I J k,I U 1,I J 0] 76)) (u5.Ag fun b _ l=>aG _ _ _ l) (by simp;omega) (by omega) (q:=wc.heap.size) (aj _ _) 41;have bd:=fun b=>BF.low (b:=b) u5;have cA:wc.heap.size+1≤P.heap.size:=by have:=z.size;simpa using this
         have ad:∀ b,b<g+1→P.heap[b]? =wc.heap[b]?:=fun b l=>(z.block b (by simp;omega) (fun e=>by have:=bd b e.symm;omega)).trans (aG _ _ _ (by omega));have eB:=u1.size;have em:Hq (cI S g n r (k+1) (Y R (C7 now 0 (r.procs.take (k+1))).length c2) (C7 now 0 (r.procs.take (k+1))) P):=by
          refine⟨⟨z.os.trans u1.os,z.tape.trans u1.tape,z.output.trans u1.output,by omega,fun b l X=>?_⟩,⟨arr,(ad g (by omega)).trans u2,u3,u4⟩,by rw[F,aN];exact be⟩;by_cases eC:b<g+1
          ·exact(ad b eC).trans (u1.block b l X)
          ·exact absurd l (by have:=i.o;have:=ev.o;omega)
         have en:Hq ((C7 now 0 (r.procs.take (k+1))).length=(C7 now 0 (r.procs.take k)).length+1):=by rw[F,aN];rfl
         have bX:=HH bh;clear F u1 u2 u3 u4 u5 bh be z bd cA ad eB bG;go_wp2_with (at_builtin;refine bp _ rfl _ _ _ _ rfl _ _ rfl rfl _ _ bX.o ?_)
         go_meet
         exact⟨R,c2,by rw[en.o],em.o⟩
       |false=>
        rw[dN] at F;simp only[b9,if_false,aP] at F;have HF:=HH F;clear F;go_wp2_with fail
        go_meet
        exact⟨fa,fc,by rw[HF.o],by rw[HF.o];exact bT.o⟩
      case rest=>
       obtain⟨ga,gc,rfl,C⟩:=hcut;have HC:Hq (cI S g n r (k+1) (Y ga (C7 now 0 (r.procs.take (k+1))).length gc) (C7 now 0 (r.procs.take (k+1))) wc):=C.o;clear C bT F eH;by_cases az:y.status=2
       ·have eF:decide (y.status=2)=true:=decide_eq_true az;have dM:=cP (d:=d1) (r:=r) k;obtain⟨bb,cq⟩:=ex (cJ d1 r k);obtain⟨bk,dw⟩:=H2 cq az;rw[←cq] at dM ⊢;clear cq az;by_cases bD:bb<0
        case' pos=>
         have ab:Hq (cJ d1 r (k+1)=(k:Int)):=by
          show _=_;rw[cL];unfold CL;rw[if_pos ⟨by rw[←HY.o];exact dw.o,.inl (by rw[←bk.o];exact bD)⟩]
        case' neg=>
         obtain⟨m,rfl⟩:∃ m:Nat,bb=(m:Int):=⟨bb.toNat,by omega⟩;have dP:m<k:=by omega
         have fk:Hq (¬cJ d1 r k<0):=by rw[←bk.o];exact bD
         have ep:Hq ((cJ d1 r k).toNat=m):=by rw[←bk.o];rfl
         obtain⟨bc,oc,rfl,a9,av⟩:=du.o (by omega);have ah:=bV.o wc HC.o.1;have g9:wc.cell? ⟨q,9,O⟩=Z (Y (Z ⟨bc,oc,O⟩) n L):=Cr ((ah _ (by have:=i.o;omega)).trans b0.o);have ag:=(ah _ (by have:=i.o;have:=HQ.o;omega)).trans (Q.o.block _ a9);obtain⟨pk,cu⟩:=ex ((d1.procs.getD k default).prio);obtain⟨pm,cv⟩:=ex ((d1.procs.getD m default).prio);obtain⟨sk,cy⟩:=ex ((r.procs.getD k default).since);obtain⟨sm,cz⟩:=ex ((r.procs.getD m default).since);have gk:wc.cell? ⟨bc,oc+k*5+1,O⟩=Z (I J pk):=by rw[cu];exact(Gh ag _).trans (av k p).1
         have gm:wc.cell? ⟨bc,oc+m*5+1,O⟩=Z (I J pm):=by rw[cv];exact(Gh ag _).trans (av m (by omega)).1
         have tk:wc.cell? ⟨g,k,O⟩=Z (I J sk):=by rw[cy];exact HC.o.at_ (by omega)
         have tm:wc.cell? ⟨g,m,O⟩=Z (I J sm):=by rw[cz];exact HC.o.at_ (by omega)
         have bl:Hq (EL d1 r k m=if pk≠pm then decide (pm<pk) else decide (sk<sm)):=by rw[cu,cv,cy,cz];rfl
         have bm:Hq (cJ d1 r (k+1)=if EL d1 r k m=true then(k:Int) else(m:Int)):=by
          show _=_;rw[cL];unfold CL;rw[ep.o,←HY.o,dw.o,←bk.o];simp only[true_and];by_cases l:EL d1 r k m=true
          ·rw[if_pos (.inr l),if_pos l]
          ·rw[if_neg l,if_neg];rintro(h|h)
           ·exact bD h
           ·exact l h
         have eK:k<L:=by omega
         have fu:m<L:=by omega
         have fv:(m:Int)<(n:Int):=by omega
         have ft:¬(m:Int)<0:=by omega
         clear ah ag av a9 cu cv cy cz bD dM;by_cases h1:pm<pk
         case' pos=>
          have ab:Hq (cJ d1 r (k+1)=(k:Int)):=by
           show _=_;rw[bm.o,if_pos];rw[bl.o,if_pos (by omega)];simpa using h1
         case' neg=>
          by_cases h2:pk=pm
          case' neg=>
           have ab:Hq (cJ d1 r (k+1)=(m:Int)):=by
            show _=_;rw[bm.o,if_neg];rw[bl.o,if_pos (by omega)];simpa using h1
           have fn:(pk==pm)=false:=by simpa using h2
           clear h2
          case' pos=>
           by_cases h3:sk<sm
           case' pos=>
            have ab:Hq (cJ d1 r (k+1)=(k:Int)):=by
             show _=_;rw[bm.o,if_pos];rw[bl.o,if_neg (by omega)];simpa using h3
            subst h2
           case' neg=>
            have ab:Hq (cJ d1 r (k+1)=(m:Int)):=by
             show _=_;rw[bm.o,if_neg];rw[bl.o,if_neg (by omega)];simpa using h3
            subst h2
        all_goals
         go_wp2_with fail;refine db (by kernel_rfl) (by kernel_rfl) ?_
         iterate 43 (first|go_big_quiet_step (fail)|quiet_step (fail))
         refine wpQuiet_nil ?_;intro _ cC;obtain⟨nq,cD⟩:=cC;subst cD;go_wp2_with fail
         go_roundg (n-(k+1))
         case rel=>exact⟨k+1,by omega,by omega,by go_num,by rw[ab.o],ga,gc,rfl,HC.o.Ag (JO (aH _ wc) nq)⟩
         case measure=>omega
       ·have eF:decide (y.status=2)=false:=decide_eq_false az;have ab:Hq (cJ d1 r (k+1)=cJ d1 r k):=by
         show _=_;rw[cL];unfold CL;rw[if_neg];rw[←HY.o];exact fun h=>az h.1
        clear az;go_wp2_with fail
        go_roundg (n-(k+1))
        case rel=>exact⟨k+1,by omega,by omega,by go_num,by rw[ab.o],ga,gc,rfl,HC.o⟩
        case measure=>omega
  ·obtain rfl:n=k:=by omega
   have dJ:r.procs.take n=r.procs:=List.take_of_length_le (by rw[bn.o];exact ao _);rw[dJ] at A ⊢;have hA:cI S g n r n (Y fa (C7 now 0 r.procs).length fc) (C7 now 0 r.procs) wr:=A.o;obtain⟨u1,u2,u3⟩:=hA;have ag:Bl w wr:=⟨u1.os.trans Q.o.os,u1.tape.trans Q.o.tape,u1.output.trans Q.o.output,ak Q.o.size u1.size,fun b l=>(ax b (by have:=i.o;have:=HQ.o;omega)).trans (Q.o.block b l)⟩;have kt:=(ax _ (by have:=i.o;omega)).trans dD.o;obtain⟨N,bf⟩:=ex (cJ d1 r n);rw[←bf];have dT:Hw d1 r=N:=by rw[bf];exact(cO bn.o).symm
   obtain⟨ae,D,dK⟩:=er.o;rw[dT] at ae D dK;rw[ae] at kt;obtain⟨t0,t1,t2,t3,-,t5⟩:=r6 kt;have cB:BJ wr 0 (Y af t.faults.length cf) t.faults:=Sl.below dx.o ag;have fp:(C7 now 0 r.procs).length≤6:=ak (KH _ _ _) (by rw[bn.o];exact eO);have bG:g+1≤wr.heap.size:=by have:=u1.size;have:=i.o;omega
   obtain⟨H,bU⟩:=H2 ag kt;clear A dJ bf dT ax ag kt;by_cases ar:t.act.kind=15
   ·have eP:0≤N:=by omega
    have eJ:(t.act.kind==15)=true:=by simp[ar]
    rw[if_pos ar] at D;obtain⟨R,c2,P,bh,be,z⟩:=BF.snoc (x:=⟨N,t.act.a%256,t.act.b⟩) (W:=wr.alloc (T #[I J N,I U (t.act.a%256),I J t.act.b] 76)) (u3.Ag fun b _ l=>aG _ _ _ l) (by simp;omega) (by omega) (q:=wr.heap.size) (aj _ _) 41;have bd:=fun b=>BF.low (b:=b) u3;have cA:wr.heap.size+1≤P.heap.size:=by have:=z.size;simpa using this
    have ad:∀ b,b<g+1→P.heap[b]? =wr.heap[b]?:=fun b l=>(z.block b (by simp;omega) (fun e=>by have:=bd b e.symm;omega)).trans (aG _ _ _ (by omega));have cp:Bl w P:=⟨z.os.trans H.o.os,z.tape.trans H.o.tape,z.output.trans H.o.output,ak H.o.size (by omega),fun b l=>(ad b (by have:=i.o;have:=HQ.o;omega)).trans (H.o.block b l)⟩;have ed:=(ad (q+1+1) (by have:=i.o;omega)).trans bU.o;obtain⟨y0,-,-,-,-,y5⟩:=r6 ed;have dQ:BJ P 0 (Y R ((C7 now 0 r.procs).length+1) c2) ((C7 now 0 r.procs)++ [⟨N,t.act.a%256,t.act.b⟩]):=by
     have:=be.rd;exact Sl.mono this (aJ _)
    have am:=HH (Nd _ _ _ _ P (Sl.below dx.o cp) dQ (by rw[D,aN];simp;omega));rw[decide_eq_true D] at am;obtain⟨bX,dr⟩:=H2 bh cp;clear ae D dK u1 u2 u3 bh be dQ z bd cA ad cp ed cB bG ar;go_wp2_with (first|(go_at_call 13;refine am.o.mono ?_;rintro e w5 ⟨rfl,au⟩)|(at_builtin;refine bp _ rfl _ _ _ _ rfl _ _ rfl rfl _ _ bX.o ?_));go_ret;exact⟨rfl,dr.o.trans (au.mono dr.o.size)⟩
   ·have eJ:(t.act.kind==15)=false:=by simp[ar]
    rw[if_neg ar,aP] at D;have am:=HH (Nd _ _ _ _ wr cB (Sl.mono u3.rd (aJ _)) (by rw[D];omega));rw[decide_eq_true D] at am;clear ae D u1 u2 u3 cB bG ar;by_cases eP:0≤N
    ·go_wp2_with fail;refine am.o.mono ?_;rintro e w5 ⟨rfl,au⟩;clear t0 t1 t2 t3 t5;go_wp2_with fail;go_ret;exact⟨rfl,H.o.trans (au.mono H.o.size)⟩
    ·have aw:(t.act.kind==0)=true:=by simp;omega
     go_wp2_with fail;refine am.o.mono ?_;rintro e w5 ⟨rfl,au⟩;clear t0 t1 t2 t3 t5;have y1:w5.cell? ⟨q+1+1,1,O⟩=Z (I U t.act.kind):=Cr ((au.block _ (Aa bU.o)).trans bU.o);go_wp2_with fail;go_ret;exact⟨rfl,H.o.trans (au.mono H.o.size)⟩
def aX(B N:Nat)(w0:aM)(L H:Nat)(a:aM)(g:Nat)(d:Ad)(s:Ae)(w:aM):Prop:=∃ F,Lv B w F g d s∧(∀ b,F b→N≤b∧(b<L∨H≤b))∧Below N w0 w∧N≤w.heap.size∧H≤w.heap.size∧∀ b,L≤b→b<H→w.heap[b]? =a.heap[b]?
section
variable {B N L H:Nat} {w0 wv w w':aM} {g:Nat} {d:Ad} {s s':Ae}
def aX.wd(h:aX B N w0 L H wv g d s w):Wd B N w0 w g d s:=by
 obtain⟨F,a,c,e,f,_⟩:=h;exact⟨F,a,fun b i=>(c b i).1,e,f⟩
def aX.below(h:aX B N w0 L H wv g d s w)(a:Bl w w'):aX B N w0 L H wv g d s w':=by
 obtain⟨F,i,j,k,c,e,l⟩:=h;exact⟨F,i.below a,j,k.trans (a.mono c),ak c a.size,ak e a.size,fun b m f=>(a.block b (ci f e)).trans (l b m f)⟩
def aX.op{F:Nat→Prop}(h:Dr B w F g d s' w')(c:∀ b,F b→N≤b∧(b<L∨H≤b))(f:Below N w0 w)(e:N≤w.heap.size)(i:H≤w.heap.size)(j:∀ b,L≤b→b<H→w.heap[b]? =wv.heap[b]?):aX B N w0 L H wv g d s' w':=
 ⟨_,h.1,fun b a=>by
  rcases a with a|a
  ·exact c b a
  ·omega,f.trans (h.2.low (fun b a=>(c b a).1) e),ak e h.2.size,ak i h.2.size,fun b k l=>(h.2.block b (by omega) fun m=>by have:=c b m;omega).trans (j b k l)⟩
def bN(h:Wd B N w0 w g d s):da prog 10 #[G (Z ⟨g,0,O⟩)] w fun e w'=>NR w s e w'∧aX B N w0 w.heap.size w'.heap.size w' g d s w':=by
 obtain⟨F,c,i,j,f⟩:=h;refine(J3 c).mono ?_;rintro e w' h;have a:Bl w w':=by
  obtain⟨_,_,_,_,_,_,_,_,_,_,_,_,_,_,_,_,_,_,_,a⟩:=h;exact a
 exact⟨h,F,c.below a,fun b a=>⟨i b a,.inl (c.px.1 b a)⟩,j.trans (a.mono f),ak f a.size,ao _,fun _ _ _=>rfl⟩
def aX.ext(h:aX B N w0 L w.heap.size w g d s w)(a:Bl w w'):aX B N w0 L w'.heap.size w' g d s w':=by
 obtain⟨F,c,i,j,e,k,l⟩:=h;exact⟨F,c.below a,fun b f=>by have:=i b f;have:=c.px.1 b f;omega,j.trans (a.mono e),ak e a.size,ao _,fun _ _ _=>rfl⟩
def aX.sl(h:aX B N w0 L wv.heap.size wv g d s w){v:dd}{sz n:Nat}{a:List dd}(e:Sl wv L sz v n a):Sl w 0 sz v n a:=by
 obtain⟨F,f,i,j,k,b,c⟩:=h;exact Sl.mono (No e b c) (aJ _)
def aX.blk(h:aX B N w0 L wv.heap.size wv g d s w){b:Nat}(a:L≤b)(c:b<wv.heap.size):w.heap[b]? =wv.heap[b]?:=by
 obtain⟨F,_,_,_,_,_,e⟩:=h;exact e b a c
def cZ(h:aX B N w0 L H wv g d s w)(a:dd)(op:List Int)(n:Af J w 0 a op):
  da prog 11 #[G (Z ⟨g,0,O⟩),a] w fun e w'=>∃ v,e=.returned (.tuple #[v,.bool (decide ((Fl d op s).2.e=0))])∧Hh w' w.heap.size (Fl d op s).2 v∧aX B N w0 L H wv g d (Fl d op s).1 w'∧w.heap.size≤w'.heap.size:=by
 obtain⟨F,c,f,i,j,k,l⟩:=h;refine(JL B w F g d s c a op n).mono ?_;rintro e w' ⟨v,m,o,b⟩;exact⟨v,m,o,aX.op b f i j k l,b.2.size⟩
end
def dA{d:Ad}{s:Ae}{op:List Int}(j:JF d)(h:Good d s)(a:(Fl d op s).2.e=0):0≤(Fl d op s).1.clock-1∧(Fl d op s).1.clock-1≤1073741824∧(s.mode=3→cK d s ((Fl d op s).1.clock-1) (Fl d op s).2=true∧∀ k,k<s.procs.length→¬(0≤((Fl d op s).1.procs.getD k default).deadline∧((Fl d op s).1.procs.getD k default).deadline≤(Fl d op s).1.clock-1))∧(s.mode≠3→(Fl d op s).2.ran=-1∧(Fl d op s).2.faults=[]):=by
 have m:=h.ok.clock;have:∀ now,(A3 d now s).2.e=0→0≤(A3 d now s).1.clock-1∧(A3 d now s).1.clock-1≤1073741824∧(s.mode=3→cK d s ((A3 d now s).1.clock-1) (A3 d now s).2=true∧∀ k,k<s.procs.length→¬(0≤((A3 d now s).1.procs.getD k default).deadline∧((A3 d now s).1.procs.getD k default).deadline≤(A3 d now s).1.clock-1))∧(s.mode≠3→(A3 d now s).2.ran=-1∧(A3 d now s).2.faults=[]):=fun now a=>by
  obtain⟨l,b⟩:=cV a;rw[cW a j h,Int.add_sub_cancel];exact⟨by omega,b,fun c=>⟨cX c a,(aV j h c a).dl⟩,fun c=>cY h c⟩
 unfold Fl at a ⊢;split
 ·rename_i b;rw[if_pos b] at a;exact absurd a (show¬((2:Int)=0) by decide)
 ·rename_i b;rw[if_neg b] at a;split
  ·rename_i f;rw[if_pos f] at a;exact absurd a (show¬((2:Int)=0) by decide)
  ·rename_i f;rw[if_neg f] at a;split
   ·rename_i g;rw[if_pos g] at a;exact absurd a (show¬((2:Int)=0) by decide)
   ·rename_i g;rw[if_neg g] at a;split
    ·rename_i i;rw[if_pos i] at a;exact absurd a (show¬((2:Int)=0) by decide)
    ·rename_i i;rw[if_neg i] at a;exact this _ a
def dB(B:Nat)(w:aM)(ag:Gl B w)(GS:Ce w)(d1:Ad)(S:ByteArray)(X R:Int)(ab D H E:Option Addr)(P K M L:Nat)(l:Il w d1 S X R ab D H E P K M L)(vo:dd)(ops:List (List Int))(hO:JG w vo ops):
  da prog 3 #[.agg #[.string S,I J X,I J R,I J d1.mem,Y ab d1.semas.length P,I J d1.events,I J d1.boards,Y D d1.bufs.length K,Y H d1.Ab.length M,Y E d1.procs.length L],vo] w fun e w'=>e=.returned (.bool true)∧Bl w w':=by
 obtain⟨oa,oc,rfl,eK,cE⟩:=hO.at_;have cp:16≤w.heap.size:=ak ag.hb ag.hw;obtain⟨f,hW⟩:=ex (w.alloc (T #[.string S,I J X,I J R,I J d1.mem,Y ab d1.semas.length P,I J d1.events,I J d1.boards,Y D d1.bufs.length K,Y H d1.Ab.length M,Y E d1.procs.length L] 26));have g:Bl w f:=by rw[hW];exact(aH _ w).alloc (ao _) _
 have Q:f.heap[w.heap.size]? =Z (T #[.string S,I J X,I J R,I J d1.mem,Y ab d1.semas.length P,I J d1.events,I J d1.boards,Y D d1.bufs.length K,Y H d1.Ab.length M,Y E d1.procs.length L] 26 (0,0)):=by rw[hW];exact aj _ _
 obtain⟨HW,t,ah⟩:=H3 hW g Q;have cb:Hq (∀ W,Bl f W→da prog 8 #[] W fun e w'=>e=.returned (.bool true)∧Bl W w'):=fun W d=>by
  have d:=g.trans (d.mono g.size);exact RC B W (ag.below d) (GS.below cp d)
 have ce:Hq (∀ W,Bl f W→Il W d1 S X R ab D H E P K M L):=fun W d=>l.below (g.trans (d.mono g.size));have cc:Hq (∀ W,Bl f W→da prog 9 #[.agg #[.string S,I J X,I J R,I J d1.mem,Y ab d1.semas.length P,I J d1.events,I J d1.boards,Y D d1.bufs.length K,Y H d1.Ab.length M,Y E d1.procs.length L]] W (JD B W d1)):=fun W d=>by
  have a0:=g.trans (d.mono g.size);exact P0 B (ce.o W d) (ag.below a0) (GS.below cp a0)
 have ds:Hq (0<ops.length→∃ b V,oa=Z ⟨b,V,O⟩∧b<f.heap.size∧∀ k (hk:k<ops.length),∃ (a:Option Addr) (c:Nat),∀ W,Bl f W→W.cell? ⟨b,V+k,O⟩=Z (.slice a ops[k].length c)∧Af J W 0 (.slice a ops[k].length c) ops[k]):=fun h0=>by
  obtain⟨b,V,e,hl,hc⟩:=cE h0;refine⟨b,V,e,ci hl g.size,fun k hk=>?_⟩;obtain⟨a,c,h3,h4⟩:=hc k hk;refine⟨a,c,fun W d=>?_⟩;have d:=g.trans (d.mono g.size);exact⟨(d.cell (p:=⟨b,V+k,O⟩) hl).trans h3,h4.Iq d⟩
 clear hW g Q ag GS l hO cE;go_enter func3,ntmps3;go_wp2_with fail;rw[←HW.o];refine(cb.o f (aH _ _)).mono ?_;rintro e w1 ⟨rfl,d⟩;have B1:=HH d;clear d cb;obtain⟨q,hq⟩:=ex w.heap.size;rw[←hq] at ah ⊢;have HQ:=HH hq;clear hq;have aq:=((B1.o).block _ (Aa ah.o)).trans ah.o;obtain⟨x0,x1,x2,x3,x4,x5,x6,x7,x8,x9⟩:=DV aq;clear aq;go_wp2_with fail;refine(cc.o w1 B1.o).mono ?_;rintro e w2 hn;clear x0 x1 x2 x3 x4 x5 x6 x7 x8 x9 cc;cases an:E6 d1 with
 |false=>
  have a0:=HH hn.1;have bP:=hn.2;rw[an] at bP;simp only[b9,if_false] at bP;subst bP;clear hn;go_wp2_with fail;go_ret;have l:=B1.o;exact⟨rfl,t.o.trans ((l.trans (a0.o.mono l.size)).mono t.o.size)⟩
 |true=>
  obtain⟨g1,rfl,c5⟩:=Wd.new (N:=f.heap.size) (w0:=f) hn an B1.o B1.o.size;have HT:=HH c5;clear hn c5 an;by_cases ez:(ops.length:Int)≤120
  ·go_wp2_with fail
   go_loopw [7,8,9,10,11,12,13] (fun v _ _ _ _ _ _ wr=>∃ k:Nat,k≤ops.length∧v=I J k∧Hq (∃ s,Wd B f.heap.size f wr g1 d1 s)) (fun v _ _ _ _ _ _ _=>ops.length-(cj v).toNat)
   case atStart=>exact⟨0,aJ _,rfl,_,HT.o⟩
   case round=>
    obtain⟨k,eF,rfl,A⟩:=hrel;obtain⟨s,hs⟩:=A.o;by_cases hk:k<ops.length
    ·skip;have cr:=hs.bel;have eH:(k:Int)<(ops.length:Int):=by omega
     obtain⟨ob,V,rfl,ek,cD⟩:=ds.o (by omega);obtain⟨ua,uc,aZ⟩:=cD k hk;have eG:k<oc:=by omega
     obtain⟨op,cF⟩:=ex (ops[k]);rw[←cF] at aZ;obtain⟨dp,HS⟩:=H2 aZ hs;obtain⟨r,hr⟩:=ex (Fl d1 op s);obtain⟨eo,em⟩:=aZ wr cr;have HR:=HH hr;clear A hs cr cD cF ek aZ hr em eo;go_wp2_with fail;refine(bN HS.o).mono ?_;rintro e u1 ⟨⟨C,a2,a3,a4,a5,a6,a7,a8,ac,bd,be,bf,bg,bh,bi,bj,n8,rfl,bX,cs⟩,Q⟩;obtain⟨lo,cz⟩:=ex wr.heap.size;have bW:=cs.size;rw[←cz] at bX Q bW;obtain⟨x,aS⟩:=ex (u1.alloc (T #[I U s.mode,I J s.clock,Y C s.procs.length ac,Y a2 s.mem.length bd,Y a3 s.semas.length be,Y a4 s.events.length bf,Y a5 s.boards.length bg,Y a6 s.queues.length bh,Y a7 s.queues.length bi,Y a8 n8 bj] 37));have bL:Bl u1 x:=by rw[aS];exact(aH _ u1).alloc (ao _) _
     have cw:x.heap[u1.heap.size]? =Z (T #[I U s.mode,I J s.clock,Y C s.procs.length ac,Y a2 s.mem.length bd,Y a3 s.semas.length be,Y a4 s.events.length bf,Y a5 s.boards.length bg,Y a6 s.queues.length bh,Y a7 s.queues.length bi,Y a8 n8 bj] 37 (0,0)):=by rw[aS];exact aj _ _
     have ap:=Q.ext bL;have du:Hq (Rl x lo (Y C s.procs.length ac) s.procs):=Sl.below (JJ.pr bX) bL;obtain⟨ep,c2⟩:=dp.o x ap.wd.bel;have bw:=HH (cZ ap _ op c2);rw[←HR.o] at bw;obtain⟨ai,bD,u,ck⟩:=H4 cw bW (And.intro ap.wd.good (show JF d1 by obtain⟨F,l,_⟩:=ap;exact l.okx)) aS;clear aS bL cw ap c2 bX Q bW HS cs cz;go_upto_region 10 with (fail);rw[←ck.o];go_wp2_with fail;refine bw.o.mono ?_;rintro e u2 ⟨v,rfl,⟨aa,na,ca,af,cf,rfl,c1⟩,cv,en⟩;obtain⟨U2,aW⟩:=ex (u2.alloc (T #[I J r.2.ran,I U r.2.act.kind,I J r.2.act.a,I J r.2.act.b,Y aa na ca,.slice af r.2.faults.length cf] 43));have ba:Bl u2 U2:=by rw[aW];exact(aH _ u2).alloc (ao _) _
     have cx:U2.heap[u2.heap.size]? =Z (T #[I J r.2.ran,I U r.2.act.kind,I J r.2.act.a,I J r.2.act.b,Y aa na ca,.slice af r.2.faults.length cf] 43 (0,0)):=by rw[aW];exact aj _ _
     obtain⟨ax,ay⟩:=H2 (cv.below ba) cx;have ch:Hq (BJ U2 0 (.slice af r.2.faults.length cf) r.2.faults):=Sl.mono (c1.Ag ba.size fun b _ h2=>ba.block b h2) (aJ _);have cl:=HH aW;clear aW ba cx cv c1 ep bw;go_upto_region 11 with (fail);rw[←cl.o];obtain⟨q1,bT⟩:=ex u1.heap.size;obtain⟨q2,bV⟩:=ex u2.heap.size;rw[←bT,←bV];rw[←bT] at ai bD;rw[←bV] at ay;clear bT bV ck cl en;by_cases he:r.2.e=0
     ·rw[show decide (r.2.e=0)=true from decide_eq_true he];have bR:=dA (op:=op) u.o.2 u.o.1 (by rw[←HR.o];exact he);rw[←HR.o] at bR;obtain⟨c,hc⟩:=ex r.1.clock;rw[←hc] at bR;obtain⟨eh,an,cG,cH⟩:=bR;obtain⟨cd,dt,HC⟩:=H3 cG cH hc;clear he cG cH hc;go_wp2_with fail;refine(Zt ax.o.wd).mono ?_;rintro e u3 ⟨b1,b2,b3,b4,b5,b6,b7,b8,dH,dI,dJ,dK,dL,dM,dN,dO,m8,rfl,-,a9⟩;rw[←HC.o];have n:=HH (ax.o.below a9);have bC:Hq (BJ u3 0 (.slice af r.2.faults.length cf) r.2.faults):=Sl.below ch.o a9;have bA:=HH ((a9.block _ (Aa ay.o)).trans ay.o);clear a9 ax ch ay;have hf:=Uu r.1.mode c b1 b2 b3 b4 b5 b6 b7 b8 r.1.procs.length dH r.1.mem.length dI r.1.semas.length dJ r.1.events.length dK r.1.boards.length dL r.1.queues.length dM r.1.queues.length dN m8 dO;go_upto_region 13 with (fail);clear hf;have i:Hq (u3.heap[q1]? =Z (T #[I U s.mode,I J s.clock,Y C s.procs.length ac,Y a2 s.mem.length bd,Y a3 s.semas.length be,Y a4 s.events.length bf,Y a5 s.boards.length bg,Y a6 s.queues.length bh,Y a7 s.queues.length bi,Y a8 n8 bj] 37 (0,0))):=(n.o.blk bD.o (Aa ai.o)).trans ai.o;have az:=HH n.o.wd.bel;have y:=i.o;obtain⟨y0,y1,y2,y3,y4,y5,y6,y7,y8,y9⟩:=DV y;clear y;have z:=bA.o;obtain⟨z0,z1,z2,z3,z4,z5⟩:=r6 z;clear z;have aq:=((az.o).block _ (Aa ah.o)).trans ah.o;obtain⟨x0,x1,x2,x3,x4,x5,x6,x7,x8,x9⟩:=DV aq;clear aq;cases bO:(s.mode==3)
      case' true=>
       have m:s.mode=3:=by simpa using bO
       have cA:(s.mode !=3)=false:=by simp[m]
       have cg:=HH (cR u3 d1 _ _ _ _ _ _ _ _ _ _ _ (ce.o u3 az.o) s u.o.1 C a2 a3 a4 a5 a6 a7 a8 ac s.mem.length bd s.semas.length be s.events.length bf s.boards.length bg s.queues.length bh s.queues.length bi n8 bj (n.o.sl du.o) (c-1) eh an r.2 aa af na ca cf bC.o (cd.o m).1);clear m;go_wp2_with fail;refine cg.o.mono ?_;rintro e u4 ⟨rfl,bJ⟩;have bx:=HH (n.o.below bJ);clear y0 y1 y2 y3 y4 y5 y6 y7 y8 y9 z0 z1 z2 z3 z4 z5 x0 x1 x2 x3 x4 x5 x6 x7 x8 x9 cg;obtain⟨y0,-,y2⟩:=r3 ((bJ.block _ (Aa i.o)).trans i.o);clear bJ n i bA bC az;go_wp2_with fail;clear y0 y2
      case' false=>
       have m:s.mode≠3:=by simpa using bO
       have cA:(s.mode !=3)=true:=by simpa using m
       obtain⟨cB,cC⟩:=dt.o m;rw[cB] at z0;rw[cC] at z5;clear m cB cC;obtain⟨u4,c3⟩:=ex u3;go_wp2_with fail;have bx:=HH n.o;rw[←c3] at bx ⊢;clear y0 y1 y2 y3 y4 y5 y6 y7 y8 y9 z0 z1 z2 z3 z4 z5 x0 x1 x2 x3 x4 x5 x6 x7 x8 x9 n i bA bC az c3
      all_goals
       have eJ:s.procs.length≤6:=by have:=u.o.1.ok.procs;have:=u.o.1.ok.ok.procs;omega
       clear bO cA
       go_loopw [12,13] (fun v _ wx=>∃ j:Nat,j≤s.procs.length∧v=I J j∧Hq (aX B f.heap.size f lo x.heap.size x g1 d1 r.1 wx)) (fun v _ _=>s.procs.length-(cj v).toNat)
       case atStart=>exact⟨0,aJ _,rfl,bx.o⟩
       case round=>
        obtain⟨j,eB,rfl,A⟩:=hrel;have bU:=(A.o.blk bD.o (Aa ai.o)).trans ai.o;have y2:wr.cell? ⟨q1,2,O⟩=Z (Y C s.procs.length ac):=Cr bU;have i:=HH bU;clear bU;by_cases hj:j<s.procs.length
        ·have eE:(j:Int)<(s.procs.length:Int):=by omega
         have HA:=HH A.o;clear A;go_wp2_with fail;refine(Zt HA.o.wd).mono ?_;rintro e u5 ⟨e1,e2,e3,e4,e5,e6,e7,e8,cm,dX,dY,dZ,ea,eb,ec,ed,k8,rfl,c4,bK⟩;have bz:=HH (HA.o.below bK);have ej:r.1.procs.length=s.procs.length:=HA.o.wd.good.ok.procs.trans u.o.1.ok.procs.symm;have hf:=Uv r.1.mode r.1.clock e1 e2 e3 e4 e5 e6 e7 e8 r.1.procs.length cm r.1.mem.length dX r.1.semas.length dY r.1.events.length dZ r.1.boards.length ea r.1.queues.length eb r.1.queues.length ec k8 ed;obtain⟨eA,cS⟩:=aL (JJ.pr c4);obtain⟨pb,po,rfl,_,_,bQ⟩:=cS (by omega);obtain⟨dl,bM⟩:=ex ((r.1.procs.getD j default).deadline);have p0:u5.cell? ⟨pb,po+j*12,O⟩=Z (I U (r.1.procs.getD j default).status):=bQ j 0 _ (by omega) (rfl);have p9:u5.cell? ⟨pb,po+j*12+9,O⟩=Z (I J dl):=by rw[bM];exact bQ j 9 _ (by omega) rfl
         have ct:s.mode=3→¬(0≤dl∧dl≤c-1):=fun m=>by rw[bM];exact(cd.o m).2 j hj
         have eD:(j:Int)<(r.1.procs.length:Int):=by omega
         have eC:j<cm:=by omega
         have y0:u5.cell? ⟨q1,0,O⟩=Z (I U s.mode):=Cr ((bK.block _ (Aa i.o)).trans i.o);have dr:=HH ct;clear y2 c4 bK HA ej cS bQ bM ct;by_cases h0:0≤dl
         ·by_cases l:dl≤c-1
          ·have eI:(s.mode==3)=false:=by simpa using fun h=>dr.o h ⟨h0,l⟩
           go_wp2_with fail
           go_roundw
           case rel=>exact⟨j+1,by omega,by go_num,bz.o⟩
           case measure=>simp[cj];omega
          ·go_wp2_with fail
           go_roundw
           case rel=>exact⟨j+1,by omega,by go_num,bz.o⟩
           case measure=>simp[cj];omega
         ·go_wp2_with fail
          go_roundw
          case rel=>exact⟨j+1,by omega,by go_num,bz.o⟩
          case measure=>simp[cj];omega
        ·obtain rfl:j=s.procs.length:=by omega
         have HZ:=HH A.o.wd;clear A i;go_wp2_with fail
         go_roundw
         case rel=>exact⟨k+1,by omega,by go_num,_,HZ.o⟩
         case measure=>simp[cj];omega
     ·rw[show decide (r.2.e=0)=false from decide_eq_false he];clear he;go_wp2_with fail
      go_roundw
      case rel=>exact⟨k+1,by omega,by go_num,_,ax.o.wd⟩
      case measure=>simp[cj];omega
    ·obtain rfl:k=ops.length:=by omega
     have HZ:=HH hs.bel;clear A hs;go_wp2_with fail;go_ret;exact⟨rfl,t.o.trans ((HZ.o).mono t.o.size)⟩
  ·have hz:=HH HT.o.bel;go_wp2_with fail;go_ret;exact⟨rfl,t.o.trans ((hz.o).mono t.o.size)⟩
end Go.Proofs.YtiepijihpgijbaaGreatDoor
