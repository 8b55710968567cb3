import Derived.Test.YtiepijihpgijbaaGreatDoorQ24
set_option linter.all false
open Go.Value renaming int→I,slice→Y
open Go.IntKind renaming u8→U
open Option renaming some→Z,none→O
open List renaming getD_eq_getElem?_getD→aa,getElem?_eq_getElem→ac,getElem?_eq_none→ad
open Go.Value.slice renaming injEq→ab
open Nat renaming le_trans→ae
namespace Go.Proofs.YtiepijihpgijbaaGreatDoor
open Tryz Go.RowKit
section
variable {d:Ad} {s:Ae} {now:Int}
def aC(k:Nat):((CP now s).1.procs.getD k default).status=(s.procs.getD k default).status∧((CP now s).1.procs.getD k default).since=(s.procs.getD k default).since:=by
 by_cases a:k<s.procs.length
 ·rw[WI k a];exact⟨(MB _).1,(MB _).2.2.2.1⟩
 ·rw[aa,ad (by rw[WK];omega),aa,ad (by omega)];exact⟨rfl,rfl⟩
def aQ(b:Int)(i:Nat):CL d (CP now s).1 b i=CL d s b i:=by
 unfold CL EL;rw[(aC i).1,(aC i).2,(aC b.toNat).2]
def aI:Hw d (CP now s).1=Hw d s:=by
 unfold Hw;rw[WK]
 congr 1
 funext b i;exact aQ b i
def aT(i:s.mode=3)(f:s.clock≤now)(g:now≤1073741824):
  (Hw d (Dl d now s)<0∧A3 d now s=(Jr d now s,⟨Hw d (Dl d now s),zeroA,C7 now 0 (Dl d now s).procs,0⟩))∨
  (0≤Hw d (Dl d now s)∧A3 d now s=((EI d (Hw d (Dl d now s)).toNat now (Jr d now s)).1,⟨Hw d (Dl d now s),(EI d (Hw d (Dl d now s)).toNat now (Jr d now s)).2,C7 now 0 (Dl d now s).procs++(if(EI d (Hw d (Dl d now s)).toNat now (Jr d now s)).2.kind=15 then [⟨Hw d (Dl d now s),(EI d (Hw d (Dl d now s)).toNat now (Jr d now s)).2.a%256,(EI d (Hw d (Dl d now s)).toNat now (Jr d now s)).2.b⟩] else []),0⟩)):=by
 have c:Hw d (Jr d now s)=Hw d (Dl d now s):=by
  show Hw d (CP now (Dl d now {s with clock:=now+1})).1=_;rw[aI];rfl
 have e:(CP now (Dl d now {s with clock:=now+1})).2=C7 now 0 (Dl d now s).procs:=rfl;unfold A3;rw[if_neg (by omega),if_neg (by omega),if_neg (by omega)];simp only[];rw[e];show(_∧(if Hw d (Jr d now s)<0 then _ else _)=_)∨(_∧(if Hw d (Jr d now s)<0 then _ else _)=_);rw[c];by_cases h:Hw d (Dl d now s)<0
 ·refine .inl ⟨h,?_⟩;rw[if_pos h];show(Jr d now s,(⟨Hw d (Jr d now s),zeroA,C7 now 0 (Dl d now s).procs,0⟩:Im))=_;rw[c]
 ·refine .inr ⟨by omega,?_⟩;rw[if_neg h];show((EI d (Hw d (Jr d now s)).toNat now (Jr d now s)).1,(⟨Hw d (Jr d now s),(EI d (Hw d (Jr d now s)).toNat now (Jr d now s)).2,if(EI d (Hw d (Jr d now s)).toNat now (Jr d now s)).2.kind=15 then C7 now 0 (Dl d now s).procs++ [⟨Hw d (Jr d now s),(EI d (Hw d (Jr d now s)).toNat now (Jr d now s)).2.a%256,(EI d (Hw d (Jr d now s)).toNat now (Jr d now s)).2.b⟩] else C7 now 0 (Dl d now s).procs,0⟩:Im))=_;rw[c];split
  ·rfl
  ·rw[List.append_nil]
def aU(b:s.mode=3)(a:(A3 d now s).2.e=0):s.clock≤now∧now≤1073741824:=by
 by_cases h:now<s.clock∨1073741824<now
 ·unfold A3 at a;rw[if_pos h] at a;exact absurd a (show¬(2:Int)=0 by decide)
 ·omega
structure aB(s f:Ae)(t:Im)(now:Int):Prop where
 len:f.procs.length=s.procs.length
 dl:∀ k,k<s.procs.length→¬(0≤(f.procs.getD k default).deadline∧(f.procs.getD k default).deadline≤now)
 oth:∀ k,k<s.procs.length→(k:Int)≠t.ran→((f.procs.getD k default).s=(s.procs.getD k default).s∨((s.procs.getD k default).status=3∧(f.procs.getD k default).status=2))∧(f.procs.getD k default).s.pc=(s.procs.getD k default).s.pc
 mem:f.mem=s.mem∨(t.act.kind=1∧∃ j v,f.mem=s.mem.set j v)
def aA:(Jr d now s).procs.length=s.procs.length:=by
 show(CP now (Dl d now {s with clock:=now+1})).1.procs.length=_;rw[WK,Qm]
def aD(k:Nat):((Jr d now s).procs.getD k default).s=(s.procs.getD k default).s:=by
 show((CP now (Dl d now {s with clock:=now+1})).1.procs.getD k default).s=_;rw[Pf,Qn]
def aR(k:Nat)(a:k<s.procs.length)(h:((Jr d now s).procs.getD k default).status=3):(s.procs.getD k default).status=3:=by
 have h:((CP now (Dl d now {s with clock:=now+1})).1.procs.getD k default).status=3:=h;rw[(aC k).1] at h;have h:((Dl d now s).procs.getD k default).status=3:=h;rw[Yy k a] at h;unfold Dg at h;split at h
 ·have h:(2:Int)=3:=h;omega
 ·exact h
def aF(k:Nat)(a:k<s.procs.length):¬(0≤((Jr d now s).procs.getD k default).deadline∧((Jr d now s).procs.getD k default).deadline≤now):=by
 have e:(Jr d now s).procs.getD k default=CK now ((Dl d now {s with clock:=now+1}).procs.getD k default):=WI k (by rw[Qm];exact a);rw[e];unfold CK;split
 ·show¬((0:Int)≤ -1∧_);omega
 ·rename_i h;unfold GP at h;simp only[Bool.and_eq_true,decide_eq_true_eq] at h;exact h
def aV(w:JF d)(h:Good d s)(j:s.mode=3)(t:(A3 d now s).2.e=0):aB s (A3 d now s).1 (A3 d now s).2 now:=by
 obtain⟨o,g⟩:=aU j t;have x:=h.ok.clock;have u:=h.r3 (now:=now) (by omega) g;rcases aT (d:=d) j o g with ⟨l,e⟩|⟨l,e⟩
 ·rw[e];exact⟨aA,aF,fun k a _=>⟨.inl (aD k),by rw[aD k]⟩,.inl rfl⟩
 ·rw[e];have q:=PK d (Dl d now s);rw[Qm] at q;have n:Hw d (Jr d now s)=Hw d (Dl d now s):=by
   show Hw d (CP now (Dl d now {s with clock:=now+1})).1=_;rw[aI];rfl
  have f:=PL d (Jr d now s) (Jr d now s).procs.length (by show 0≤Hw d (Jr d now s);rw[n];exact l);have f:((Jr d now s).procs.getD (Hw d (Jr d now s)).toNat default).status=2:=f;rw[n] at f;have R:=YH (now:=now) w u (i:=(Hw d (Dl d now s)).toNat) (by rw[aA];omega) f (by omega) g;refine⟨by rw[R.len,aA],fun k a=>?_,fun k a v=>?_,R.mem⟩
  ·by_cases c:k=(Hw d (Dl d now s)).toNat
   ·subst c;have r:=aF (d:=d) (now:=now) _ a;rcases R.own with e|e
    ·rw[e];exact r
    ·rw[e];omega
   ·obtain⟨m,b,_⟩:=R.oth k (by rw[aA];exact a) c;rw[b.deadline];exact aF k a
  ·have c:k≠(Hw d (Dl d now s)).toNat:=by
    rintro e;apply v;show(k:Int)=Hw d (Dl d now s);omega
   obtain⟨m,b,p⟩:=R.oth k (by rw[aA];exact a) c;refine⟨?_,by rw[b.pc,aD]⟩;cases m with
   |false=>exact .inl (by rw[b.same rfl,aD])
   |true=>exact .inr ⟨aR k a (p rfl),b.ready rfl⟩
end
def aM{d:Ad}{s:Ae}{i:List Int}(k:JF d)(h:Good d s)(j:s.mode=3)(a:(Fl d i s).2.e=0):∃ now,aB s (Fl d i s).1 (Fl d i s).2 now:=by
 unfold Fl at a ⊢;split
 ·rename_i b;rw[if_pos b] at a;exact absurd a (show¬((2:Int)=0) by decide)
 ·rename_i b;rw[if_neg b] at a;split
  ·rename_i c;rw[if_pos c] at a;exact absurd a (show¬((2:Int)=0) by decide)
  ·rename_i c;rw[if_neg c] at a;split
   ·rename_i f;rw[if_pos f] at a;exact absurd a (show¬((2:Int)=0) by decide)
   ·rename_i f;rw[if_neg f] at a;split
    ·rename_i g;rw[if_pos g] at a;exact absurd a (show¬((2:Int)=0) by decide)
    ·rename_i g;rw[if_neg g] at a;exact⟨_,aV k h j a⟩
def ZY(a b:List Int):Nat→Nat
 |0=>0
 |k+1=>ZY a b k+if a.getD k 0=b.getD k 0 then 0 else 1
def aG(a:List Int)(k:Nat):ZY a a k=0:=by
 induction k with
 |zero=>rfl
 |succ k b=>simp[ZY,b]
def aN(a:List Int)(j:Nat)(v:Int)(k:Nat):ZY a (a.set j v) k≤if j<k then 1 else 0:=by
 induction k with
 |zero=>simp[ZY]
 |succ k c=>
  rw[ZY];by_cases b:j=k
  ·subst b;rw[if_neg (Nat.lt_irrefl _)] at c;rw[if_pos (Nat.lt_succ_self _)];split<;>omega
  ·have e:(a.set j v).getD k 0=a.getD k 0:=by
    rw[aa,aa,List.getElem?_set_ne b]
   rw[e,if_pos rfl,Nat.add_zero];refine ae c ?_;split
   ·rw[if_pos (by omega)];exact Nat.le_refl _
   ·exact Nat.zero_le _
def aJ{s f:Ae}{t:Im}{now:Int}(h:aB s f t now):f.mem.length=s.mem.length∧(∀ k,ZY s.mem f.mem k≤1)∧∀ k,ZY s.mem f.mem k=1→t.act.kind=1:=by
 rcases h.mem with e|⟨a,j,v,e⟩
 ·rw[e];refine⟨rfl,fun k=>?_,fun k a=>?_⟩
  ·rw[aG];exact Nat.zero_le _
  ·rw[aG] at a;cases a
 ·rw[e];refine⟨List.length_set,fun k=>ae (aN _ _ _ _) (by split<;>omega),fun _ _=>a⟩
def aH(a b c d f g j k:Int)(w:World):(Op.equalIn 9999 47 (.agg #[I U a,I U b,I U c,I U d]) (.agg #[I U f,I U g,I U j,I U k])).run prog w=.ok (decide (a=f∧b=g∧c=j∧d=k)) w:=by
 obtain⟨i,q⟩:∃ i,prog.info? 5=Z i:=by
  cases h:prog.info? 5 with
  |some i=>exact⟨i,rfl⟩
  |none=>
   have e:(prog.info? 5).isSome=true:=by kernel_rfl
   rw[h] at e;cases e
 have p:prog.cellsOf 5=1:=by kernel_rfl
 rw[show (9999:Nat)=9998+1 from rfl,run_equalIn_array w 9998 _ _ underlying47 q,p];simp only[show List.range 4=[0,1,2,3] from rfl,Op.eqItems,Sem.run_bind]
 go_simp
 by_cases l:a=f<;>by_cases m:b=g<;>by_cases n:c=j<;>by_cases o:d=k<;>simp[l,m,n,o]
def aS{s t:St}(q:s.AG.length=4)(u:t.AG.length=4)(o:s.pc=t.pc)(n:s.left=t.left)(i:s.AG.getD 0 0=t.AG.getD 0 0)(j:s.AG.getD 1 0=t.AG.getD 1 0)(k:s.AG.getD 2 0=t.AG.getD 2 0)(m:s.AG.getD 3 0=t.AG.getD 3 0):s=t:=by
 obtain⟨p,l,r⟩:=s;obtain⟨v,l',w⟩:=t
 match r,w,q,u with
 | [a,b,c,d],[e,f,g,h],_,_=>
  obtain rfl:p=v:=o;obtain rfl:l=l':=n;obtain rfl:a=e:=i;obtain rfl:b=f:=j;obtain rfl:c=g:=k;obtain rfl:d=h:=m;rfl
def aE(x:BA):(Em x).length=12:=rfl
def aO(l:List BA):∀ k j,k<l.length→j<12→(l.flatMap Em)[k*12+j]? =(Em (l.getD k default))[j]?:=by
 induction l with
 |nil=>intro k j a;exact absurd a (Nat.not_lt_zero _)
 |cons x l c=>
  intro k j a b;rw[List.flatMap_cons];cases k with
  |zero=>
   rw[Nat.zero_mul,Nat.zero_add,List.getElem?_append_left (by rw[aE];exact b)];rfl
  |succ k=>
   rw[List.getElem?_append_right (by rw[aE];omega),aE,show(k+1)*12+j-12=k*12+j by omega,c k j (by simpa using a) b];rfl
def aL{w:World}{B:Nat}{a:Option Addr}{c:Nat}{l:List BA}(h:Rl w B (Y a l.length c) l):l.length≤c∧(0<l.length→∃ b d,a=Z ⟨b,d,O⟩∧B≤b∧b<w.heap.size∧∀ k j u,k<l.length→(Em (l.getD k default))[j]? =Z u→w.cell? ⟨b,d+k*12+j,O⟩=Z u):=by
 obtain⟨t,cap,f,r,x,v,s⟩:=h;simp only[ab,true_and] at f;obtain⟨rfl,rfl⟩:=f;refine⟨r,fun g=>?_⟩;obtain⟨b,d,m,i,n,o⟩:=s g;refine⟨b,d,m,i,n,fun k j u q e=>?_⟩;have p:j<12:=(List.getElem?_eq_some_iff.1 e).1;rw[Nat.add_assoc];exact o _ u ((aO l k j q p).trans e)
def aK{w:World}{B:Nat}{k:IntKind}{a:Option Addr}{c:Nat}{l:List Int}(h:Af k w B (Y a l.length c) l):l.length≤c∧(0<l.length→∃ b d,a=Z ⟨b,d,O⟩∧B≤b∧b<w.heap.size∧∀ j,j<l.length→w.cell? ⟨b,d+j,O⟩=Z (I k (l.getD j 0))):=by
 obtain⟨r,cap,f,p,t,s,q⟩:=h;simp only[ab,true_and] at f;obtain⟨rfl,rfl⟩:=f;refine⟨p,fun g=>?_⟩;obtain⟨b,d,m,i,n,o⟩:=q g;refine⟨b,d,m,i,n,fun j e=>o j _ ?_⟩;rw[List.getElem?_map,ac e,aa,ac e];rfl
end Go.Proofs.YtiepijihpgijbaaGreatDoor
