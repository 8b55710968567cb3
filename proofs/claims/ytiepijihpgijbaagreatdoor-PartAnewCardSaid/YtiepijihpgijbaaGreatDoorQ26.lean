import Derived.Test.YtiepijihpgijbaaGreatDoorRows
import Derived.Lib.LaidU8
import Derived.LaidMore
import Derived.LaidSub
import Derived.Shelf.Vars
import Derived.Sort.Row
import Derived.Test.YtiepijihpgijbaaGreatDoorQ24
set_option maxRecDepth 100000
set_option linter.all false
open Option renaming some→Z,none→O
open Go.IntKind renaming u8→U,i64→J
open Go.Value renaming slice→Y,int→I
open Go.Obj renaming cells→T
open List renaming getElem?_eq_getElem→aa,getElem?_map→ad,getElem?_take→ap,getElem?_drop→aq,map_cons→ay,getElem?_cons_zero→az,map_nil→aA,getElem?_toArray→aB,all_eq_true→aF
open Option.some renaming inj→ab
open Go.DataW renaming trod→ac,trod_array→au,trod_struct→aE
open Go.Lib.laidMet renaming reads→ae
open Option renaming map_eq_some_iff→af
open Prod.mk renaming injEq→ag
open Array renaming getElem?_toList→ah
open Go.DataW.agg renaming injEq→ai
open Go.Lib renaming TabIs→aj,tabData→ao,asciiSpaceTab→ar,pow10Tab→aC,VarReads→aD
open Go.World renaming var?_cell→ak,block_lt_of_cell?→ax
open List.cons renaming injEq→al
open Go renaming World→am,Value→an,DataW→av,TypeId→aH
open Go.Sort renaming cells_of_cell?→aw
open Prod renaming ext→aG
open Nat renaming add_assoc→aI,zero_add→aJ,add_zero→aK
namespace Go.Proofs.YtiepijihpgijbaaGreatDoor
open Go.RowKit Go.Proofs.Tryz
def Ir{a:List an}{o:Nat}{v:an}(h:(a.drop o).take 1=[v]):a[o]? =Z v:=by
 have:=congrArg (·[0]?) h;simpa[ap,aq] using this
def Oe{a:List an}{o n k m j:Nat}{v:an}(h:(((a.drop o).take n).drop k).take m=[v]):a[o+k]? =Z v:=by
 have:=congrArg (·[0]?) h;simp only[ap,aq,aK,az] at this;split at this
 ·split at this
  ·simpa using this
  ·cases this
 ·cases this
def KC{a:List an}{o n k m i q:Nat}{v:an}(h:(((((a.drop o).take n).drop k).take m).drop i).take q=[v]):a[o+k+i]? =Z v:=by
 have:=congrArg (·[0]?) h;simp only[ap,aq,aK,az] at this;split at this
 ·split at this
  ·split at this
   ·rw[←aI] at this;simpa[aI] using this
   ·cases this
  ·cases this
 ·cases this
def NV(a:Addr):a.add 0=a:=by simp[Addr.add]
def Fa{H:Type}{enc:aH×an→H}{P:Program}{w:am}{base:Nat}{f:Nat→Bool}{d:Bool}{fuel:Nat}{t:aH}{k:IntKind}{a:List an}{z:Int}{p:List MemPlace}(e:P.underlying t=Z (.int k))
  (h:ac enc P w base f d fuel t a=Z (.lit (.int k z),p)):a=[.int k z]:=by
 obtain⟨n,c,b,_⟩:=DataW.trod_int e h;simp only[ag,DataW.lit.injEq,Lit.int.injEq,true_and] at b;rw[c,b.1]
def XS{W:am}{E:Nat→Bool}{y:Bool}{n:Nat}{o:List an}{l:List Int}{p:List MemPlace}
  (h:ac (fun _=>()) prog W 0 E y n 283 o=Z (.slice (l.map fun z=>.lit (.int U z)) [],p)):
  ∃ a c,o=[Y a l.length c]∧l.length≤c∧(∀ q g k,Value.slice a l.length c=Y (Z q) g k→0<g→q.block<W.heap.size)∧Af U W 0 (Y a l.length c) l:=by
 obtain⟨a,cap,r,f,x⟩:=open_row underlying283 (show prog.cellsOf 285=1 by kernel_rfl) h;rw[List.length_map] at r f;have e:∀ j u,(l.map (Value.int U))[j]? =Z u→W.cell? (a.add j)=Z u:=fun j u d=>by
  rw[ad,af] at d;obtain⟨z,D,rfl⟩:=d;obtain⟨v,m,q,C,B⟩:=x j (.lit (.int U z)) (by rw[ad,D];rfl);have:=Fa underlying285 B;simp only[al,and_true] at this;rw[C,this]
 refine⟨Z a,cap,r,f,fun q g k s A=>?_,?_⟩
 ·simp only[Value.slice.injEq,Option.some.injEq] at s;obtain⟨rfl,rfl,rfl⟩:=s;have b:=e 0 (.int U l[0]) (by rw[ad,aa A];rfl);rw[NV] at b;exact ax _ _ b
 ·refine⟨Z a,cap,rfl,f,(fun h=>by cases h),by simp,fun b=>?_⟩;have i:=e 0 (.int U l[0]) (by rw[ad,aa b];rfl);rw[NV] at i;have t:=NW i;refine⟨a.block,a.off,by rw[←t],Nat.zero_le _,ax _ _ i,fun j u d=>?_⟩;have w:=e j u d;rw[t,Cu] at w;exact w
def XR{W:am}{d:Nat→Bool}{b:Bool}{n:Nat}{a:List an}{p:List MemPlace}
  (h:ac (fun _=>()) prog W 0 d b n 283 a=Z (.nil,p)):a=[Y O 0 0]:=by
 rcases DataW.trod_slice underlying283 h with ⟨h,_⟩|⟨e,f,cap,el,g,m,_,_,c,_⟩
 ·exact h
 ·simp at c
def Lh:List (av Unit):=match(Rows.laid_nacelle_proc_operands:av Unit) with| .agg l=>l| _=> []
def XQ:(Rows.laid_nacelle_proc_operands:av Unit)=.agg Lh:=rfl
def XP(k:Nat)(a:k<26):(Lh[k]? =Z .nil∧opsOf (k:Int)=[])∨Lh[k]? =Z (.slice ((opsOf (k:Int)).map fun z=>.lit (.int U z)) []):=by
 match k,a with
 |0,_=>first|exact .inr rfl|exact .inl ⟨rfl,rfl⟩
 |1,_=>first|exact .inr rfl|exact .inl ⟨rfl,rfl⟩
 |2,_=>first|exact .inr rfl|exact .inl ⟨rfl,rfl⟩
 |3,_=>first|exact .inr rfl|exact .inl ⟨rfl,rfl⟩
 |4,_=>first|exact .inr rfl|exact .inl ⟨rfl,rfl⟩
 |5,_=>first|exact .inr rfl|exact .inl ⟨rfl,rfl⟩
 |6,_=>first|exact .inr rfl|exact .inl ⟨rfl,rfl⟩
 |7,_=>first|exact .inr rfl|exact .inl ⟨rfl,rfl⟩
 |8,_=>first|exact .inr rfl|exact .inl ⟨rfl,rfl⟩
 |9,_=>first|exact .inr rfl|exact .inl ⟨rfl,rfl⟩
 |10,_=>first|exact .inr rfl|exact .inl ⟨rfl,rfl⟩
 |11,_=>first|exact .inr rfl|exact .inl ⟨rfl,rfl⟩
 |12,_=>first|exact .inr rfl|exact .inl ⟨rfl,rfl⟩
 |13,_=>first|exact .inr rfl|exact .inl ⟨rfl,rfl⟩
 |14,_=>first|exact .inr rfl|exact .inl ⟨rfl,rfl⟩
 |15,_=>first|exact .inr rfl|exact .inl ⟨rfl,rfl⟩
 |16,_=>first|exact .inr rfl|exact .inl ⟨rfl,rfl⟩
 |17,_=>first|exact .inr rfl|exact .inl ⟨rfl,rfl⟩
 |18,_=>first|exact .inr rfl|exact .inl ⟨rfl,rfl⟩
 |19,_=>first|exact .inr rfl|exact .inl ⟨rfl,rfl⟩
 |20,_=>first|exact .inr rfl|exact .inl ⟨rfl,rfl⟩
 |21,_=>first|exact .inr rfl|exact .inl ⟨rfl,rfl⟩
 |22,_=>first|exact .inr rfl|exact .inl ⟨rfl,rfl⟩
 |23,_=>first|exact .inr rfl|exact .inl ⟨rfl,rfl⟩
 |24,_=>first|exact .inr rfl|exact .inl ⟨rfl,rfl⟩
 |25,_=>first|exact .inr rfl|exact .inl ⟨rfl,rfl⟩
 |k+26,a=>omega
def XM {W:am} (h:aD prog W "nacelle/proc.operands" Rows.laid_nacelle_proc_operands):K5 W.heap.size W:=by
 obtain⟨g,t,u,fuel,p,o,C,E,n⟩:=h;obtain rfl:=ab ((show prog.globalNamed "nacelle/proc.operands" =Z 2 by kernel_rfl).symm.trans o);obtain rfl:=ab ((show(prog.globals[2]?).map (·.type)=Z 284 by kernel_rfl).symm.trans C);rw[XQ] at n;obtain⟨f,m,_,s,_,H,y⟩:=au underlying284 n;simp only[ag,ai] at s;intro k r;have d:=y k r;rw[show prog.cellsOf 283=1 by kernel_rfl,Nat.mul_one,aa (by omega)] at d;have j:Lh[k]? =Z (f[k]'(by omega)).1:=by rw[s.1,ad,aa (by omega)];rfl
 have l:∀ v,(u.toList.drop k).take 1=[v]→W.cell? ⟨2,k,O⟩=Z v:=fun v D=>by
  rw[ak o E k,←ah];exact Ir D
 rcases XP k r with ⟨b,i⟩|b
 ·rw[j] at b;have e:f[k]'(by omega)=(.nil,(f[k]'(by omega)).2):=aG (ab b) rfl;rw[e] at d;rw[i];exact⟨O,0,l _ (XR d),Nat.le_refl _,(fun q K F B=>by simp at B),Af.nil _ _ _⟩
 ·rw[j] at b;have e:f[k]'(by omega)=(.slice ((opsOf (k:Int)).map fun z=>.lit (.int U z)) [],(f[k]'(by omega)).2):=aG (ab b) rfl;rw[e] at d;obtain⟨a,c,A,i,w,x⟩:=XS d;exact⟨a,c,l _ A,i,w,x⟩
def KW:av Unit:=match(Rows.laid_nacelle_proc_instructions:av Unit) with| .iface _ d=>d|d=>d
def VH:(Rows.laid_nacelle_proc_instructions:av Unit)=.iface "func table" KW:=rfl
def M8:List (av (List UInt8)):=match KW.funcsOut with| .agg l=>l| _=> []
def VM:KW.funcsOut=.agg M8:=by kernel_rfl
def M6(k:Nat):List UInt8:=match k with
 |1=> [119,111,114,107]
 |2=> [115,101,116]
 |3=> [97,100,100]
 |4=> [115,117,98]
 |5=> [108,111,97,100]
 |6=> [115,116,111,114,101]
 |7=> [115,101,110,100]
 |8=> [114,101,99,118]
 |9=> [119,97,105,116]
 |10=> [115,105,103,110,97,108]
 |11=> [114,97,105,115,101]
 |12=> [108,111,119,101,114]
 |13=> [117,110,116,105,108]
 |14=> [112,117,116]
 |15=> [103,101,116]
 |16=> [115,104,111,119]
 |17=> [108,111,111,107]
 |18=> [99,108,101,97,114]
 |19=> [110,101,120,116]
 |20=> [106,117,109,112]
 |21=> [122,101,114,111]
 |22=> [108,101,115,115]
 |23=> [100,105,118]
 |24=> [102,97,117,108,116]
 |25=> [115,116,111,112]
 | _=> []
def M7:List UInt8:=[42,110,97,99,101,108,108,101,47,112,114,111,99,46,101,120,101,99,117,116,105,111,110,41,46]
def VL(k:Nat)(a:1≤k)(b:k<26):M8[k]? =Z (.held (40::(M7++M6 k))):=by
 match k,a,b with
 |1,_,_=>show _=_;kernel_rfl
 |2,_,_=>show _=_;kernel_rfl
 |3,_,_=>show _=_;kernel_rfl
 |4,_,_=>show _=_;kernel_rfl
 |5,_,_=>show _=_;kernel_rfl
 |6,_,_=>show _=_;kernel_rfl
 |7,_,_=>show _=_;kernel_rfl
 |8,_,_=>show _=_;kernel_rfl
 |9,_,_=>show _=_;kernel_rfl
 |10,_,_=>show _=_;kernel_rfl
 |11,_,_=>show _=_;kernel_rfl
 |12,_,_=>show _=_;kernel_rfl
 |13,_,_=>show _=_;kernel_rfl
 |14,_,_=>show _=_;kernel_rfl
 |15,_,_=>show _=_;kernel_rfl
 |16,_,_=>show _=_;kernel_rfl
 |17,_,_=>show _=_;kernel_rfl
 |18,_,_=>show _=_;kernel_rfl
 |19,_,_=>show _=_;kernel_rfl
 |20,_,_=>show _=_;kernel_rfl
 |21,_,_=>show _=_;kernel_rfl
 |22,_,_=>show _=_;kernel_rfl
 |23,_,_=>show _=_;kernel_rfl
 |24,_,_=>show _=_;kernel_rfl
 |25,_,_=>show _=_;kernel_rfl
 |0,a,_=>omega
 |k+26,_,b=>omega
def VI(k:Nat)(a:1≤k)(b:k<26):((List.range prog.funcs.size).filter fun f=>(prog.funcs[f]?).any (·.name.toUTF8.data.toList==40::(M7++M6 k)))=[BZ k]:=by
 match k,a,b with
 |1,_,_=>show _=_;kernel_rfl
 |2,_,_=>show _=_;kernel_rfl
 |3,_,_=>show _=_;kernel_rfl
 |4,_,_=>show _=_;kernel_rfl
 |5,_,_=>show _=_;kernel_rfl
 |6,_,_=>show _=_;kernel_rfl
 |7,_,_=>show _=_;kernel_rfl
 |8,_,_=>show _=_;kernel_rfl
 |9,_,_=>show _=_;kernel_rfl
 |10,_,_=>show _=_;kernel_rfl
 |11,_,_=>show _=_;kernel_rfl
 |12,_,_=>show _=_;kernel_rfl
 |13,_,_=>show _=_;kernel_rfl
 |14,_,_=>show _=_;kernel_rfl
 |15,_,_=>show _=_;kernel_rfl
 |16,_,_=>show _=_;kernel_rfl
 |17,_,_=>show _=_;kernel_rfl
 |18,_,_=>show _=_;kernel_rfl
 |19,_,_=>show _=_;kernel_rfl
 |20,_,_=>show _=_;kernel_rfl
 |21,_,_=>show _=_;kernel_rfl
 |22,_,_=>show _=_;kernel_rfl
 |23,_,_=>show _=_;kernel_rfl
 |24,_,_=>show _=_;kernel_rfl
 |25,_,_=>show _=_;kernel_rfl
 |0,a,_=>omega
 |k+26,_,b=>omega
def VG {W:am} (h:funcsAt prog W "nacelle/proc.instructions" KW):LF W:=by
 obtain⟨g,t,b,fuel,p,l,u,v,j⟩:=h;obtain rfl:=ab ((show prog.globalNamed "nacelle/proc.instructions" =Z 1 by kernel_rfl).symm.trans l);obtain rfl:=ab ((show(prog.globals[1]?).map (·.type)=Z 191 by kernel_rfl).symm.trans u);rw[VM] at j;obtain⟨d,m,_,o,_,w,r⟩:=au underlying191 j;simp only[ag,ai] at o;intro k f c;have a:=r k c;have i:M8[k]? =Z (d[k]'(by omega)).1:=by rw[o.1,ad,aa (by omega)];rfl
 rw[VL k f c] at i;have e:d[k]'(by omega)=(.held (40::(M7++M6 k)),(d[k]'(by omega)).2):=aG (ab i).symm rfl;rw[show prog.cellsOf 190=1 by kernel_rfl,Nat.mul_one,aa (by omega),e] at a;rw[ak l v k,←ah];have n:k<b.toList.length:=by
  by_cases s:k<b.toList.length
  ·exact s
  ·rw[List.drop_eq_nil_of_le (by omega)] at a;cases m with
   |zero=>simp[ac] at a
   |succ m=>simp[ac,underlying190] at a
 have q:(b.toList.drop k).take 1=[b.toList[k]]:=by rw[List.drop_eq_getElem_cons n];rfl
 rw[q] at a;rw[aa n,func_of_trod underlying190 (VI k f c) a]
def Mf:List an:=[I U 1,I J 0,I J 0,I U 0,I U 0,I U 0,I U 0,I J 0,I J (-1),I J (-1),I U 0,I J 0]
def SQ {W:am} (h:aD prog W "nacelle/part.dormant" Rows.laid_nacelle_part_dormant):LD W:=by
 obtain⟨g,t,b,fuel,p,l,B,C,k⟩:=h;obtain rfl:=ab ((show prog.globalNamed "nacelle/part.dormant" =Z 0 by kernel_rfl).symm.trans l);obtain rfl:=ab ((show(prog.globals[0]?).map (·.type)=Z 51 by kernel_rfl).symm.trans B);unfold Rows.laid_nacelle_part_dormant at k;obtain⟨H,m,_,n,_,D,c⟩:=aE underlying51 k;simp only[ag,ai] at n;have c1:prog.cellsOf 3=1:=by kernel_rfl
 have c5:prog.cellsOf 5=1:=by kernel_rfl
 have A:prog.cellsOf 49=6:=by kernel_rfl
 have z:prog.cellsOf 47=4:=by kernel_rfl
 match H,D,n.1 with
 | [(x0,N),(x1,P),(x2,Q),(x3,R),(x4,S),(x5,V),(x6,X)],_,o=>
 simp only[ay,aA,al,and_true] at o;obtain⟨rfl,rfl,rfl,rfl,rfl,rfl,rfl⟩:=o;have f0:=c 0 _ rfl;have f1:=c 1 _ rfl;have f2:=c 2 _ rfl;have f3:=c 3 _ rfl;have f4:=c 4 _ rfl;have f5:=c 5 _ rfl;have f6:=c 6 _ rfl;change ac _ _ _ _ _ _ _ 5 ((b.toList.drop 0).take (prog.cellsOf 5))=Z _ at f0;change ac _ _ _ _ _ _ _ 49 ((b.toList.drop 1).take (prog.cellsOf 49))=Z _ at f1;change ac _ _ _ _ _ _ _ 3 ((b.toList.drop 7).take (prog.cellsOf 3))=Z _ at f2;change ac _ _ _ _ _ _ _ 3 ((b.toList.drop 8).take (prog.cellsOf 3))=Z _ at f3;change ac _ _ _ _ _ _ _ 3 ((b.toList.drop 9).take (prog.cellsOf 3))=Z _ at f4;change ac _ _ _ _ _ _ _ 5 ((b.toList.drop 10).take (prog.cellsOf 5))=Z _ at f5;change ac _ _ _ _ _ _ _ 3 ((b.toList.drop 11).take (prog.cellsOf 3))=Z _ at f6;rw[c5] at f0 f5;rw[c1] at f2 f3 f4 f6;rw[A] at f1;obtain⟨ys,L,_,q,_,E,i⟩:=aE underlying49 f1;simp only[ag,ai] at q
 match ys,E,q.1 with
 | [(y0,q0),(y1,q1),(y2,q2)],_,r=>
 simp only[ay,aA,al,and_true] at r;obtain⟨rfl,rfl,rfl⟩:=r;have g0:=i 0 _ rfl;have e:=i 1 _ rfl;have f:=i 2 _ rfl;change ac _ _ _ _ _ _ _ 3 ((((b.toList.drop 1).take 6).drop 0).take (prog.cellsOf 3))=Z _ at g0;change ac _ _ _ _ _ _ _ 3 ((((b.toList.drop 1).take 6).drop 1).take (prog.cellsOf 3))=Z _ at e;change ac _ _ _ _ _ _ _ 47 ((((b.toList.drop 1).take 6).drop 2).take (prog.cellsOf 47))=Z _ at f;rw[c1] at g0 e;rw[z] at f;obtain⟨K,M,_,s,_,F,d⟩:=au underlying47 f;simp only[ag,ai] at s
 match K,F,s.1 with
 | [(z0,r0),(z1,r1),(z2,r2),(z3,r3)],_,v=>
 simp only[ay,aA,al,and_true] at v;obtain⟨rfl,rfl,rfl,rfl⟩:=v;have k0:=d 0 (by decide);have w:=d 1 (by decide);have x:=d 2 (by decide);have y:=d 3 (by decide);rw[c5] at k0 w x y;intro j u a;rw[ak l C _,←ah,aJ]
 match j,a with
 |0,a=>exact(Ir (Fa underlying5 f0)).trans a
 |1,a=>exact(Oe (j:=0) (Fa underlying3 g0)).trans a
 |2,a=>exact(Oe (j:=0) (Fa underlying3 e)).trans a
 |3,a=>exact(KC (Fa underlying5 k0)).trans a
 |4,a=>exact(KC (Fa underlying5 w)).trans a
 |5,a=>exact(KC (Fa underlying5 x)).trans a
 |6,a=>exact(KC (Fa underlying5 y)).trans a
 |7,a=>exact(Ir (Fa underlying3 f2)).trans a
 |8,a=>exact(Ir (Fa underlying3 f3)).trans a
 |9,a=>exact(Ir (Fa underlying3 f4)).trans a
 |10,a=>exact(Ir (Fa underlying5 f5)).trans a
 |11,a=>exact(Ir (Fa underlying3 f6)).trans a
 |j+12,a=>simp at a
def L4{W:am}{a:String}{k:IntKind}{b:List Int}{g:Nat}{t e:aH}{n:Nat}
  (j:prog.globalNamed a=Z g) (o:(prog.globals[g]?).map (·.type)=Z t) (m:prog.underlying t=Z (.array n e)) (i:prog.underlying e=Z (.int k)) (c:prog.cellsOf e=1) (d:prog.cellsOf t=n)
  (h:aD prog W a (ao k b)):aj prog W a k b:=by
 obtain⟨u,v,s,fuel,p,l,q,r,f⟩:=h;obtain rfl:=ab (j.symm.trans l);obtain rfl:=ab (o.symm.trans q);unfold aj;rw[r,←Lib.cells_of_tab m i c d f]
def YW:(Rows.laid_strings_asciiSpace:av Unit)=ao U ar:=by kernel_rfl
def XY:(Rows.laid_internal_strconv_uint64pow10:av Unit)=ao .u64 aC:=by kernel_rfl
def EC:List (String×av Unit):=[("math/bits.deBruijn32tab",Rows.laid_math_bits_deBruijn32tab),("math/bits.deBruijn64tab",Rows.laid_math_bits_deBruijn64tab),("internal/strconv.uint64pow10",Rows.laid_internal_strconv_uint64pow10),("nacelle/proc.operands",Rows.laid_nacelle_proc_operands),("nacelle/proc.instructions",Rows.laid_nacelle_proc_instructions),("unicode.White_Space",Rows.laid_unicode_White_Space),("strings.asciiSpace",Rows.laid_strings_asciiSpace),("nacelle/part.dormant",Rows.laid_nacelle_part_dormant)]
def Pd:(EC.filter fun x=>x.2.handleName?.isNone)=[("math/bits.deBruijn32tab",Rows.laid_math_bits_deBruijn32tab),("math/bits.deBruijn64tab",Rows.laid_math_bits_deBruijn64tab),("internal/strconv.uint64pow10",Rows.laid_internal_strconv_uint64pow10),("nacelle/proc.operands",Rows.laid_nacelle_proc_operands),("unicode.White_Space",Rows.laid_unicode_White_Space),("strings.asciiSpace",Rows.laid_strings_asciiSpace),("nacelle/part.dormant",Rows.laid_nacelle_part_dormant)]:=by kernel_rfl
def Jw{g n:Nat}{W:am}(h:W.ShapedOpen prog)(k:g<prog.globals.size)(b:(((begin prog (fun _ _=>0) default).world.heap[g]?).bind Obj.row?).map (·.1.size)=Z n){o:Nat}{v:an}(l:W.cell? ⟨g,o,O⟩=Z v):o<n:=by
 obtain⟨⟨zero,t⟩,d,f⟩:=af.1 b;obtain⟨m,i,q,_⟩:=h.1 g zero t k d;obtain⟨c,e,p,a,j⟩:=aw l;rw[i] at a;cases a;have:=(Array.getElem?_eq_some_iff.1 j).1;dsimp only at f;omega
def KX(n:Int):an→Bool| I U m=>m==n| _=>false
def Pa{l:List an}{j n:Nat}(a:(l.all fun u=>!KX n u)=true)(h:l[j]? =Z (I U n)):False:=by
 have:=aF.1 a _ (List.mem_of_getElem? h);simp[KX] at this
def three{W:am}(h:K5 W.heap.size W):∃ b d,b<W.heap.size∧W.cell? ⟨b,d,O⟩=Z (I U 2)∧W.cell? ⟨b,d+1,O⟩=Z (I U 4)∧W.cell? ⟨b,d+2,O⟩=Z (I U 2):=by
 obtain⟨a,c,_,_,_,i,j,k,_,_,_,g⟩:=h 5 (by decide);obtain⟨b,d,_,_,f,e⟩:=g (by decide);exact⟨b,d,f,e 0 _ rfl,e 1 _ rfl,e 2 _ rfl⟩
def MJ{W:am}{h:String}{k:IntKind}{a:List Int}{g c:Nat}(o:aj prog W h k a)(l:prog.globalNamed h=Z g)
  (n:((List.range a.length).all fun i=>!(a[i]? ==Z 2 && a[i+2]? ==Z 2))=true) (e:W.cell? ⟨g,c,O⟩=Z (I k 2)) (f:W.cell? ⟨g,c+2,O⟩=Z (I k 2)):False:=by
 rw[ak l o,aB,ad,af] at e f;obtain⟨p,b,j⟩:=e;obtain⟨q,d,q2⟩:=f;simp only[Value.int.injEq,true_and] at j q2;rw[j] at b;rw[q2] at d;have m:=(List.getElem?_eq_some_iff.1 b).1;have:=aF.1 n c (List.mem_range.2 m);rw[b,d] at this;exact absurd this (by decide)
def On:List Int:=[0,1,28,2,29,14,24,3,30,22,20,15,25,17,4,8,31,27,13,23,21,19,16,7,26,12,18,6,11,5,10,9]
def Oo:List Int:=[0,1,56,2,57,49,28,3,61,58,42,50,38,29,17,4,62,47,59,36,45,43,51,22,53,39,33,30,24,18,12,5,63,55,48,27,60,41,37,16,46,35,44,21,52,32,23,11,54,26,40,15,34,20,31,10,25,14,19,9,13,8,7,6]
def S1:(Rows.laid_math_bits_deBruijn32tab:av Unit)=ao U On:=by kernel_rfl
def S2:(Rows.laid_math_bits_deBruijn64tab:av Unit)=ao U Oo:=by kernel_rfl
def P6:Option Obj→Bool|some (T c _ _)=>c.toList.all fun u=>!KX 2 u| _=>true
def X6{c:Array an}{t:aH}{a:Nat×Nat}{d:Nat}(h:P6 (Z (T c t a))=true)(b:c[d]? =Z (I U 2)):False:=
 Pa (n:=2) h (by rw[ah];exact b)
def Rw{c:Array an}{t:aH}{a:Nat×Nat}{o:Obj}(h:Obj.alike (T c t a) o):o=T c t a:=by
 cases o<;>first|exact h.symm|exact(h:_=_).symm
def beyond{W:am}(h:W.ShapedOpen prog){k q:Nat}(g:prog.globals.size≤k)(i:k<(begin prog (fun _ _=>0) default).world.heap.size)(d:P6 ((begin prog (fun _ _=>0) default).world.heap[k]?)=true)(n:W.cell? ⟨k,q,O⟩=Z (I U 2)):False:=by
 obtain⟨o,p,j,l,a⟩:=h.2 k g i;obtain⟨c,e,f,b,m⟩:=aw n;rw[j] at b;cases b;have:p=T c e f:=by
  split at a
  ·exact Rw a
  ·exact a.symm
 rw[l,this] at d;exact X6 d m
def YT {W:am} (h:W.ShapedOpen prog) (l:K5 W.heap.size W) (r:LF W) (q:LD W) (t:aj prog W "strings.asciiSpace" U ar) (s:aj prog W "internal/strconv.uint64pow10" .u64 aC)
  (o:aj prog W "math/bits.deBruijn32tab" U On) (p:aj prog W "math/bits.deBruijn64tab" U Oo):16≤W.heap.size:=by
 obtain⟨b,f,v,d,c1,c2⟩:=three l;by_cases i:b<15
 ·exfalso
  match b,i,d,c1,c2 with
  |0,_,d,c1,c2=>
   have m:=Jw h (of_decide_eq_true (by kernel_rfl)) (n:=12) (by kernel_rfl) c2;have k:f<Mf.length:=by show f<12;omega
   have:=q f Mf[f] (aa k);rw[aJ,d] at this;exact Pa (n:=2) (j:=f) (show(Mf.all fun u=>!KX 2 u)=true from rfl) (by rw[aa k];exact this.symm)
  |1,_,d,c1,c2=>
   have m:=Jw h (of_decide_eq_true (by kernel_rfl)) (n:=26) (by kernel_rfl) c2;have:=r (f+1) (by omega) (by omega);rw[c1] at this;simp at this
  |2,_,d,c1,c2=>
   have m:=Jw h (of_decide_eq_true (by kernel_rfl)) (n:=26) (by kernel_rfl) c2;obtain⟨a,c,g,_⟩:=l f (by omega);rw[d] at g;simp at g
  |3,_,d,c1,c2=>exact MJ t Mx (by decide+kernel) d c2
  |4,_,d,c1,c2=>have:=Jw h (of_decide_eq_true (by kernel_rfl)) (n:=1) (by kernel_rfl) c1;omega
  |5,_,d,c1,c2=>have:=Jw h (of_decide_eq_true (by kernel_rfl)) (n:=1) (by kernel_rfl) c1;omega
  |6,_,d,c1,c2=>
   rw[ak Mw s,aB,ad,af] at d;obtain⟨z,_,e⟩:=d;simp at e
  |7,_,d,c1,c2=>exact MJ o (show prog.globalNamed "math/bits.deBruijn32tab" =Z 7 by kernel_rfl) (by decide+kernel) d c2
  |8,_,d,c1,c2=>exact MJ p (show prog.globalNamed "math/bits.deBruijn64tab" =Z 8 by kernel_rfl) (by decide+kernel) d c2
  |9,_,d,c1,c2=>have:=Jw h (of_decide_eq_true (by kernel_rfl)) (n:=1) (by kernel_rfl) c1;omega
  |10,_,d,c1,c2=>exact beyond h (of_decide_eq_true (by kernel_rfl)) (of_decide_eq_true (by kernel_rfl)) (by kernel_rfl) d
  |11,_,d,c1,c2=>exact beyond h (of_decide_eq_true (by kernel_rfl)) (of_decide_eq_true (by kernel_rfl)) (by kernel_rfl) d
  |12,_,d,c1,c2=>exact beyond h (of_decide_eq_true (by kernel_rfl)) (of_decide_eq_true (by kernel_rfl)) (by kernel_rfl) d
  |13,_,d,c1,c2=>exact beyond h (of_decide_eq_true (by kernel_rfl)) (of_decide_eq_true (by kernel_rfl)) (by kernel_rfl) d
  |14,_,d,c1,c2=>exact beyond h (of_decide_eq_true (by kernel_rfl)) (of_decide_eq_true (by kernel_rfl)) (by kernel_rfl) d
  |b+15,i,_,_,_=>omega
 ·omega
def Q3 {W:am} (a:laidMet prog [("math/bits.deBruijn32tab",Rows.laid_math_bits_deBruijn32tab),("math/bits.deBruijn64tab",Rows.laid_math_bits_deBruijn64tab),("internal/strconv.uint64pow10",Rows.laid_internal_strconv_uint64pow10),("nacelle/proc.operands",Rows.laid_nacelle_proc_operands),("unicode.White_Space",Rows.laid_unicode_White_Space),("strings.asciiSpace",Rows.laid_strings_asciiSpace),("nacelle/part.dormant",Rows.laid_nacelle_part_dormant)] W):aj prog W "strings.asciiSpace" U ar:=by
 refine L4 Mx (t:=304) (n:=256) (e:=5) (by kernel_rfl) underlying304 underlying5 (by kernel_rfl) (by kernel_rfl) ?_;rw[←YW];exact ae a (by simp)
def PJ {W:am} (a:laidMet prog [("math/bits.deBruijn32tab",Rows.laid_math_bits_deBruijn32tab),("math/bits.deBruijn64tab",Rows.laid_math_bits_deBruijn64tab),("internal/strconv.uint64pow10",Rows.laid_internal_strconv_uint64pow10),("nacelle/proc.operands",Rows.laid_nacelle_proc_operands),("unicode.White_Space",Rows.laid_unicode_White_Space),("strings.asciiSpace",Rows.laid_strings_asciiSpace),("nacelle/part.dormant",Rows.laid_nacelle_part_dormant)] W):aj prog W "internal/strconv.uint64pow10" .u64 aC:=by
 refine L4 Mw (t:=322) (n:=20) (e:=232) (by kernel_rfl) underlying322 underlying232 (by kernel_rfl) (by kernel_rfl) ?_;rw[←XY];exact ae a (by simp)
def UI{W:am}(b:laidMetH prog EC W)(h:W.ShapedOpen prog):Gl W.heap.size W:=by
 have a:=(laidMetH_iff.1 b).1;rw[Pd] at a;have f:=XM (ae a (n:= "nacelle/proc.operands") (by simp));have d:=VG (b.funcs (by simp[EC,VH]));have c:=SQ (ae a (n:= "nacelle/part.dormant") (by simp));refine⟨YT h f d c (Q3 a) (PJ a) (L4 (g:=7) (by kernel_rfl) (t:=340) (n:=32) (e:=5) (by kernel_rfl) underlying340 underlying5 (by kernel_rfl) (by kernel_rfl) ?_) (L4 (g:=8) (by kernel_rfl) (t:=341) (n:=64) (e:=5) (by kernel_rfl) underlying341 underlying5 (by kernel_rfl) (by kernel_rfl) ?_),Nat.le_refl _,f,d,c⟩
 ·rw[←S1];exact ae a (by simp)
 ·rw[←S2];exact ae a (by simp)
def UJ{W:am}(b:laidMetH prog EC W)(c:W.ShapedOpen prog):Ce W:=by
 have a:=(laidMetH_iff.1 b).1;rw[Pd] at a;exact⟨Q3 a,PJ a,cell_of_shapedOpen_int (t:=3) (zero:=#[I J 0]) c (of_decide_eq_true (by kernel_rfl)) (by kernel_rfl) rfl (by kernel_rfl) (by kernel_rfl) underlying3⟩
end Go.Proofs.YtiepijihpgijbaaGreatDoor
