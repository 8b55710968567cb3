import Derived.Test.YtiepijihpgijbaaGreatDoorRows
import Derived.Lib.LaidU8
import Derived.LaidMore
import Derived.LaidSub
import Derived.Shelf.Vars
import Derived.Sort.Row
import Derived.Handed
import Derived.Stop.Joined
import Derived.Test.YtiepijihpgijbaaGreatDoorQ6
set_option maxHeartbeats 0
set_option maxRecDepth 100000
set_option linter.all false
open Option renaming some→Z,none→O
open Go.IntKind renaming u8→U,i64→J
open Go.Value renaming slice→Y,int→I
open Go.Obj renaming cells→T
open List renaming getElem?_eq_getElem→aa,getElem?_map→ad,getElem?_take→ap,getElem?_drop→aq,map_cons→ay,getElem?_cons_zero→az,map_nil→aA,getElem?_toArray→aC,all_eq_true→aH
open Option.some renaming inj→ab
open Go.DataW renaming trod→ac,trod_array→av,trod_struct→aF,laidRun→aK
open Go.Lib.laidMet renaming reads→ae
open Go renaming Value→af,World→ak,DataW→ar,TypeId→aG,MemPlace→aI
open Option renaming map_eq_some_iff→ag
open Prod.mk renaming injEq→ah
open Array renaming getElem?_toList→ai
open Go.DataW.agg renaming injEq→aj
open Go.Lib renaming TabIs→al,tabData→ao,asciiSpaceTab→au,pow10Tab→aD,VarReads→aE
open Go.World renaming var?_cell→am,block_lt_of_cell?→ax
open List.cons renaming injEq→an
open Go.Sort renaming cells_of_cell?→aw
open Go.OpenSpec renaming ofChange→aB
open Prod renaming ext→aJ
open Nat renaming add_assoc→aL,zero_add→aN,add_zero→aO
open Go.Frame renaming enter→aM
namespace Go.Proofs.YtiepijihpgijbaaGreatDoor
open Go.RowKit Go.Proofs.Tryz Go.ChangeShapes Go.WideShapes Go.ChangeAt
def Ir{a:List af}{o:Nat}{v:af}(h:(a.drop o).take 1=[v]):a[o]? =Z v:=by
 have:=congrArg (·[0]?) h;simpa[ap,aq] using this
def Oe{a:List af}{o n k m j:Nat}{v:af}(h:(((a.drop o).take n).drop k).take m=[v]):a[o+k]? =Z v:=by
 have:=congrArg (·[0]?) h;simp only[ap,aq,aO,az] at this;split at this
 ·split at this
  ·simpa using this
  ·cases this
 ·cases this
def KC{a:List af}{o n k m i q:Nat}{v:af}(h:(((((a.drop o).take n).drop k).take m).drop i).take q=[v]):a[o+k+i]? =Z v:=by
 have:=congrArg (·[0]?) h;simp only[ap,aq,aO,az] at this;split at this
 ·split at this
  ·split at this
   ·rw[←aL] at this;simpa[aL] using this
   ·cases this
  ·cases this
 ·cases this
def NV(a:Addr):a.add 0=a:=by simp[Addr.add]
def Fa{H:Type}{enc:aG×af→H}{P:Program}{w:ak}{base:Nat}{f:Nat→Bool}{d:Bool}{fuel:Nat}{t:aG}{k:IntKind}{a:List af}{z:Int}{p:List aI}(e:P.underlying t=Z (.int k))
  (h:ac enc P w base f d fuel t a=Z (.lit (.int k z),p)):a=[.int k z]:=by
 obtain⟨n,c,b,_⟩:=DataW.trod_int e h;simp only[ah,DataW.lit.injEq,Lit.int.injEq,true_and] at b;rw[c,b.1]
def XS{W:ak}{E:Nat→Bool}{y:Bool}{n:Nat}{o:List af}{l:List Int}{p:List aI}
  (h:ac (fun _=>()) prog W 0 E y n 283 o=Z (.slice (l.map fun z=>.lit (.int U z)) [],p)):
  ∃ a c,o=[Y a l.length c]∧l.length≤c∧(∀ q g k,Value.slice a l.length c=Y (Z q) g k→0<g→q.block<W.heap.size)∧Af U W 0 (Y a l.length c) l:=by
 obtain⟨a,cap,r,f,x⟩:=open_row underlying283 (show prog.cellsOf 285=1 by kernel_rfl) h;rw[List.length_map] at r f;have e:∀ j u,(l.map (Value.int U))[j]? =Z u→W.cell? (a.add j)=Z u:=fun j u d=>by
  rw[ad,ag] at d;obtain⟨z,D,rfl⟩:=d;obtain⟨v,m,q,C,B⟩:=x j (.lit (.int U z)) (by rw[ad,D];rfl);have:=Fa underlying285 B;simp only[an,and_true] at this;rw[C,this]
 refine⟨Z a,cap,r,f,fun q g k s A=>?_,?_⟩
 ·simp only[Value.slice.injEq,Option.some.injEq] at s;obtain⟨rfl,rfl,rfl⟩:=s;have b:=e 0 (.int U l[0]) (by rw[ad,aa A];rfl);rw[NV] at b;exact ax _ _ b
 ·refine⟨Z a,cap,rfl,f,(fun h=>by cases h),by simp,fun b=>?_⟩;have i:=e 0 (.int U l[0]) (by rw[ad,aa b];rfl);rw[NV] at i;have t:=NW i;refine⟨a.block,a.off,by rw[←t],Nat.zero_le _,ax _ _ i,fun j u d=>?_⟩;have w:=e j u d;rw[t,Cu] at w;exact w
def XR{W:ak}{d:Nat→Bool}{b:Bool}{n:Nat}{a:List af}{p:List aI}
  (h:ac (fun _=>()) prog W 0 d b n 283 a=Z (.nil,p)):a=[Y O 0 0]:=by
 rcases DataW.trod_slice underlying283 h with ⟨h,_⟩|⟨e,f,cap,el,g,m,_,_,c,_⟩
 ·exact h
 ·simp at c
def Lh:List (ar Unit):=match(Rows.laid_nacelle_proc_operands:ar Unit) with| .agg l=>l| _=> []
def XQ:(Rows.laid_nacelle_proc_operands:ar Unit)=.agg Lh:=rfl
def XP(k:Nat)(a:k<26):(Lh[k]? =Z .nil∧opsOf (k:Int)=[])∨Lh[k]? =Z (.slice ((opsOf (k:Int)).map fun z=>.lit (.int U z)) []):=by
 match k,a with
 |0,_=>first|exact .inr rfl|exact .inl ⟨rfl,rfl⟩
 |1,_=>first|exact .inr rfl|exact .inl ⟨rfl,rfl⟩
 |2,_=>first|exact .inr rfl|exact .inl ⟨rfl,rfl⟩
 |3,_=>first|exact .inr rfl|exact .inl ⟨rfl,rfl⟩
 |4,_=>first|exact .inr rfl|exact .inl ⟨rfl,rfl⟩
 |5,_=>first|exact .inr rfl|exact .inl ⟨rfl,rfl⟩
 |6,_=>first|exact .inr rfl|exact .inl ⟨rfl,rfl⟩
 |7,_=>first|exact .inr rfl|exact .inl ⟨rfl,rfl⟩
 |8,_=>first|exact .inr rfl|exact .inl ⟨rfl,rfl⟩
 |9,_=>first|exact .inr rfl|exact .inl ⟨rfl,rfl⟩
 |10,_=>first|exact .inr rfl|exact .inl ⟨rfl,rfl⟩
 |11,_=>first|exact .inr rfl|exact .inl ⟨rfl,rfl⟩
 |12,_=>first|exact .inr rfl|exact .inl ⟨rfl,rfl⟩
 |13,_=>first|exact .inr rfl|exact .inl ⟨rfl,rfl⟩
 |14,_=>first|exact .inr rfl|exact .inl ⟨rfl,rfl⟩
 |15,_=>first|exact .inr rfl|exact .inl ⟨rfl,rfl⟩
 |16,_=>first|exact .inr rfl|exact .inl ⟨rfl,rfl⟩
 |17,_=>first|exact .inr rfl|exact .inl ⟨rfl,rfl⟩
 |18,_=>first|exact .inr rfl|exact .inl ⟨rfl,rfl⟩
 |19,_=>first|exact .inr rfl|exact .inl ⟨rfl,rfl⟩
 |20,_=>first|exact .inr rfl|exact .inl ⟨rfl,rfl⟩
 |21,_=>first|exact .inr rfl|exact .inl ⟨rfl,rfl⟩
 |22,_=>first|exact .inr rfl|exact .inl ⟨rfl,rfl⟩
 |23,_=>first|exact .inr rfl|exact .inl ⟨rfl,rfl⟩
 |24,_=>first|exact .inr rfl|exact .inl ⟨rfl,rfl⟩
 |25,_=>first|exact .inr rfl|exact .inl ⟨rfl,rfl⟩
 |k+26,a=>omega
def XM {W:ak} (h:aE prog W "nacelle/proc.operands" Rows.laid_nacelle_proc_operands):K5 W.heap.size W:=by
 obtain⟨g,t,u,fuel,p,o,C,E,n⟩:=h;obtain rfl:=ab ((show prog.globalNamed "nacelle/proc.operands" =Z 2 by kernel_rfl).symm.trans o);obtain rfl:=ab ((show(prog.globals[2]?).map (·.type)=Z 284 by kernel_rfl).symm.trans C);rw[XQ] at n;obtain⟨f,m,_,s,_,H,y⟩:=av underlying284 n;simp only[ah,aj] at s;intro k r;have d:=y k r;rw[show prog.cellsOf 283=1 by kernel_rfl,Nat.mul_one,aa (by omega)] at d;have j:Lh[k]? =Z (f[k]'(by omega)).1:=by rw[s.1,ad,aa (by omega)];rfl
 have l:∀ v,(u.toList.drop k).take 1=[v]→W.cell? ⟨2,k,O⟩=Z v:=fun v D=>by
  rw[am o E k,←ai];exact Ir D
 rcases XP k r with ⟨b,i⟩|b
 ·rw[j] at b;have e:f[k]'(by omega)=(.nil,(f[k]'(by omega)).2):=aJ (ab b) rfl;rw[e] at d;rw[i];exact⟨O,0,l _ (XR d),Nat.le_refl _,(fun q K F B=>by simp at B),Af.nil _ _ _⟩
 ·rw[j] at b;have e:f[k]'(by omega)=(.slice ((opsOf (k:Int)).map fun z=>.lit (.int U z)) [],(f[k]'(by omega)).2):=aJ (ab b) rfl;rw[e] at d;obtain⟨a,c,A,i,w,x⟩:=XS d;exact⟨a,c,l _ A,i,w,x⟩
def KW:ar Unit:=match(Rows.laid_nacelle_proc_instructions:ar Unit) with| .iface _ d=>d|d=>d
def VH:(Rows.laid_nacelle_proc_instructions:ar Unit)=.iface "func table" KW:=rfl
def M8:List (ar (List UInt8)):=match KW.funcsOut with| .agg l=>l| _=> []
def VM:KW.funcsOut=.agg M8:=by kernel_rfl
def M6(k:Nat):List UInt8:=match k with
 |1=> [119,111,114,107]
 |2=> [115,101,116]
 |3=> [97,100,100]
 |4=> [115,117,98]
 |5=> [108,111,97,100]
 |6=> [115,116,111,114,101]
 |7=> [115,101,110,100]
 |8=> [114,101,99,118]
 |9=> [119,97,105,116]
 |10=> [115,105,103,110,97,108]
 |11=> [114,97,105,115,101]
 |12=> [108,111,119,101,114]
 |13=> [117,110,116,105,108]
 |14=> [112,117,116]
 |15=> [103,101,116]
 |16=> [115,104,111,119]
 |17=> [108,111,111,107]
 |18=> [99,108,101,97,114]
 |19=> [110,101,120,116]
 |20=> [106,117,109,112]
 |21=> [122,101,114,111]
 |22=> [108,101,115,115]
 |23=> [100,105,118]
 |24=> [102,97,117,108,116]
 |25=> [115,116,111,112]
 | _=> []
def M7:List UInt8:=[42,110,97,99,101,108,108,101,47,112,114,111,99,46,101,120,101,99,117,116,105,111,110,41,46]
def VL(k:Nat)(a:1≤k)(b:k<26):M8[k]? =Z (.held (40::(M7++M6 k))):=by
 match k,a,b with
 |1,_,_=>show _=_;kernel_rfl
 |2,_,_=>show _=_;kernel_rfl
 |3,_,_=>show _=_;kernel_rfl
 |4,_,_=>show _=_;kernel_rfl
 |5,_,_=>show _=_;kernel_rfl
 |6,_,_=>show _=_;kernel_rfl
 |7,_,_=>show _=_;kernel_rfl
 |8,_,_=>show _=_;kernel_rfl
 |9,_,_=>show _=_;kernel_rfl
 |10,_,_=>show _=_;kernel_rfl
 |11,_,_=>show _=_;kernel_rfl
 |12,_,_=>show _=_;kernel_rfl
 |13,_,_=>show _=_;kernel_rfl
 |14,_,_=>show _=_;kernel_rfl
 |15,_,_=>show _=_;kernel_rfl
 |16,_,_=>show _=_;kernel_rfl
 |17,_,_=>show _=_;kernel_rfl
 |18,_,_=>show _=_;kernel_rfl
 |19,_,_=>show _=_;kernel_rfl
 |20,_,_=>show _=_;kernel_rfl
 |21,_,_=>show _=_;kernel_rfl
 |22,_,_=>show _=_;kernel_rfl
 |23,_,_=>show _=_;kernel_rfl
 |24,_,_=>show _=_;kernel_rfl
 |25,_,_=>show _=_;kernel_rfl
 |0,a,_=>omega
 |k+26,_,b=>omega
def VI(k:Nat)(a:1≤k)(b:k<26):((List.range prog.funcs.size).filter fun f=>(prog.funcs[f]?).any (·.name.toUTF8.data.toList==40::(M7++M6 k)))=[BZ k]:=by
 match k,a,b with
 |1,_,_=>show _=_;kernel_rfl
 |2,_,_=>show _=_;kernel_rfl
 |3,_,_=>show _=_;kernel_rfl
 |4,_,_=>show _=_;kernel_rfl
 |5,_,_=>show _=_;kernel_rfl
 |6,_,_=>show _=_;kernel_rfl
 |7,_,_=>show _=_;kernel_rfl
 |8,_,_=>show _=_;kernel_rfl
 |9,_,_=>show _=_;kernel_rfl
 |10,_,_=>show _=_;kernel_rfl
 |11,_,_=>show _=_;kernel_rfl
 |12,_,_=>show _=_;kernel_rfl
 |13,_,_=>show _=_;kernel_rfl
 |14,_,_=>show _=_;kernel_rfl
 |15,_,_=>show _=_;kernel_rfl
 |16,_,_=>show _=_;kernel_rfl
 |17,_,_=>show _=_;kernel_rfl
 |18,_,_=>show _=_;kernel_rfl
 |19,_,_=>show _=_;kernel_rfl
 |20,_,_=>show _=_;kernel_rfl
 |21,_,_=>show _=_;kernel_rfl
 |22,_,_=>show _=_;kernel_rfl
 |23,_,_=>show _=_;kernel_rfl
 |24,_,_=>show _=_;kernel_rfl
 |25,_,_=>show _=_;kernel_rfl
 |0,a,_=>omega
 |k+26,_,b=>omega
def VG {W:ak} (h:funcsAt prog W "nacelle/proc.instructions" KW):LF W:=by
 obtain⟨g,t,b,fuel,p,l,u,v,j⟩:=h;obtain rfl:=ab ((show prog.globalNamed "nacelle/proc.instructions" =Z 1 by kernel_rfl).symm.trans l);obtain rfl:=ab ((show(prog.globals[1]?).map (·.type)=Z 191 by kernel_rfl).symm.trans u);rw[VM] at j;obtain⟨d,m,_,o,_,w,r⟩:=av underlying191 j;simp only[ah,aj] at o;intro k f c;have a:=r k c;have i:M8[k]? =Z (d[k]'(by omega)).1:=by rw[o.1,ad,aa (by omega)];rfl
 rw[VL k f c] at i;have e:d[k]'(by omega)=(.held (40::(M7++M6 k)),(d[k]'(by omega)).2):=aJ (ab i).symm rfl;rw[show prog.cellsOf 190=1 by kernel_rfl,Nat.mul_one,aa (by omega),e] at a;rw[am l v k,←ai];have n:k<b.toList.length:=by
  by_cases s:k<b.toList.length
  ·exact s
  ·rw[List.drop_eq_nil_of_le (by omega)] at a;cases m with
   |zero=>simp[ac] at a
   |succ m=>simp[ac,underlying190] at a
 have q:(b.toList.drop k).take 1=[b.toList[k]]:=by rw[List.drop_eq_getElem_cons n];rfl
 rw[q] at a;rw[aa n,func_of_trod underlying190 (VI k f c) a]
def Mf:List af:=[I U 1,I J 0,I J 0,I U 0,I U 0,I U 0,I U 0,I J 0,I J (-1),I J (-1),I U 0,I J 0]
def SQ {W:ak} (h:aE prog W "nacelle/part.dormant" Rows.laid_nacelle_part_dormant):LD W:=by
 obtain⟨g,t,b,fuel,p,l,B,C,k⟩:=h;obtain rfl:=ab ((show prog.globalNamed "nacelle/part.dormant" =Z 0 by kernel_rfl).symm.trans l);obtain rfl:=ab ((show(prog.globals[0]?).map (·.type)=Z 51 by kernel_rfl).symm.trans B);unfold Rows.laid_nacelle_part_dormant at k;obtain⟨H,m,_,n,_,D,c⟩:=aF underlying51 k;simp only[ah,aj] at n;have c1:prog.cellsOf 3=1:=by kernel_rfl
 have c5:prog.cellsOf 5=1:=by kernel_rfl
 have A:prog.cellsOf 49=6:=by kernel_rfl
 have z:prog.cellsOf 47=4:=by kernel_rfl
 match H,D,n.1 with
 | [(x0,N),(x1,P),(x2,Q),(x3,R),(x4,S),(x5,V),(x6,X)],_,o=>
 simp only[ay,aA,an,and_true] at o;obtain⟨rfl,rfl,rfl,rfl,rfl,rfl,rfl⟩:=o;have f0:=c 0 _ rfl;have f1:=c 1 _ rfl;have f2:=c 2 _ rfl;have f3:=c 3 _ rfl;have f4:=c 4 _ rfl;have f5:=c 5 _ rfl;have f6:=c 6 _ rfl;change ac _ _ _ _ _ _ _ 5 ((b.toList.drop 0).take (prog.cellsOf 5))=Z _ at f0;change ac _ _ _ _ _ _ _ 49 ((b.toList.drop 1).take (prog.cellsOf 49))=Z _ at f1;change ac _ _ _ _ _ _ _ 3 ((b.toList.drop 7).take (prog.cellsOf 3))=Z _ at f2;change ac _ _ _ _ _ _ _ 3 ((b.toList.drop 8).take (prog.cellsOf 3))=Z _ at f3;change ac _ _ _ _ _ _ _ 3 ((b.toList.drop 9).take (prog.cellsOf 3))=Z _ at f4;change ac _ _ _ _ _ _ _ 5 ((b.toList.drop 10).take (prog.cellsOf 5))=Z _ at f5;change ac _ _ _ _ _ _ _ 3 ((b.toList.drop 11).take (prog.cellsOf 3))=Z _ at f6;rw[c5] at f0 f5;rw[c1] at f2 f3 f4 f6;rw[A] at f1;obtain⟨ys,L,_,q,_,E,i⟩:=aF underlying49 f1;simp only[ah,aj] at q
 match ys,E,q.1 with
 | [(y0,q0),(y1,q1),(y2,q2)],_,r=>
 simp only[ay,aA,an,and_true] at r;obtain⟨rfl,rfl,rfl⟩:=r;have g0:=i 0 _ rfl;have e:=i 1 _ rfl;have f:=i 2 _ rfl;change ac _ _ _ _ _ _ _ 3 ((((b.toList.drop 1).take 6).drop 0).take (prog.cellsOf 3))=Z _ at g0;change ac _ _ _ _ _ _ _ 3 ((((b.toList.drop 1).take 6).drop 1).take (prog.cellsOf 3))=Z _ at e;change ac _ _ _ _ _ _ _ 47 ((((b.toList.drop 1).take 6).drop 2).take (prog.cellsOf 47))=Z _ at f;rw[c1] at g0 e;rw[z] at f;obtain⟨K,M,_,s,_,F,d⟩:=av underlying47 f;simp only[ah,aj] at s
 match K,F,s.1 with
 | [(z0,r0),(z1,r1),(z2,r2),(z3,r3)],_,v=>
 simp only[ay,aA,an,and_true] at v;obtain⟨rfl,rfl,rfl,rfl⟩:=v;have k0:=d 0 (by decide);have w:=d 1 (by decide);have x:=d 2 (by decide);have y:=d 3 (by decide);rw[c5] at k0 w x y;intro j u a;rw[am l C _,←ai,aN]
 match j,a with
 |0,a=>exact(Ir (Fa underlying5 f0)).trans a
 |1,a=>exact(Oe (j:=0) (Fa underlying3 g0)).trans a
 |2,a=>exact(Oe (j:=0) (Fa underlying3 e)).trans a
 |3,a=>exact(KC (Fa underlying5 k0)).trans a
 |4,a=>exact(KC (Fa underlying5 w)).trans a
 |5,a=>exact(KC (Fa underlying5 x)).trans a
 |6,a=>exact(KC (Fa underlying5 y)).trans a
 |7,a=>exact(Ir (Fa underlying3 f2)).trans a
 |8,a=>exact(Ir (Fa underlying3 f3)).trans a
 |9,a=>exact(Ir (Fa underlying3 f4)).trans a
 |10,a=>exact(Ir (Fa underlying5 f5)).trans a
 |11,a=>exact(Ir (Fa underlying3 f6)).trans a
 |j+12,a=>simp at a
def L4{W:ak}{a:String}{k:IntKind}{b:List Int}{g:Nat}{t e:aG}{n:Nat}
  (j:prog.globalNamed a=Z g) (o:(prog.globals[g]?).map (·.type)=Z t) (m:prog.underlying t=Z (.array n e)) (i:prog.underlying e=Z (.int k)) (c:prog.cellsOf e=1) (d:prog.cellsOf t=n)
  (h:aE prog W a (ao k b)):al prog W a k b:=by
 obtain⟨u,v,s,fuel,p,l,q,r,f⟩:=h;obtain rfl:=ab (j.symm.trans l);obtain rfl:=ab (o.symm.trans q);unfold al;rw[r,←Lib.cells_of_tab m i c d f]
def YW:(Rows.laid_strings_asciiSpace:ar Unit)=ao U au:=by kernel_rfl
def XY:(Rows.laid_internal_strconv_uint64pow10:ar Unit)=ao .u64 aD:=by kernel_rfl
def EC:List (String×ar Unit):=[("math/bits.deBruijn32tab",Rows.laid_math_bits_deBruijn32tab),("math/bits.deBruijn64tab",Rows.laid_math_bits_deBruijn64tab),("internal/strconv.uint64pow10",Rows.laid_internal_strconv_uint64pow10),("nacelle/proc.operands",Rows.laid_nacelle_proc_operands),("nacelle/proc.instructions",Rows.laid_nacelle_proc_instructions),("unicode.White_Space",Rows.laid_unicode_White_Space),("strings.asciiSpace",Rows.laid_strings_asciiSpace),("nacelle/part.dormant",Rows.laid_nacelle_part_dormant)]
def Pd:(EC.filter fun x=>x.2.handleName?.isNone)=[("math/bits.deBruijn32tab",Rows.laid_math_bits_deBruijn32tab),("math/bits.deBruijn64tab",Rows.laid_math_bits_deBruijn64tab),("internal/strconv.uint64pow10",Rows.laid_internal_strconv_uint64pow10),("nacelle/proc.operands",Rows.laid_nacelle_proc_operands),("unicode.White_Space",Rows.laid_unicode_White_Space),("strings.asciiSpace",Rows.laid_strings_asciiSpace),("nacelle/part.dormant",Rows.laid_nacelle_part_dormant)]:=by kernel_rfl
def Jw{g n:Nat}{W:ak}(h:W.ShapedOpen prog)(k:g<prog.globals.size)(b:(((begin prog (fun _ _=>0) default).world.heap[g]?).bind Obj.row?).map (·.1.size)=Z n){o:Nat}{v:af}(l:W.cell? ⟨g,o,O⟩=Z v):o<n:=by
 obtain⟨⟨zero,t⟩,d,f⟩:=ag.1 b;obtain⟨m,i,q,_⟩:=h.1 g zero t k d;obtain⟨c,e,p,a,j⟩:=aw l;rw[i] at a;cases a;have:=(Array.getElem?_eq_some_iff.1 j).1;dsimp only at f;omega
def KX(n:Int):af→Bool| I U m=>m==n| _=>false
def Pa{l:List af}{j n:Nat}(a:(l.all fun u=>!KX n u)=true)(h:l[j]? =Z (I U n)):False:=by
 have:=aH.1 a _ (List.mem_of_getElem? h);simp[KX] at this
def three{W:ak}(h:K5 W.heap.size W):∃ b d,b<W.heap.size∧W.cell? ⟨b,d,O⟩=Z (I U 2)∧W.cell? ⟨b,d+1,O⟩=Z (I U 4)∧W.cell? ⟨b,d+2,O⟩=Z (I U 2):=by
 obtain⟨a,c,_,_,_,i,j,k,_,_,_,g⟩:=h 5 (by decide);obtain⟨b,d,_,_,f,e⟩:=g (by decide);exact⟨b,d,f,e 0 _ rfl,e 1 _ rfl,e 2 _ rfl⟩
def MJ{W:ak}{h:String}{k:IntKind}{a:List Int}{g c:Nat}(o:al prog W h k a)(l:prog.globalNamed h=Z g)
  (n:((List.range a.length).all fun i=>!(a[i]? ==Z 2 && a[i+2]? ==Z 2))=true) (e:W.cell? ⟨g,c,O⟩=Z (I k 2)) (f:W.cell? ⟨g,c+2,O⟩=Z (I k 2)):False:=by
 rw[am l o,aC,ad,ag] at e f;obtain⟨p,b,j⟩:=e;obtain⟨q,d,q2⟩:=f;simp only[Value.int.injEq,true_and] at j q2;rw[j] at b;rw[q2] at d;have m:=(List.getElem?_eq_some_iff.1 b).1;have:=aH.1 n c (List.mem_range.2 m);rw[b,d] at this;exact absurd this (by decide)
def On:List Int:=[0,1,28,2,29,14,24,3,30,22,20,15,25,17,4,8,31,27,13,23,21,19,16,7,26,12,18,6,11,5,10,9]
def Oo:List Int:=[0,1,56,2,57,49,28,3,61,58,42,50,38,29,17,4,62,47,59,36,45,43,51,22,53,39,33,30,24,18,12,5,63,55,48,27,60,41,37,16,46,35,44,21,52,32,23,11,54,26,40,15,34,20,31,10,25,14,19,9,13,8,7,6]
def S1:(Rows.laid_math_bits_deBruijn32tab:ar Unit)=ao U On:=by kernel_rfl
def S2:(Rows.laid_math_bits_deBruijn64tab:ar Unit)=ao U Oo:=by kernel_rfl
def P6:Option Obj→Bool|some (T c _ _)=>c.toList.all fun u=>!KX 2 u| _=>true
def X6{c:Array af}{t:aG}{a:Nat×Nat}{d:Nat}(h:P6 (Z (T c t a))=true)(b:c[d]? =Z (I U 2)):False:=
 Pa (n:=2) h (by rw[ai];exact b)
def Rw{c:Array af}{t:aG}{a:Nat×Nat}{o:Obj}(h:Obj.alike (T c t a) o):o=T c t a:=by
 cases o<;>first|exact h.symm|exact(h:_=_).symm
def beyond{W:ak}(h:W.ShapedOpen prog){k q:Nat}(g:prog.globals.size≤k)(i:k<(begin prog (fun _ _=>0) default).world.heap.size)(d:P6 ((begin prog (fun _ _=>0) default).world.heap[k]?)=true)(n:W.cell? ⟨k,q,O⟩=Z (I U 2)):False:=by
 obtain⟨o,p,j,l,a⟩:=h.2 k g i;obtain⟨c,e,f,b,m⟩:=aw n;rw[j] at b;cases b;have:p=T c e f:=by
  split at a
  ·exact Rw a
  ·exact a.symm
 rw[l,this] at d;exact X6 d m
def YT {W:ak} (h:W.ShapedOpen prog) (l:K5 W.heap.size W) (r:LF W) (q:LD W) (t:al prog W "strings.asciiSpace" U au) (s:al prog W "internal/strconv.uint64pow10" .u64 aD)
  (o:al prog W "math/bits.deBruijn32tab" U On) (p:al prog W "math/bits.deBruijn64tab" U Oo):16≤W.heap.size:=by
 obtain⟨b,f,v,d,c1,c2⟩:=three l;by_cases i:b<15
 ·exfalso
  match b,i,d,c1,c2 with
  |0,_,d,c1,c2=>
   have m:=Jw h (of_decide_eq_true (by kernel_rfl)) (n:=12) (by kernel_rfl) c2;have k:f<Mf.length:=by show f<12;omega
   have:=q f Mf[f] (aa k);rw[aN,d] at this;exact Pa (n:=2) (j:=f) (show(Mf.all fun u=>!KX 2 u)=true from rfl) (by rw[aa k];exact this.symm)
  |1,_,d,c1,c2=>
   have m:=Jw h (of_decide_eq_true (by kernel_rfl)) (n:=26) (by kernel_rfl) c2;have:=r (f+1) (by omega) (by omega);rw[c1] at this;simp at this
  |2,_,d,c1,c2=>
   have m:=Jw h (of_decide_eq_true (by kernel_rfl)) (n:=26) (by kernel_rfl) c2;obtain⟨a,c,g,_⟩:=l f (by omega);rw[d] at g;simp at g
  |3,_,d,c1,c2=>exact MJ t Mx (by decide+kernel) d c2
  |4,_,d,c1,c2=>have:=Jw h (of_decide_eq_true (by kernel_rfl)) (n:=1) (by kernel_rfl) c1;omega
  |5,_,d,c1,c2=>have:=Jw h (of_decide_eq_true (by kernel_rfl)) (n:=1) (by kernel_rfl) c1;omega
  |6,_,d,c1,c2=>
   rw[am Mw s,aC,ad,ag] at d;obtain⟨z,_,e⟩:=d;simp at e
  |7,_,d,c1,c2=>exact MJ o (show prog.globalNamed "math/bits.deBruijn32tab" =Z 7 by kernel_rfl) (by decide+kernel) d c2
  |8,_,d,c1,c2=>exact MJ p (show prog.globalNamed "math/bits.deBruijn64tab" =Z 8 by kernel_rfl) (by decide+kernel) d c2
  |9,_,d,c1,c2=>have:=Jw h (of_decide_eq_true (by kernel_rfl)) (n:=1) (by kernel_rfl) c1;omega
  |10,_,d,c1,c2=>exact beyond h (of_decide_eq_true (by kernel_rfl)) (of_decide_eq_true (by kernel_rfl)) (by kernel_rfl) d
  |11,_,d,c1,c2=>exact beyond h (of_decide_eq_true (by kernel_rfl)) (of_decide_eq_true (by kernel_rfl)) (by kernel_rfl) d
  |12,_,d,c1,c2=>exact beyond h (of_decide_eq_true (by kernel_rfl)) (of_decide_eq_true (by kernel_rfl)) (by kernel_rfl) d
  |13,_,d,c1,c2=>exact beyond h (of_decide_eq_true (by kernel_rfl)) (of_decide_eq_true (by kernel_rfl)) (by kernel_rfl) d
  |14,_,d,c1,c2=>exact beyond h (of_decide_eq_true (by kernel_rfl)) (of_decide_eq_true (by kernel_rfl)) (by kernel_rfl) d
  |b+15,i,_,_,_=>omega
 ·omega
def Q3 {W:ak} (a:laidMet prog [("math/bits.deBruijn32tab",Rows.laid_math_bits_deBruijn32tab),("math/bits.deBruijn64tab",Rows.laid_math_bits_deBruijn64tab),("internal/strconv.uint64pow10",Rows.laid_internal_strconv_uint64pow10),("nacelle/proc.operands",Rows.laid_nacelle_proc_operands),("unicode.White_Space",Rows.laid_unicode_White_Space),("strings.asciiSpace",Rows.laid_strings_asciiSpace),("nacelle/part.dormant",Rows.laid_nacelle_part_dormant)] W):al prog W "strings.asciiSpace" U au:=by
 refine L4 Mx (t:=304) (n:=256) (e:=5) (by kernel_rfl) underlying304 underlying5 (by kernel_rfl) (by kernel_rfl) ?_;rw[←YW];exact ae a (by simp)
def PJ {W:ak} (a:laidMet prog [("math/bits.deBruijn32tab",Rows.laid_math_bits_deBruijn32tab),("math/bits.deBruijn64tab",Rows.laid_math_bits_deBruijn64tab),("internal/strconv.uint64pow10",Rows.laid_internal_strconv_uint64pow10),("nacelle/proc.operands",Rows.laid_nacelle_proc_operands),("unicode.White_Space",Rows.laid_unicode_White_Space),("strings.asciiSpace",Rows.laid_strings_asciiSpace),("nacelle/part.dormant",Rows.laid_nacelle_part_dormant)] W):al prog W "internal/strconv.uint64pow10" .u64 aD:=by
 refine L4 Mw (t:=322) (n:=20) (e:=232) (by kernel_rfl) underlying322 underlying232 (by kernel_rfl) (by kernel_rfl) ?_;rw[←XY];exact ae a (by simp)
def UI{W:ak}(b:laidMetH prog EC W)(h:W.ShapedOpen prog):Gl W.heap.size W:=by
 have a:=(laidMetH_iff.1 b).1;rw[Pd] at a;have f:=XM (ae a (n:= "nacelle/proc.operands") (by simp));have d:=VG (b.funcs (by simp[EC,VH]));have c:=SQ (ae a (n:= "nacelle/part.dormant") (by simp));refine⟨YT h f d c (Q3 a) (PJ a) (L4 (g:=7) (by kernel_rfl) (t:=340) (n:=32) (e:=5) (by kernel_rfl) underlying340 underlying5 (by kernel_rfl) (by kernel_rfl) ?_) (L4 (g:=8) (by kernel_rfl) (t:=341) (n:=64) (e:=5) (by kernel_rfl) underlying341 underlying5 (by kernel_rfl) (by kernel_rfl) ?_),Nat.le_refl _,f,d,c⟩
 ·rw[←S1];exact ae a (by simp)
 ·rw[←S2];exact ae a (by simp)
def UJ{W:ak}(b:laidMetH prog EC W)(c:W.ShapedOpen prog):Ce W:=by
 have a:=(laidMetH_iff.1 b).1;rw[Pd] at a;exact⟨Q3 a,PJ a,cell_of_shapedOpen_int (t:=3) (zero:=#[I J 0]) c (of_decide_eq_true (by kernel_rfl)) (by kernel_rfl) rfl (by kernel_rfl) (by kernel_rfl) underlying3⟩
def UO{H:Type}{enc:aG×af→H}{a:Assume}{C:Checked}{os:Os}{f:FuncId}{b:Func}{s:ChangeSpec}{l:List PathCond}{d o p n:Bool}{X:ak→Array af→Prop}
  (u:∀ (w w':ak) (args:Array af),w.heap=w'.heap→X w args→X w' args)
  (own:ownKnob C.prog.godebug=O) (R:os.Started) (Q:C.prog.inits.idxOf? f=O) (z:C.prog.funcs[f]? =Z b)
  (S:∃ (w:ak) (c:Tape) (i:Input),w.os=os∧(w.forCall c i).Shaped C.prog∧i.vars=[]∧Input.okWide C.prog (w.forCall c i) .any w.heap.size f i∧
   ((s.pre enc C.prog b l d (w.forCall c i).memory i.args∧X (w.forCall c i).memory i.args)∧sizedMet enc C.prog b (aB s) d (w.forCall c i).memory i.args)∧a.holds C.prog (lone (aM C.prog f i.args .normal) [] (w.forCall c i)))
  (q:∀ (W:ak) (base:Nat) (args:Array af) (g h:List (ar H)) (k:List aI),
   (∀ (j:Nat) t v,b.params[j]? =Z t→args[j]? =Z v→Value.okWide C.prog W .any base t v)→
   DataW.Whole enc C.prog b.params.toList s.vars d W args.toList g h k→
   l.all (PathCond.test C.prog ⟨b.params.toList,g,s.plain.varTypes C.prog,h⟩)=true→
   X W args→W.ShapedOpen C.prog→
   a.holds C.prog (lone (aM C.prog f args .normal) [] W)→
   Calls C.prog f args W fun e m=>∃ v,e=.returned v∧s.post enc C.prog b d o p n W args v m):
  ReturnsInHanded a C os f .any (fun w args=>(s.pre enc C.prog b l d w args∧X w args)∧sizedMet enc C.prog b (aB s) d w args) (s.post enc C.prog b d o p n):=by
 refine returnsInHanded_of_calls own R Q S ?_;intro w c i _ K _ D F B;obtain⟨_,_,_,r,A,_,_,_,_,L⟩:=D;have e:r=b:=ab (A.symm.trans z);subst e;obtain⟨⟨⟨g,h,k,M,x⟩,P⟩,V⟩:=F;have N:=DataW.Whole.of_heap (w':=w.forCall c i) (by rfl) M;refine(q (w.forCall c i) w.heap.size i.args g h k L N x (u _ _ _ (by rfl) P) K B).mono fun e m ⟨v,y,E⟩=>?_;subst y;exact ChangeSpec.post_blind E
noncomputable def Fo(os:Os)(args:Array af):ak:=(World.doorLaid prog 88 os).forCall (fun _ _=>0) ⟨#[],args,[]⟩
def SJ(os:Os)(args:Array af):(aK prog (Fo os args).memory 8 ((EC.filter fun x=>x.2.handleName?.isNone).map (·.1))).map (·.1)=Z (EC.filter fun x=>x.2.handleName?.isNone):=by kernel_rfl
def SK(os:Os)(args:Array af):(aK prog (Fo os args).memory 8 ((EC.filter fun x=>x.2.handleName?.isNone).map (·.1))).map (fun x=>decide x.2.Nodup && laidRowsB prog (Fo os args).memory x.2)=Z true:=by kernel_rfl
def SL(os:Os)(args:Array af):funcsRun prog (Fo os args).memory 8 ((funcsListed EC).map (·.1))=Z ((funcsListed EC).map (·.2.funcsOut)):=by kernel_rfl
def SM(os:Os)(args:Array af):(EC.filter fun x=>x.2.handleName?.isSome && x.2.funcsIn?.isNone).all (handleAtB prog (Fo os args).memory)=true:=by kernel_rfl
def SN(os:Os)(args:Array af):(Fo os args).variablesRefB prog=true:=by kernel_rfl
def SO(os:Os)(args:Array af):((Fo os args).heap.toList.drop prog.globals.size).take ((begin prog (fun _ _=>0) default).world.heap.size-prog.globals.size)=(begin prog (fun _ _=>0) default).world.heap.toList.drop prog.globals.size:=by kernel_rfl
def SI(os:Os)(args:Array af):laidMetH prog EC (Fo os args).memory:=
 laidMetH_of_parts3 (fuel:=8) (laidMet_of_run' 8 (SJ os args) (SK os args)) (SM os args) (SL os args)
def SP(os:Os)(args:Array af):(Fo os args).Shaped prog:=World.shaped_of_RefB (SN os args) (SO os args)
end Go.Proofs.YtiepijihpgijbaaGreatDoor
