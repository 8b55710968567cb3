import Derived.Test.YtiepijihpgijbaaGreatDoorProg
import Derived.Lib.Hide
import Derived.WideMake
import Derived.Maps.Own
import Derived.WalkKit
import Derived.WalkSpells
import Derived.WalkLawsBesides
import Derived.Deep.LoopGhost
import Derived.Deep.QuietTactic
import Derived.BigQuiet
import Derived.Deep.Draws
import Derived.Maps.OwnOps
import Derived.Maps.Views
import Derived.Laws.CopyOwn
import Derived.Lib.Overlaps
import Derived.Lib.AppendZeros
import Derived.Deep.RegionLaw
import Derived.Laws.Externs
import Derived.Deep.RegionWith
set_option maxHeartbeats 1000000
set_option maxRecDepth 100000
set_option linter.all false
open Option renaming some→Z,none→O
open Go.Obj renaming cells→T
open Go.Value renaming int→I,slice→Y,pointer→G
open Go.IntKind renaming i64→J,u8→U
open Go renaming Value→aA,cell_of_row→aR,World→aT,run_underlying→a4,wp_region_quiet_lit→a6,heap_alloc_new→bc,TypeId→bd,length_splice→bg,wpList_plain→bp,setRow_other→bq,Calls→br,wpQuiet_nil→bu,wpList→bw,IntKind→bA,maxLen→bD,callFunc→bG,setRow_heap→bL,info_parts→bP,zeroValue→bW,grownCap→b3,execOp→b5,Addr→b7,wpList_append_own→b8,Program→ca
open Go.World renaming frozen?→aI,cell?→a1,alloc_eq→bl,setRow→bx,cell?_alloc_lt→bQ,shape?→b6,alloc→b9
open List renaming toArray→aY,length_append→a0,take_left→bo,getElem?_take→bs,getElem?_drop→bt,take_succ_eq_append_getElem→bz,take_take→bI,mem_take_iff_getElem→bK,take_of_length_le→bN,findIdx_lt_length→bO,mem_of_mem_drop→bS,take_sublist→bY,append_assoc→bZ,length_take→b2
open Go.Result renaming andThen→aZ
open Array renaming getElem?_eq_some_iff→a2,getElem?_push→bT
open Go.Instr renaming lookup→a3,findNow→a5,checkKey→bm,mapUpdate→bE
open Go.MapKept renaming run_getObj_map→a7,run_checkKey→bb,run_findKey→be,IsKey→bn
open Go.Builtin renaming zeroCells→a8,copy_→ba,append_→bX
open Nat renaming min_def→a9,le_refl→bf,lt_of_lt_of_le→bh,le_of_lt→bB,min_eq_left→bH,zero_le→bU,min→b0,le_trans→cb
open Go.IntKind renaming wrap_i64→bi
open Go.RowKit.Below renaming refl→bj
open Go.Lit renaming int→bk
open Go.Ending renaming returned→bC
open And renaming intro→bF
open List.Pairwise renaming nil→bJ
open Go.Oper renaming wp→bM
open Go.Value renaming cells→bR,ownBlock→b4
open Go.Extern.SlicesOverlaps renaming overlaps→bV
open Go.Lit.int renaming injEq→b1
namespace Go.Proofs.YtiepijihpgijbaaGreatDoor
open Tryz Go Go.RowKit Go.Maps
section
variable {w:aT} {b:Nat} {t:bd} {r:List aA}
@[reducible] def Bl(w w':aT):Prop:=Below w.heap.size w w'
def r2{a c:aA}{f:Nat×Nat}(h:w.heap[b]? =Z (T (aY (a::c::r)) t f)):w.cell? ⟨b,0,O⟩=Z a∧w.cell? ⟨b,1,O⟩=Z c:=by
 simp[a1,h]
def f2{c:Array aA}(h:w.heap[b]? =Z (T c t (0,0))):w.frozen? ⟨b,0,O⟩=false∧w.frozen? ⟨b,1,O⟩=false:=by
 simp[aI,h]
def r3{a c d:aA}{f:Nat×Nat}(h:w.heap[b]? =Z (T (aY (a::c::d::r)) t f)):w.cell? ⟨b,0,O⟩=Z a∧w.cell? ⟨b,1,O⟩=Z c∧w.cell? ⟨b,2,O⟩=Z d:=by
 simp[a1,h]
def f3{c:Array aA}(h:w.heap[b]? =Z (T c t (0,0))):w.frozen? ⟨b,0,O⟩=false∧w.frozen? ⟨b,1,O⟩=false∧w.frozen? ⟨b,2,O⟩=false:=by
 simp[aI,h]
def r4{a c d e:aA}{f:Nat×Nat}(h:w.heap[b]? =Z (T (aY (a::c::d::e::r)) t f)):w.cell? ⟨b,0,O⟩=Z a∧w.cell? ⟨b,1,O⟩=Z c∧w.cell? ⟨b,2,O⟩=Z d∧w.cell? ⟨b,3,O⟩=Z e:=by
 simp[a1,h]
def f4{c:Array aA}(h:w.heap[b]? =Z (T c t (0,0))):w.frozen? ⟨b,0,O⟩=false∧w.frozen? ⟨b,1,O⟩=false∧w.frozen? ⟨b,2,O⟩=false∧w.frozen? ⟨b,3,O⟩=false:=by
 simp[aI,h]
def r5{a c d e g:aA}{f:Nat×Nat}(h:w.heap[b]? =Z (T (aY (a::c::d::e::g::r)) t f)):w.cell? ⟨b,0,O⟩=Z a∧w.cell? ⟨b,1,O⟩=Z c∧w.cell? ⟨b,2,O⟩=Z d∧w.cell? ⟨b,3,O⟩=Z e∧w.cell? ⟨b,4,O⟩=Z g:=by
 simp[a1,h]
def f5{c:Array aA}(h:w.heap[b]? =Z (T c t (0,0))):w.frozen? ⟨b,0,O⟩=false∧w.frozen? ⟨b,1,O⟩=false∧w.frozen? ⟨b,2,O⟩=false∧w.frozen? ⟨b,3,O⟩=false∧w.frozen? ⟨b,4,O⟩=false:=by
 simp[aI,h]
def r6{a c d e g i:aA}{f:Nat×Nat}(h:w.heap[b]? =Z (T (aY (a::c::d::e::g::i::r)) t f)):w.cell? ⟨b,0,O⟩=Z a∧w.cell? ⟨b,1,O⟩=Z c∧w.cell? ⟨b,2,O⟩=Z d∧w.cell? ⟨b,3,O⟩=Z e∧w.cell? ⟨b,4,O⟩=Z g∧w.cell? ⟨b,5,O⟩=Z i:=by
 simp[a1,h]
def f6{c:Array aA}(h:w.heap[b]? =Z (T c t (0,0))):w.frozen? ⟨b,0,O⟩=false∧w.frozen? ⟨b,1,O⟩=false∧w.frozen? ⟨b,2,O⟩=false∧w.frozen? ⟨b,3,O⟩=false∧w.frozen? ⟨b,4,O⟩=false∧w.frozen? ⟨b,5,O⟩=false:=by
 simp[aI,h]
def r7{a c d e g i j:aA}{f:Nat×Nat}(h:w.heap[b]? =Z (T (aY (a::c::d::e::g::i::j::r)) t f)):w.cell? ⟨b,0,O⟩=Z a∧w.cell? ⟨b,1,O⟩=Z c∧w.cell? ⟨b,2,O⟩=Z d∧w.cell? ⟨b,3,O⟩=Z e∧w.cell? ⟨b,4,O⟩=Z g∧w.cell? ⟨b,5,O⟩=Z i∧w.cell? ⟨b,6,O⟩=Z j:=by
 simp[a1,h]
def f7{c:Array aA}(h:w.heap[b]? =Z (T c t (0,0))):w.frozen? ⟨b,0,O⟩=false∧w.frozen? ⟨b,1,O⟩=false∧w.frozen? ⟨b,2,O⟩=false∧w.frozen? ⟨b,3,O⟩=false∧w.frozen? ⟨b,4,O⟩=false∧w.frozen? ⟨b,5,O⟩=false∧w.frozen? ⟨b,6,O⟩=false:=by
 simp[aI,h]
def r8{a c d e g i j k:aA}{f:Nat×Nat}(h:w.heap[b]? =Z (T (aY (a::c::d::e::g::i::j::k::r)) t f)):w.cell? ⟨b,0,O⟩=Z a∧w.cell? ⟨b,1,O⟩=Z c∧w.cell? ⟨b,2,O⟩=Z d∧w.cell? ⟨b,3,O⟩=Z e∧w.cell? ⟨b,4,O⟩=Z g∧w.cell? ⟨b,5,O⟩=Z i∧w.cell? ⟨b,6,O⟩=Z j∧w.cell? ⟨b,7,O⟩=Z k:=by
 simp[a1,h]
def f8{c:Array aA}(h:w.heap[b]? =Z (T c t (0,0))):w.frozen? ⟨b,0,O⟩=false∧w.frozen? ⟨b,1,O⟩=false∧w.frozen? ⟨b,2,O⟩=false∧w.frozen? ⟨b,3,O⟩=false∧w.frozen? ⟨b,4,O⟩=false∧w.frozen? ⟨b,5,O⟩=false∧w.frozen? ⟨b,6,O⟩=false∧w.frozen? ⟨b,7,O⟩=false:=by
 simp[aI,h]
def r9{a c d e g i j k l:aA}{f:Nat×Nat}(h:w.heap[b]? =Z (T (aY (a::c::d::e::g::i::j::k::l::r)) t f)):w.cell? ⟨b,0,O⟩=Z a∧w.cell? ⟨b,1,O⟩=Z c∧w.cell? ⟨b,2,O⟩=Z d∧w.cell? ⟨b,3,O⟩=Z e∧w.cell? ⟨b,4,O⟩=Z g∧w.cell? ⟨b,5,O⟩=Z i∧w.cell? ⟨b,6,O⟩=Z j∧w.cell? ⟨b,7,O⟩=Z k∧w.cell? ⟨b,8,O⟩=Z l:=by
 simp[a1,h]
def f9{c:Array aA}(h:w.heap[b]? =Z (T c t (0,0))):w.frozen? ⟨b,0,O⟩=false∧w.frozen? ⟨b,1,O⟩=false∧w.frozen? ⟨b,2,O⟩=false∧w.frozen? ⟨b,3,O⟩=false∧w.frozen? ⟨b,4,O⟩=false∧w.frozen? ⟨b,5,O⟩=false∧w.frozen? ⟨b,6,O⟩=false∧w.frozen? ⟨b,7,O⟩=false∧w.frozen? ⟨b,8,O⟩=false:=by
 simp[aI,h]
def DV{a c d e g i j k l m:aA}{f:Nat×Nat}(h:w.heap[b]? =Z (T (aY (a::c::d::e::g::i::j::k::l::m::r)) t f)):w.cell? ⟨b,0,O⟩=Z a∧w.cell? ⟨b,1,O⟩=Z c∧w.cell? ⟨b,2,O⟩=Z d∧w.cell? ⟨b,3,O⟩=Z e∧w.cell? ⟨b,4,O⟩=Z g∧w.cell? ⟨b,5,O⟩=Z i∧w.cell? ⟨b,6,O⟩=Z j∧w.cell? ⟨b,7,O⟩=Z k∧w.cell? ⟨b,8,O⟩=Z l∧w.cell? ⟨b,9,O⟩=Z m:=by
 simp[a1,h]
def f10{c:Array aA}(h:w.heap[b]? =Z (T c t (0,0))):w.frozen? ⟨b,0,O⟩=false∧w.frozen? ⟨b,1,O⟩=false∧w.frozen? ⟨b,2,O⟩=false∧w.frozen? ⟨b,3,O⟩=false∧w.frozen? ⟨b,4,O⟩=false∧w.frozen? ⟨b,5,O⟩=false∧w.frozen? ⟨b,6,O⟩=false∧w.frozen? ⟨b,7,O⟩=false∧w.frozen? ⟨b,8,O⟩=false∧w.frozen? ⟨b,9,O⟩=false:=by
 simp[aI,h]
def Yn{a c e g i j k l m n d:aA}{f:Nat×Nat}(h:w.heap[b]? =Z (T (aY (a::c::e::g::i::j::k::l::m::n::d::r)) t f)):w.cell? ⟨b,0,O⟩=Z a∧w.cell? ⟨b,1,O⟩=Z c∧w.cell? ⟨b,2,O⟩=Z e∧w.cell? ⟨b,3,O⟩=Z g∧w.cell? ⟨b,4,O⟩=Z i∧w.cell? ⟨b,5,O⟩=Z j∧w.cell? ⟨b,6,O⟩=Z k∧w.cell? ⟨b,7,O⟩=Z l∧w.cell? ⟨b,8,O⟩=Z m∧w.cell? ⟨b,9,O⟩=Z n∧w.cell? ⟨b,10,O⟩=Z d:=by
 simp[a1,h]
def f11{c:Array aA}(h:w.heap[b]? =Z (T c t (0,0))):w.frozen? ⟨b,0,O⟩=false∧w.frozen? ⟨b,1,O⟩=false∧w.frozen? ⟨b,2,O⟩=false∧w.frozen? ⟨b,3,O⟩=false∧w.frozen? ⟨b,4,O⟩=false∧w.frozen? ⟨b,5,O⟩=false∧w.frozen? ⟨b,6,O⟩=false∧w.frozen? ⟨b,7,O⟩=false∧w.frozen? ⟨b,8,O⟩=false∧w.frozen? ⟨b,9,O⟩=false∧w.frozen? ⟨b,10,O⟩=false:=by
 simp[aI,h]
def Yo{a c g i j k l m n o d e:aA}{f:Nat×Nat}(h:w.heap[b]? =Z (T (aY (a::c::g::i::j::k::l::m::n::o::d::e::r)) t f)):w.cell? ⟨b,0,O⟩=Z a∧w.cell? ⟨b,1,O⟩=Z c∧w.cell? ⟨b,2,O⟩=Z g∧w.cell? ⟨b,3,O⟩=Z i∧w.cell? ⟨b,4,O⟩=Z j∧w.cell? ⟨b,5,O⟩=Z k∧w.cell? ⟨b,6,O⟩=Z l∧w.cell? ⟨b,7,O⟩=Z m∧w.cell? ⟨b,8,O⟩=Z n∧w.cell? ⟨b,9,O⟩=Z o∧w.cell? ⟨b,10,O⟩=Z d∧w.cell? ⟨b,11,O⟩=Z e:=by
 simp[a1,h]
def f12{c:Array aA}(h:w.heap[b]? =Z (T c t (0,0))):w.frozen? ⟨b,0,O⟩=false∧w.frozen? ⟨b,1,O⟩=false∧w.frozen? ⟨b,2,O⟩=false∧w.frozen? ⟨b,3,O⟩=false∧w.frozen? ⟨b,4,O⟩=false∧w.frozen? ⟨b,5,O⟩=false∧w.frozen? ⟨b,6,O⟩=false∧w.frozen? ⟨b,7,O⟩=false∧w.frozen? ⟨b,8,O⟩=false∧w.frozen? ⟨b,9,O⟩=false∧w.frozen? ⟨b,10,O⟩=false∧w.frozen? ⟨b,11,O⟩=false:=by
 simp[aI,h]
def f13{c:Array aA}(h:w.heap[b]? =Z (T c t (0,0))):w.frozen? ⟨b,0,O⟩=false∧w.frozen? ⟨b,1,O⟩=false∧w.frozen? ⟨b,2,O⟩=false∧w.frozen? ⟨b,3,O⟩=false∧w.frozen? ⟨b,4,O⟩=false∧w.frozen? ⟨b,5,O⟩=false∧w.frozen? ⟨b,6,O⟩=false∧w.frozen? ⟨b,7,O⟩=false∧w.frozen? ⟨b,8,O⟩=false∧w.frozen? ⟨b,9,O⟩=false∧w.frozen? ⟨b,10,O⟩=false∧w.frozen? ⟨b,11,O⟩=false∧w.frozen? ⟨b,12,O⟩=false:=by
 simp[aI,h]
def f14{c:Array aA}(h:w.heap[b]? =Z (T c t (0,0))):w.frozen? ⟨b,0,O⟩=false∧w.frozen? ⟨b,1,O⟩=false∧w.frozen? ⟨b,2,O⟩=false∧w.frozen? ⟨b,3,O⟩=false∧w.frozen? ⟨b,4,O⟩=false∧w.frozen? ⟨b,5,O⟩=false∧w.frozen? ⟨b,6,O⟩=false∧w.frozen? ⟨b,7,O⟩=false∧w.frozen? ⟨b,8,O⟩=false∧w.frozen? ⟨b,9,O⟩=false∧w.frozen? ⟨b,10,O⟩=false∧w.frozen? ⟨b,11,O⟩=false∧w.frozen? ⟨b,12,O⟩=false∧w.frozen? ⟨b,13,O⟩=false:=by
 simp[aI,h]
def f15{c:Array aA}(h:w.heap[b]? =Z (T c t (0,0))):w.frozen? ⟨b,0,O⟩=false∧w.frozen? ⟨b,1,O⟩=false∧w.frozen? ⟨b,2,O⟩=false∧w.frozen? ⟨b,3,O⟩=false∧w.frozen? ⟨b,4,O⟩=false∧w.frozen? ⟨b,5,O⟩=false∧w.frozen? ⟨b,6,O⟩=false∧w.frozen? ⟨b,7,O⟩=false∧w.frozen? ⟨b,8,O⟩=false∧w.frozen? ⟨b,9,O⟩=false∧w.frozen? ⟨b,10,O⟩=false∧w.frozen? ⟨b,11,O⟩=false∧w.frozen? ⟨b,12,O⟩=false∧w.frozen? ⟨b,13,O⟩=false∧w.frozen? ⟨b,14,O⟩=false:=by
 simp[aI,h]
def Hq(p:Prop):Prop:=p
def Hq.o{p:Prop}(h:Hq p):p:=h
def HH{p:Prop}(h:p):Hq p:=h
def H2{a b:Prop}(A:a)(B:b):Hq a∧Hq b:=⟨A,B⟩
def H3{a b c:Prop}(A:a)(B:b)(C:c):Hq a∧Hq b∧Hq c:=⟨A,B,C⟩
def H4{a b c d:Prop}(A:a)(B:b)(C:c)(D:d):Hq a∧Hq b∧Hq c∧Hq d:=⟨A,B,C,D⟩
def H5{a b c d e:Prop}(A:a)(B:b)(C:c)(D:d)(E:e):Hq a∧Hq b∧Hq c∧Hq d∧Hq e:=⟨A,B,C,D,E⟩
def H6{a b c d e f:Prop}(A:a)(B:b)(C:c)(D:d)(E:e)(F:f):Hq a∧Hq b∧Hq c∧Hq d∧Hq e∧Hq f:=⟨A,B,C,D,E,F⟩
def H7{a b c d e f g:Prop}(A:a)(B:b)(C:c)(D:d)(E:e)(F:f)(h:g):Hq a∧Hq b∧Hq c∧Hq d∧Hq e∧Hq f∧Hq g:=⟨A,B,C,D,E,F,h⟩
def H8{a b c d e f g h:Prop}(A:a)(B:b)(C:c)(D:d)(E:e)(F:f)(i:g)(H:h):Hq a∧Hq b∧Hq c∧Hq d∧Hq e∧Hq f∧Hq g∧Hq h:=⟨A,B,C,D,E,F,i,H⟩
def H9{a b c d e f g h i:Prop}(A:a)(B:b)(C:c)(D:d)(E:e)(F:f)(j:g)(H:h)(k:i):Hq a∧Hq b∧Hq c∧Hq d∧Hq e∧Hq f∧Hq g∧Hq h∧Hq i:=⟨A,B,C,D,E,F,j,H,k⟩
def QZ{a b c d e f g h i j:Prop}(A:a)(B:b)(C:c)(D:d)(E:e)(F:f)(k:g)(H:h)(l:i)(m:j):Hq a∧Hq b∧Hq c∧Hq d∧Hq e∧Hq f∧Hq g∧Hq h∧Hq i∧Hq j:=⟨A,B,C,D,E,F,k,H,l,m⟩
def Ra{a b c d e f g h i j k:Prop}(A:a)(B:b)(C:c)(D:d)(E:e)(F:f)(l:g)(H:h)(m:i)(n:j)(K:k):Hq a∧Hq b∧Hq c∧Hq d∧Hq e∧Hq f∧Hq g∧Hq h∧Hq i∧Hq j∧Hq k:=⟨A,B,C,D,E,F,l,H,m,n,K⟩
def Rb{a b c d e f g h i j k l:Prop}(A:a)(B:b)(C:c)(D:d)(E:e)(F:f)(m:g)(H:h)(n:i)(o:j)(K:k)(L:l):Hq a∧Hq b∧Hq c∧Hq d∧Hq e∧Hq f∧Hq g∧Hq h∧Hq i∧Hq j∧Hq k∧Hq l:=⟨A,B,C,D,E,F,m,H,n,o,K,L⟩
def ex{α:Sort _}(a:α):∃ x,x=a:=⟨_,rfl⟩
@[reducible] def EG(k:FuncId):Prop:=∀ args w,(bG k args).run prog w=.ok (.enter k args) w
def cc2{o:Nat}{a c:aA}(h:∀ (j:Nat) (v:aA),[a,c][j]? =Z v→w.cell? ⟨b,o+j,O⟩=Z v):w.cell? ⟨b,o,O⟩=Z a∧w.cell? ⟨b,o+1,O⟩=Z c:=⟨h 0 _ rfl,h 1 _ rfl⟩
def EO{o:Nat}{a c d:aA}(h:∀ (j:Nat) (v:aA),[a,c,d][j]? =Z v→w.cell? ⟨b,o+j,O⟩=Z v):w.cell? ⟨b,o,O⟩=Z a∧w.cell? ⟨b,o+1,O⟩=Z c∧w.cell? ⟨b,o+2,O⟩=Z d:=⟨h 0 _ rfl,h 1 _ rfl,h 2 _ rfl⟩
def LZ{o:Nat}{a c d e:aA}(h:∀ (j:Nat) (v:aA),[a,c,d,e][j]? =Z v→w.cell? ⟨b,o+j,O⟩=Z v):w.cell? ⟨b,o,O⟩=Z a∧w.cell? ⟨b,o+1,O⟩=Z c∧w.cell? ⟨b,o+2,O⟩=Z d∧w.cell? ⟨b,o+3,O⟩=Z e:=⟨h 0 _ rfl,h 1 _ rfl,h 2 _ rfl,h 3 _ rfl⟩
def RT{o:Nat}{a c d e f:aA}(h:∀ (j:Nat) (v:aA),[a,c,d,e,f][j]? =Z v→w.cell? ⟨b,o+j,O⟩=Z v):w.cell? ⟨b,o,O⟩=Z a∧w.cell? ⟨b,o+1,O⟩=Z c∧w.cell? ⟨b,o+2,O⟩=Z d∧w.cell? ⟨b,o+3,O⟩=Z e∧w.cell? ⟨b,o+4,O⟩=Z f:=⟨h 0 _ rfl,h 1 _ rfl,h 2 _ rfl,h 3 _ rfl,h 4 _ rfl⟩
def Od{o:Nat}{a c d e f g:aA}(h:∀ (j:Nat) (v:aA),[a,c,d,e,f,g][j]? =Z v→w.cell? ⟨b,o+j,O⟩=Z v):w.cell? ⟨b,o,O⟩=Z a∧w.cell? ⟨b,o+1,O⟩=Z c∧w.cell? ⟨b,o+2,O⟩=Z d∧w.cell? ⟨b,o+3,O⟩=Z e∧w.cell? ⟨b,o+4,O⟩=Z f∧w.cell? ⟨b,o+5,O⟩=Z g:=⟨h 0 _ rfl,h 1 _ rfl,h 2 _ rfl,h 3 _ rfl,h 4 _ rfl,h 5 _ rfl⟩
end
def YM(w:aT)(a b:Obj):({(w.alloc a) with heap:=(w.alloc a).heap.setIfInBounds w.heap.size b}:aT)=w.alloc b:=by
 simp only[b9]
 congr 1
 refine Array.ext_getElem? fun i=>?_
 rw[Array.getElem?_setIfInBounds];by_cases e:w.heap.size=i
 ·subst e;simp
 ·rw[if_neg e,bT,bT,if_neg (Ne.symm e),if_neg (Ne.symm e)]
section
variable {P:ca} {w:aT} {b:Nat} {es:Array MapEntry} {clk:Nat} {κ:bA} {k:Int} {i:Nat} {v z:aA} {mty kt et:bd}
def YD(e:P.underlying mty=Z (.map kt et))(c:P.underlying kt=Z (.int κ))(h:a5 (.int κ) (I κ k) es.toList 0=Z O):
  (bE mty (.map (Z w.heap.size)) (I κ k) v).run P (w.alloc (.map es clk))=.ok () (w.alloc (.map (es.push ⟨I κ k,v,clk⟩) (clk+1))):=by
 have a:(w.alloc (.map es clk)).heap[w.heap.size]? =Z (.map es clk):=by simp[-bl,b9]
 have d:(bm false 10000 kt (I κ k)).run P (w.alloc (.map es clk))=.ok () (w.alloc (.map es clk)):=bb (k:=I κ k) c (by simp[bn]) false 9999;simp[-bl,bE,a4 e,a7 a,d,be c h,MapKept.run_setObj_map _ a,aZ];exact YM w _ _
def YE(f:P.underlying mty=Z (.map kt et))(a:P.underlying kt=Z (.int κ))(c:w.heap[b]? =Z (.map es clk))(h:a5 (.int κ) (I κ k) es.toList 0=Z (Z (i,v))):
  (a3 mty (.map (Z b)) (I κ k) true).run P w=.ok (.tuple #[v,.bool true]) w:=by
 have d (e:Bool):(bm e 10000 kt (I κ k)).run P w=.ok () w:=bb (k:=I κ k) a (by simp[bn]) e 9999;simp[a3,a4 f,a7 c,d,be a h,aZ]
def YF(f:P.underlying mty=Z (.map kt et))(a:P.underlying kt=Z (.int κ))(c:w.heap[b]? =Z (.map es clk))(h:a5 (.int κ) (I κ k) es.toList 0=Z (Z (i,v))):
  (a3 mty (.map (Z b)) (I κ k) false).run P w=.ok v w:=by
 have d (e:Bool):(bm e 10000 kt (I κ k)).run P w=.ok () w:=bb (k:=I κ k) a (by simp[bn]) e 9999;simp[a3,a4 f,a7 c,d,be a h,aZ]
def YG(f:P.underlying mty=Z (.map kt et))(a:P.underlying kt=Z (.int κ))(c:w.heap[b]? =Z (.map es clk))(h:a5 (.int κ) (I κ k) es.toList 0=Z O)(g:(bW et).run P w=.ok z w):
  (a3 mty (.map (Z b)) (I κ k) true).run P w=.ok (.tuple #[z,.bool false]) w:=by
 have d (e:Bool):(bm e 10000 kt (I κ k)).run P w=.ok () w:=bb (k:=I κ k) a (by simp[bn]) e 9999;simp[a3,a4 f,a7 c,d,be a h,g,aZ]
end
section
variable {P:ca} {w:aT} {ops:Array Oper} {rest:List Oper} {o:Oper} {a:Act} {Q:Exit→Act→aT→Prop} {es:Array MapEntry} {clk b i:Nat} {κ:bA} {k:Int} {v z:aA} {m x y:Operand} {mty kt et:bd}
def ZM{t:bd}(d:o.guard=O)(e:o.op=Op.makeMap t O)(hK:bw P ops Q rest (a.put o.dst (.map (Z w.heap.size))) (w.alloc (.map #[] 0))):bw P ops Q (o::rest) a w:=by
 refine bp d fun f c=>?_
 unfold bM;simp[-bl,b5,e,run_makeMap_plain,aZ];exact c _ _ hK
def ZJ(e:o.guard=O)(j:o.op=Op.insert mty m x y)(g:P.underlying mty=Z (.map kt et))(f:P.underlying kt=Z (.int κ))(d:a.eval m=.map (Z w.heap.size))(n:a.eval x=I κ k)(l:a.eval y=v)(h:a5 (.int κ) (I κ k) es.toList 0=Z O)
  (hK:bw P ops Q rest (a.put o.dst undef) (w.alloc (.map (es.push ⟨I κ k,v,clk⟩) (clk+1)))):bw P ops Q (o::rest) a (w.alloc (.map es clk)):=by
 refine bp e fun p c=>?_
 unfold bM;simp[-bl,b5,j,d,n,l,YD g f h,aZ];exact c _ _ hK
def ZK(f:o.guard=O)(l:o.op=Op.lookup mty m x true)(j:P.underlying mty=Z (.map kt et))(g:P.underlying kt=Z (.int κ))(e:w.heap[b]? =Z (.map es clk))(d:a.eval m=.map (Z b))(n:a.eval x=I κ k)(h:a5 (.int κ) (I κ k) es.toList 0=Z (Z (i,v)))
  (hK:bw P ops Q rest (a.put o.dst (.tuple #[v,.bool true])) w):bw P ops Q (o::rest) a w:=by
 refine bp f fun p c=>?_
 unfold bM;simp[b5,l,d,n,YE j g e h,aZ];exact c _ _ hK
def ZL(f:o.guard=O)(l:o.op=Op.lookup mty m x true)(j:P.underlying mty=Z (.map kt et))(g:P.underlying kt=Z (.int κ))(p:(bW et).run P w=.ok z w)(e:w.heap[b]? =Z (.map es clk))(d:a.eval m=.map (Z b))(n:a.eval x=I κ k)(h:a5 (.int κ) (I κ k) es.toList 0=Z O)
  (hK:bw P ops Q rest (a.put o.dst (.tuple #[z,.bool false])) w):bw P ops Q (o::rest) a w:=by
 refine bp f fun q c=>?_
 unfold bM;simp[b5,l,d,n,YG j g e h p,aZ];exact c _ _ hK
end
def A8{a b:Bool}(h:a=b):bC (.bool a)=.returned (.bool b):=by rw[h]
def EH{k:bA}{a b:Int}(h:a=b):bC (I k a)=.returned (I k b):=by rw[h]
structure Wt where
 proc:Int
 prio:Int
 val:Int
def Wt.Uq{a b:Wt}:a=b↔a.proc=b.proc∧a.prio=b.prio∧a.val=b.val:=by
 cases a;cases b;simp
instance :DecidableEq Wt:=fun a b=>decidable_of_iff (a.proc=b.proc∧a.prio=b.prio∧a.val=b.val) Wt.Uq.symm
instance :Inhabited Wt:=⟨⟨0,0,0⟩⟩
def Bv(x:Wt):List aA:=[I J x.proc,I J x.prio,I U x.val]
def cellsW(l:List Wt):List aA:=l.flatMap Bv
def JU(x:Wt):(Bv x).length=3:=rfl
def JR:cellsW []=[]:=rfl
def Gi(x:Wt)(l:List Wt):cellsW (x::l)=Bv x++cellsW l:=rfl
def JQ(l m:List Wt):cellsW (l++m)=cellsW l++cellsW m:=by simp[cellsW]
def DI(l:List Wt):(cellsW l).length=l.length*3:=by
 induction l with
 |nil=>rfl
 |cons x l a=>rw[Gi,a0,a,JU,List.length_cons];omega
def Of(l:List Wt)(k:Nat):(cellsW l).drop (k*3)=cellsW (l.drop k):=by
 induction k generalizing l with
 |zero=>simp
 |succ k a=>
  cases l with
  |nil=>simp[JR]
  |cons x l=>
   rw[Gi,List.drop_succ_cons,←a l];have:(k+1)*3=3+k*3:=by omega
   rw[this,←List.drop_drop];rfl
def Og(l:List Wt)(k:Nat):(cellsW l).take (k*3)=cellsW (l.take k):=by
 induction k generalizing l with
 |zero=>simp[JR]
 |succ k a=>
  cases l with
  |nil=>simp[JR]
  |cons x l=>
   rw[Gi,List.take_succ_cons,Gi,←a l];have:(k+1)*3=(Bv x).length+k*3:=by rw[JU];omega
   rw[this,List.take_append,Nat.add_sub_cancel_left,bN (by omega)]
def KD(l:List Wt)(k i:Nat)(a:k<l.length)(b:i<3):(cellsW l)[k*3+i]? =(Bv l[k])[i]?:=by
 rw[←bt,Of,List.drop_eq_getElem_cons a,Gi,List.getElem?_append_left (by rw[JU];omega)]
def MN(l:List Wt):∀ u∈cellsW l,u.oneCell'=true:=by
 intro u a;simp only[cellsW,List.mem_flatMap,Bv] at a;obtain⟨x,_,b⟩:=a;simp at b;rcases b with rfl|rfl|rfl<;>rfl
def Sl(w:aT)(B sz:Nat)(v:aA)(n:Nat)(d:List aA):Prop:=
 ∃ (a:Option b7) (cap:Nat),v=Y a n cap∧n≤cap∧(a=O→cap=0)∧d.length=n*sz∧
  (0<n→∃ b c,a=Z ⟨b,c,O⟩∧B≤b∧b<w.heap.size∧∀ j u,d[j]? =Z u→w.cell? ⟨b,c+j,O⟩=Z u)
section
variable {w w':aT} {B B' sz n:Nat} {v:aA} {xs:List aA}
def Sl.Ag(h:Sl w B sz v n xs)(t:w.heap.size≤w'.heap.size)(i:∀ p:b7,p.block<w.heap.size→w'.cell? p=w.cell? p):Sl w' B sz v n xs:=by
 obtain⟨a,cap,r,l,m,k,o⟩:=h;refine⟨a,cap,r,l,m,k,fun c=>?_⟩;obtain⟨b,s,e,d,f,g⟩:=o c;exact⟨b,s,e,d,by omega,fun j u q=>(i _ f).trans (g j u q)⟩
def Sl.below(h:Sl w B sz v n xs)(a:Bl w w'):Sl w' B sz v n xs:=h.Ag a.size fun _ b=>a.cell b
def Sl.drewN(h:Sl w B sz v n xs)(k:Nat):Sl (w.drewN k) B sz v n xs:=h
def Sl.drew(h:Sl w B sz v n xs):Sl w.drew B sz v n xs:=h
def Sl.alloc(h:Sl w B sz v n xs)(o:Obj):Sl (w.alloc o) B sz v n xs:=h.below ((bj _ _).alloc (bf _) _)
def Sl.mono(h:Sl w B sz v n xs)(d:B'≤B):Sl w B' sz v n xs:=by
 obtain⟨a,cap,m,j,k,i,l⟩:=h;refine⟨a,cap,m,j,k,i,fun c=>?_⟩;obtain⟨b,o,e,d,f,g⟩:=l c;exact⟨b,o,e,by omega,f,g⟩
def Sl.nil(w:aT)(B sz:Nat):Sl w B sz (Y O 0 0) 0 []:=⟨O,0,rfl,bf _,fun _=>rfl,by simp,fun h=>absurd h (by omega)⟩
def Sl.Bw{base:Nat}{e:bd}(h:w.ownsRow base e sz v n xs):Sl w base sz v n xs:=by
 rcases h.2 with ⟨rfl,rfl⟩|⟨g,cap,cur,rfl,b,c,d,_,i,k⟩
 ·exact⟨O,0,rfl,bf _,fun _=>rfl,h.1,fun h=>absurd h (by omega)⟩
 ·refine⟨_,cap,rfl,d,(by intro h;cases h),h.1,fun _=>⟨g,0,rfl,b,(a2.1 c).1,fun j u f=>?_⟩⟩;have:=h.cells (g:=g) rfl j u f;have a:(⟨g,0,O⟩:b7).add j=⟨g,0+j,O⟩:=by unfold Addr.add;split<;>simp_all
  rw[a] at this;exact this
end
def Al(w:aT)(B:Nat)(v:aA)(l:List Wt):Prop:=Sl w B 3 v l.length (cellsW l)
section
variable {w w':aT} {B B':Nat} {v:aA} {l:List Wt}
def Al.below(h:Al w B v l)(a:Bl w w'):Al w' B v l:=Sl.below h a
def Al.drewN(h:Al w B v l)(k:Nat):Al (w.drewN k) B v l:=h
def Al.drew(h:Al w B v l):Al w.drew B v l:=h
def Al.alloc(h:Al w B v l)(o:Obj):Al (w.alloc o) B v l:=Sl.alloc h o
def Al.mono(h:Al w B v l)(a:B'≤B):Al w B' v l:=Sl.mono h a
def Al.open_(h:Al w B v l):∃ (c:Option b7) (cap:Nat),v=Y c l.length cap∧l.length≤cap∧(c=O→cap=0)∧
  (0<l.length→∃ b a,c=Z ⟨b,a,O⟩∧B≤b∧b<w.heap.size∧∀ k (d:k<l.length),
   w.cell? ⟨b,a+k*3,O⟩=Z (I J l[k].proc)∧w.cell? ⟨b,a+k*3+1,O⟩=Z (I J l[k].prio)∧w.cell? ⟨b,a+k*3+2,O⟩=Z (I U l[k].val)):=by
 obtain⟨c,cap,p,m,n,_,o⟩:=h;refine⟨c,cap,p,m,n,fun f=>?_⟩;obtain⟨b,a,i,g,j,e⟩:=o f;refine⟨b,a,i,g,j,fun k d=>⟨?_,?_,?_⟩⟩
 ·exact e (k*3) _ (by have:=KD l k 0 d (by omega);simpa[Bv] using this)
 ·exact e (k*3+1) _ (by have:=KD l k 1 d (by omega);simpa[Bv] using this)
 ·exact e (k*3+2) _ (by have:=KD l k 2 d (by omega);simpa[Bv] using this)
end
structure Ai where
 op:Int
 a:Int
 b:Int
 c:Int
 deriving DecidableEq
structure St where
 pc:Int
 left:Int
 AG:List Int
 deriving DecidableEq
structure Ac where
 kind:Int
 a:Int
 b:Int
 data:List Int
 deriving DecidableEq
def opsOf(a:Int):List Int:=
 match a with
 |1=> [1]|2=> [2,3]|3=> [2,2]|4=> [2,2]|5=> [2,4,2]|6=> [2,4,2]|7=> [6,2,5]|8=> [6,2,2]
 |9=> [6]|10=> [6]|11=> [6]|12=> [6]|13=> [6]|14=> [6,2]|15=> [6,2]|16=> [6,2]|17=> [6,2]|18=> [6]
 |19=> []|20=> [7]|21=> [2,7]|22=> [2,2,7]|23=> [2,2]|24=> [3]| _=> []
def Cp(o:Int):Int:=if o=1∨o=5 then 1 else 0
def De(o x a:Int):Int:=if o=1 then 2000 else if o=2 then 3 else if o=3 then 255 else if o=4 then 4095 else if o=5 then 64 else if o=6 then x else if o=7 then a-1 else 0
def Aw(o x a:Int):Bool:=decide (Cp o≤x) && decide (x≤De o x a)
def Dy(x:Ai)(i:Nat):Int:=match i with|0=>x.a|1=>x.b| _=>x.c
def Bb(x:Ai)(a:Int):Bool:=decide (1≤x.op) && decide (x.op≤25) && (opsOf x.op).zipIdx.all (fun p=>Aw p.1 (Dy x p.2) a)
def CM(a:List Ai)(i:Int):Option Ai:=
 if i<0 then O else match a[i.toNat]? with
  |none=>O
  |some x=>if Bb x a.length then Z x else O
def CY(s:St)(i:Int):Int:=s.AG.getD i.toNat 0
def D2(s:St)(i v:Int):St:={s with AG:=s.AG.set i.toNat v}
def zeroA:Ac:=⟨0,0,0,[]⟩
def Gq(f c:Int):Ac:=⟨15,f,c,[]⟩
def countP(first:Int)(n:Nat):List Int:=(List.range n).map fun(i:Nat)=>(first+(i:Int))%256
def As(x:Ai)(s:St)(d:List Int):St×Ac:=
 match x.op with
 |1=>let l:=(if s.left=0 then x.a else s.left)-1;({s with left:=l,pc:=if l=0 then s.pc else s.pc-1},zeroA)
 |2=>(D2 s x.a (x.b%256),zeroA)
 |3=>(D2 s x.a ((CY s x.a+CY s x.b)%256),zeroA)
 |4=>(D2 s x.a ((CY s x.a-CY s x.b)%256),zeroA)
 |5=>if(d.length:Int)≤x.b+CY s x.c then(s,Gq 2 0) else(D2 s x.a (d.getD (x.b+CY s x.c).toNat 0),zeroA)
 |6=>if(d.length:Int)≤x.b+CY s x.c then(s,Gq 2 0) else(s,⟨1,x.b+CY s x.c,CY s x.a,[]⟩)
 |7=>(s,⟨2,x.a,0,countP (CY s x.b) x.c.toNat⟩)
 |8=>(s,⟨3,x.a,0,[]⟩)
 |9=>(s,⟨4,x.a,0,[]⟩)
 |10=>(s,⟨5,x.a,0,[]⟩)
 |11=>(s,⟨6,x.a,0,[]⟩)
 |12=>(s,⟨7,x.a,0,[]⟩)
 |13=>(s,⟨8,x.a,0,[]⟩)
 |14=>(s,⟨9,x.a,0,[CY s x.b]⟩)
 |15=>(s,⟨10,x.a,0,[]⟩)
 |16=>(s,⟨11,x.a,0,[CY s x.b]⟩)
 |17=>(s,⟨12,x.a,0,[]⟩)
 |18=>(s,⟨13,x.a,0,[]⟩)
 |19=>(s,⟨14,0,0,[]⟩)
 |20=>({s with pc:=x.a},zeroA)
 |21=>(if CY s x.a=0 then {s with pc:=x.b} else s,zeroA)
 |22=>(if CY s x.a<CY s x.b then {s with pc:=x.c} else s,zeroA)
 |23=>if CY s x.b=0 then(s,Gq 4 0) else(D2 s x.a (CY s x.a/CY s x.b),zeroA)
 |24=>(s,Gq 3 x.a)
 |25=>({s with pc:=s.pc-1},⟨16,0,0,[]⟩)
 | _=>(s,zeroA)
def FZ(a:List Ai)(s:St)(b:List Int):St×Ac:=
 match CM a s.pc with
 |none=>(s,Gq 5 0)
 |some x=>As x {s with pc:=s.pc+1} b
def DS(d:List Ai)(s:St)(data:List Int):St:=
 match CM d (s.pc-1) with
 |none=>s
 |some x=>if x.op=8∨x.op=15∨x.op=17 then
   let a:=D2 s x.b (data.headD 0)
   if x.op=8 then D2 a x.c ((data.length:Int)%256) else a
  else s
def Ix:(prog.info? 161).map (fun i=>(i.zero,i.size,i.bytes))=Z (Z (.agg #[I J 0,I J 0,I U 0]),3,24):=by kernel_rfl
def OT:(prog.info? 5).map (fun i=>(i.zero,i.size,i.bytes))=Z (Z (I U 0),1,1):=by kernel_rfl
def Cu(b a j:Nat):(⟨b,a,O⟩:b7).add j=⟨b,a+j,O⟩:=by
 unfold Addr.add;split
 ·simp_all
 ·rfl
def GK(v:aA)(l:List Wt)(w:aT)(h:Al w 0 v l)(Q:l.length≤1000000):
  br prog 112 #[v] w fun e w'=>∃ d,e=.returned d∧w'.ownsRow w.heap.size 161 3 d l.length (cellsW l)∧Bl w w':=by
 obtain⟨x,cap,rfl,R,g,t,i⟩:=h;obtain⟨P,D,L,M,N⟩:=bP Ix;have q:∀ (w:aT) (a:Option b7) (n c m f:Nat),(binOp .eql 93 (Y a n c) (Y O m f)).run prog w=.ok (.bool a.isNone) w:=fun w a n c m f=>Lib.run_eql_slice_nil w _ _ a n c m f underlying93
 have K:=HH t;clear t;cases x with
 |none=>
  have y:l=[]:=List.eq_nil_of_length_eq_zero (by have:=g rfl;omega);subst y;clear i g;go_enter func112,ntmps112;go_wp2;go_ret;exact⟨_,rfl,World.ownsRow_nil _ _ _ _,bj _ _⟩
 |some p=>
  have A:Hq (∀ j u,(cellsW l)[j]? =Z u→w.cell? (p.add j)=Z u):=by
   intro j u s;have F:=(List.getElem?_eq_some_iff.1 s).1;obtain⟨b,V,z,_,_,B⟩:=i (by rw[DI] at F;omega);cases z;rw[Cu];exact B j u s
  clear i g;go_enter func112,ntmps112;go_wp2_with (at_builtin;refine b8 _ rfl _ _ 93 rfl w.heap.size 161 P (.agg #[I J 0,I J 0,I U 0]) 3 24 underlying93 D L M N rfl (by decide) _ _ _ rfl (World.ownsRow_made w #[] 0 (bf _) (bU _) (by simp)) p l.length cap (cellsW l) rfl ?qc1 ?qc2 ?qc3 ?qc4 ?qc5 ?qc6 ?_)
  case qc1=>exact K.o
  case qc2=>
   intro j u r;exact(bQ _ _ _ (World.block_lt_of_cell? _ _ (A.o j u r))).trans (A.o j u r)
  case qc3=>exact MN l
  case qc4=>unfold bD;omega
  case qc5=>omega
  case qc6=>simp
  intro d W H C S;go_wp2;go_ret;exact⟨d,rfl,by simpa using H,((bj _ w).alloc (bf _) _).grown C (by simp) (by intro k E;simp[b4] at E;omega)⟩
def Gn {P:ca} {f:FuncId} {a:Func} {c:Code} (e:P.funcs[f]? =Z a) (g:(a.name== "runtime.NumGoroutine")=false) (d:a.body=Z c):∀ args w,(bG f args).run P w=.ok (.enter f args) w:=by
 intro args w;have b:a.name≠ "runtime.NumGoroutine" :=by simpa using g
 simp[bG,e,b,d,mark]
def IJ(g:Nat)(a:Array aA)(p:Wt→Bool)(w:aT):Prop:=
 ∀ (W:aT) (x:Wt),Bl w W→br prog g (#[.agg #[I J x.proc,I J x.prio,I U x.val]]++a) W fun e w'=>e=.returned (.bool (p x))∧Bl w w'
def DL{α:Type}(p:α→Bool)(l:List α):Int:=if l.findIdx p<l.length then(l.findIdx p:Int) else-1
def JY{α:Type}(p:α→Bool)(l:List α)(k:Nat)(a:k<l.length)(h:p l[k]=true)(b:∀ j (_:j<k) (d:j<l.length),p l[j]=false):DL p l=k:=by
 have:l.findIdx p=k:=(List.findIdx_eq a).2 ⟨h,fun j c=>by simpa using b j c (by omega)⟩;simp[DL,this,a]
def JZ{α:Type}(p:α→Bool)(l:List α)(b:∀ j (a:j<l.length),p l[j]=false):DL p l=-1:=by
 have:l.findIdx p=l.length:=by
  rw[List.findIdx_eq_length];intro x c;obtain⟨j,a,rfl⟩:=List.getElem_of_mem c;exact b j a
 simp[DL,this]
def KI{α:Type}(p:α→Bool)(l:List α):decide (0≤DL p l)=l.any p:=by
 unfold DL;by_cases h:l.findIdx p<l.length
 ·have:=bO.1 h;simp only[h,if_true];rw[decide_eq_true (by omega),eq_comm,List.any_eq_true];exact this
 ·simp only[h,if_false];rw[decide_eq_false (by omega),eq_comm,List.any_eq_false];intro x b a;exact h (bO.2 ⟨x,b,a⟩)
def KV(v:aA)(l:List Wt)(g:Nat)(u:Array aA)(p:Wt→Bool)(H:∀ args w,(bG g args).run prog w=.ok (.enter g args) w)(w:aT)(h:Al w 0 v l)(N:l.length≤1000000)(t:IJ g u p w):
  br prog 145 #[v,.func (.func g) #[] u] w fun e w'=>e=.returned (I J (DL p l))∧Bl w w':=by
 obtain⟨F,n,rfl,K,P,x⟩:=h.open_;clear h;have y:=HH t;clear t;go_enter func145,ntmps145;go_wp2
 go_loopg [5,8] l.length (fun B _ E wr=>∃ k:Nat,k≤l.length∧l.length-k≤B∧E=I J k∧Hq (Bl w wr)∧Hq (∀ j (d:j<k) (r:j<l.length),p l[j]=false))
 case atStart=>exact⟨0,bU _,by omega,rfl,bj _ w,fun j d=>absurd d (Nat.not_lt_zero _)⟩
 case round=>
  obtain⟨k,M,L,rfl,f,A⟩:=hrel;by_cases s:k<l.length
  ·have D:(k:Int)<(l.length:Int):=by omega
   obtain⟨b,Q,rfl,_,C,n⟩:=x (by omega);obtain⟨z,c1,c2⟩:=n k s;rw[←f.o.cell (p:=⟨b,_,O⟩) C] at z c1 c2;clear x n;have a:=y.o wr l[k] f.o;cases c:p l[k] with
   |true=>
    rw[c] at a;obtain⟨i,m⟩:=H2 a c;clear a c;go_wp2_with (refine i.o.mono ?_;rintro e w' ⟨rfl,q⟩);go_ret;exact⟨EH (JY p l k s m.o A.o).symm,q⟩
   |false=>
    rw[c] at a;obtain⟨i,m⟩:=H2 a c;clear a c;go_wp2_with (refine i.o.mono ?_;rintro e w' ⟨rfl,q⟩)
    go_roundg (l.length-(k+1))
    case measure=>omega
    case rel=>
     refine⟨k+1,by omega,by omega,by go_num,q,fun j d r=>?_⟩;by_cases e:j=k
     ·subst e;exact m.o
     ·exact A.o j (by omega) r
  ·have D:¬(k:Int)<(l.length:Int):=by omega
   go_wp2;go_ret;exact⟨EH (JZ p l (fun j d=>A.o j (by omega) d)).symm,f.o⟩
def JS(v:aA)(l:List Wt)(g:Nat)(a:Array aA)(p:Wt→Bool)(c:∀ args w,(bG g args).run prog w=.ok (.enter g args) w)(w:aT)(h:Al w 0 v l)(i:l.length≤1000000)(d:IJ g a p w):
  br prog 134 #[v,.func (.func g) #[] a] w fun e w'=>e=.returned (.bool (l.any p))∧Bl w w':=by
 have b:=HH (KV v l g a p c w h i d);rw[←KI];generalize DL p l=q at b ⊢;clear h d c;go_enter func134,ntmps134;go_wp2_with (go_at_call 145;refine b.o.mono ?_;rintro e w' ⟨rfl,f⟩);go_ret;exact⟨rfl,f⟩
def Cs(k:bd)(q:bA)(w:aT)(b n:Nat)(f:Int→Int):Prop:=
 ∃ D:DataW Unit,IsMap D∧w.ownsMap prog k (plainElem prog 3) b n D∧∀ x,D.atKey (.int q x) (.lit (.int J 0))=.lit (.int J (f x))
section
variable {k:bd} {q:bA} {w w':aT} {b n:Nat} {f:Int→Int}
def Cs.made(k:bd)(q:bA)(w:aT):Cs k q (w.alloc (.map #[] 0)) w.heap.size 0 (fun _=>0):=
 ⟨.map [],isMap_empty,World.ownsMap_made _ _ _ _,fun _=>rfl⟩
def Cs.lt(h:Cs k q w b n f):b<w.heap.size:=by obtain⟨D,_,h,_⟩:=h;exact h.lt
def Cs.kept{row:Option Nat}(h:Cs k q w b n f)(e:w.grownBy w' row)(g:Z b≠row):Cs k q w' b n f:=by
 obtain⟨D,a,c,d⟩:=h;exact⟨D,a,c.kept e g,d⟩
def Cs.below{B:Nat}(h:Cs k q w b n f)(i:Below B w w')(g:b<B):Cs k q w' b n f:=by
 obtain⟨D,d,⟨c,a,j,r⟩,e⟩:=h;exact⟨D,d,⟨c,a,(i.block b g).trans j,r⟩,e⟩
def Cs.alloc(h:Cs k q w b n f)(o:Obj):Cs k q (w.alloc o) b n f:=by
 obtain⟨D,a,c,d⟩:=h;exact⟨D,a,c.alloc o,d⟩
def Cs.drewN(h:Cs k q w b n f)(m:Nat):Cs k q (w.drewN m) b n f:=h
def Cs.look(h:Cs k q w b n f){t:bd}(j:prog.underlying t=Z (.map k 3))(d:prog.underlying k=Z (.int q))(x:Int)(l:(bk q x).wf=true):
  (a3 t (.map (Z b)) (.int q x) false).run prog w=.ok (.int J (f x)) w:=by
 obtain⟨D,o,e,g⟩:=h;have m:(bW 3).run prog w=.ok (.int J 0) w:=by kernel_rfl
 obtain⟨c,i,a,_⟩:=e.lookup_int (int_keyed d) j underlying3 m (keyOf_int_mk d l);rw[g x] at a;simp only[DataW.lit.injEq,b1,true_and] at a;rw[i,a]
def Cs.update(h:Cs k q w b n f){t:bd}(r:prog.underlying t=Z (.map k 3))(e:prog.underlying k=Z (.int q))(m:n<bD)(x c:Int)(s:(bk q x).wf=true)(j:(bk J c).wf=true):
  ∃ w',(bE t (.map (Z b)) (.int q x) (.int J c)).run prog w=.ok () w'∧Cs k q w' b (n+1) (fun y=>if y=x then c else f y)∧w.grownBy w' (Z b):=by
 obtain⟨D,d,g,i⟩:=h;obtain⟨w',p,o,l⟩:=g.update (int_keyed e) r m (keyOf_int_mk e s) (plainElem_int underlying3 j);refine⟨w',p,⟨_,d.put _ _,o,fun y=>?_⟩,l⟩;show _=DataW.lit (bk J (if y=x then c else f y));by_cases a:y=x
 ·subst a;rw[if_pos rfl,atKey_put_same d (k:=.int q y) trivial]
 ·rw[if_neg a,atKey_put_other (by simp only[ne_eq,b1,true_and];exact a),i y]
end
def ZI{k:bd}{q:bA}{w:aT}{b n:Nat}{f:Int→Int}{ops:Array Oper}{rest:List Oper}{o:Oper}{a:Act}{Q:Exit→Act→aT→Prop}
  (i:o.guard=O) (m x v:Operand) (t:bd) (r:o.op=Op.mapUpdate t m x v) (u:prog.underlying t=Z (.map k 3)) (j:prog.underlying k=Z (.int q))
  (h:Cs k q w b n f) (p:n<bD) (d c:Int) (A:(bk q d).wf=true) (g:(bk J c).wf=true) (l:a.eval m=.map (Z b)) (B:a.eval x=.int q d) (z:a.eval v=.int J c)
  (hK:∀ w',Cs k q w' b (n+1) (fun y=>if y=d then c else f y)→w.grownBy w' (Z b)→bw prog ops Q rest (a.put o.dst undef) w'):
  bw prog ops Q (o::rest) a w:=by
 refine bp i fun D e=>?_
 obtain⟨w',s,C,r2⟩:=h.update u j p d c A g;unfold bM;simp[b5,r,l,B,z,s,aZ];exact e _ _ (hK w' C r2)
def AY(l:List Wt):Prop:=(∀ x∈l,0≤x.proc)∧l.Pairwise (fun a b=>a.proc≠b.proc)∧l.Pairwise (fun a b=>b.prio≤a.prio)
instance (l:List Wt):Decidable (AY l):=by unfold AY;exact inferInstance
def AY.nil:AY []:=⟨by simp,bJ,bJ⟩
def AY.take{l:List Wt}(h:AY l)(k:Nat):AY (l.take k):=
 ⟨fun x a=>h.1 x (List.mem_of_mem_take a),h.2.1.sublist (bY k l),h.2.2.sublist (bY k l)⟩
def XT(m:List Wt)(x:Wt):AY (m++ [x])↔AY m∧0≤x.proc∧(∀ y∈m,y.proc≠x.proc)∧∀ y∈m,x.prio≤y.prio:=by
 unfold AY;simp only[List.pairwise_append,List.mem_append,List.mem_singleton,List.pairwise_singleton];constructor
 ·rintro⟨b,⟨c,_,d⟩,e,_,f⟩;exact⟨⟨fun y a=>b y (.inl a),c,e⟩,b x (.inr rfl),fun y a=>d y a x rfl,fun y a=>f y a x rfl⟩
 ·rintro⟨⟨b,c,d⟩,e,f,g⟩;exact⟨by rintro y (a|rfl);exact b y a;exact e,⟨c,trivial,by rintro y a z rfl;exact f y a⟩,d,trivial,by rintro y a z rfl;exact g y a⟩
def XU(l:List Wt)(k:Nat)(i:k<l.length)(h:AY (l.take k)):
  AY (l.take (k+1))↔0≤l[k].proc∧(∀ y∈l.take k,y.proc≠l[k].proc)∧(0<k→l[k].prio≤(l[k-1]'(by omega)).prio):=by
 rw[bz i,XT];constructor
 ·rintro⟨_,a,b,c⟩;refine⟨a,b,fun m=>c _ ?_⟩;rw[bK];exact⟨k-1,by omega,rfl⟩
 ·rintro⟨a,b,c⟩;refine⟨h,a,b,fun y f=>?_⟩;rw[bK] at f;obtain⟨j,n,rfl⟩:=f;have g:=c (by omega);by_cases e:j=k-1
  ·subst e;exact g
  ·have d:=h.2.2;rw[List.pairwise_iff_getElem] at d;have:=d j (k-1) (by simp;omega) (by simp;omega) (by omega);simp only[List.getElem_take] at this;omega
def D7(l:List Wt)(q:Int):Int:=(l.countP fun x=>decide (x.proc=q):Nat)
def Sk(l:List Wt)(q:Int):D7 l q=0↔∀ y∈l,y.proc≠q:=by
 unfold D7;rw[show ((l.countP (fun x=>decide (x.proc=q)):Nat):Int)=0↔l.countP (fun x=>decide (x.proc=q))=0 by omega,List.countP_eq_zero];simp
def Si(l:List Wt)(q:Int):0≤D7 l q:=by unfold D7;omega
def Sh(l:List Wt)(q:Int):D7 l q≤l.length:=by
 unfold D7;have:=List.countP_le_length (p:=fun x:Wt=>decide (x.proc=q)) (l:=l);omega
def Sj(l:List Wt)(x:Wt):(fun y=>if y=x.proc then D7 l x.proc+1 else D7 l y)=D7 (l++ [x]):=by
 funext y;unfold D7;rw[List.countP_append];by_cases h:y=x.proc
 ·subst h;simp
 ·have:¬x.proc=y:=fun e=>h e.symm
  simp[h,this]
def Ck(l:List Wt):Prop:=∀ x∈l,(bk J x.proc).wf=true
def Li(v:aA)(l:List Wt)(w:aT)(h:Al w 0 v l)(ah:Ck l)(hl:l.length≤100000):
  br prog 131 #[v] w fun e w'=>e=.returned (.bool (decide (AY l)))∧Bl w w':=by
 obtain⟨ao,t,rfl,aQ,aV,pa⟩:=h.open_;clear h;have aG:=@run_makeMap prog;have N:=HH ah;clear ah;go_enter func131,ntmps131;go_wp2;clear aG
 go_loopg [4,5,9] l.length (fun gg _ _ s9 wr=>∃ k:Nat,k≤l.length∧l.length-k≤gg∧s9=.int J k∧Hq (Bl w wr∧Cs 3 J wr w.heap.size k (D7 (l.take k))∧AY (l.take k)))
 case atStart=>exact⟨0,bU _,by omega,rfl,(bj _ w).alloc (bf _) _,Cs.made 3 J w,AY.nil⟩
 case round=>
  obtain⟨k,hk,hg,rfl,A⟩:=hrel;by_cases z:k<l.length
  ·have aF:(k:Int)<(l.length:Int):=by omega
   obtain⟨b,ai,rfl,_,E,t⟩:=pa (by omega);obtain⟨Q,c1,c2⟩:=t k z;rw[←A.o.1.cell (p:=⟨b,_,O⟩) E] at Q c1 c2;have R:Hq (0<k→∃ x:k-1<l.length,wr.cell? ⟨b,ai+(k-1)*3+1,O⟩=Z (.int J l[k-1].prio)):=fun u=>⟨by omega,(A.o.1.cell (p:=⟨b,_,O⟩) E).trans (t (k-1) (by omega)).2.1⟩;have az:b<wr.heap.size:=bh E A.o.1.size;clear pa t;have B:(bk J l[k].proc).wf=true:=N.o _ (List.getElem_mem z);have s:=HH (XU l k z A.o.2.2);have F:(Cs 3 J (wr.alloc (T #[.int J l[k].proc,.int J l[k].prio,.int U l[k].val] 161)) w.heap.size k (D7 (l.take k))):=A.o.2.1.alloc _;have ae:=F.look underlying267 underlying3 l[k].proc B;have aC:D7 (l.take k) l[k].proc≤100000:=by have:=Sh (l.take k) l[k].proc;simp at this;omega
   have aD:=Si (l.take k) l[k].proc;have K:(bk J (D7 (l.take k) l[k].proc+1)).wf=true:=WalkArith.wf_i64 (by omega);have M:=HH F;clear F;generalize ac:D7 (l.take k) l[k].proc=c at ae aC aD K;have C:=HH ac;clear ac
   -- what is known behind the update
   have aa:Hq (∀ a,Cs 3 J a w.heap.size (k+1) (fun y=>if y=l[k].proc then c+1 else D7 (l.take k) y)→(wr.alloc (T #[.int J l[k].proc,.int J l[k].prio,.int U l[k].val] 161)).grownBy a (Z w.heap.size)→
     a.heap[wr.heap.size]? =Z (T #[.int J l[k].proc,.int J l[k].prio,.int U l[k].val] 161 (0,0))∧(∀ m,(a3 267 (.map (Z w.heap.size)) (.int J l[k].proc) false).run prog (a.drewN m)=.ok (.int J (c+1)) (a.drewN m))∧
     (0<k→∃ x:k-1<l.length,a.cell? ⟨b,ai+(k-1)*3+1,O⟩=Z (.int J l[k-1].prio))∧Bl w a):=by
    intro a r n;have aU:w.heap.size<wr.heap.size:=A.o.2.1.lt;refine⟨(n.block wr.heap.size (by simp) (by simp;omega)).trans (bc wr _),fun m=>?_,fun u=>?_,?_⟩
    ·have:=(r.drewN m).look underlying267 underlying3 l[k].proc B;rwa [if_pos rfl] at this
    ·obtain⟨x,hc⟩:=R.o u;exact⟨x,n.cell (bQ _ _ _ az|>.trans hc) (by simp;omega)⟩
    ·exact(A.o.1.alloc A.o.1.size _).grown n (by simp;omega) (by intro j hj;simp at hj;omega)
   have P:Hq (∀ a:aT,a.heap[wr.heap.size]? =Z (T #[.int J l[k].proc,.int J l[k].prio,.int U l[k].val] 161 (0,0))→
     a.cell? ⟨wr.heap.size,0,O⟩=Z (.int J l[k].proc)∧a.cell? ⟨wr.heap.size,1,O⟩=Z (.int J l[k].prio)):=fun a S=>
    ⟨by rw[aR a _ _ _ _ _ S];rfl,by rw[aR a _ _ _ _ _ S];rfl⟩
   go_wp2_with (at_mapUpdate;refine ZI rfl _ _ _ 267 rfl underlying267 underlying3 M.o (by unfold bD;omega) l[k].proc (c+1) B K rfl rfl rfl ?_;intro a r n;obtain⟨p1,p2,p3,p4⟩:=aa.o a r n;obtain⟨e0,e1⟩:=P.o a p1;have P3:=HH p3;have d:=HH p4;have an:=HH r;clear r n p1 p3 p4);clear aa P R ae B K M Q c1 c2 N;have ag:Hq (D7 (l.take k) l[k].proc=0↔∀ y∈l.take k,y.proc≠l[k].proc):=Sk _ _;have H:Hq (∀ m,(¬AY (l.take (k+1)))→bC (.bool false)=.returned (.bool (decide (AY l)))∧Bl w (a.drewN m)):=fun m aH=>
    ⟨A8 (decide_eq_false (fun h=>aH (h.take _))).symm,⟨d.o.os,d.o.tape,d.o.output,d.o.size,d.o.block⟩⟩
   have ad:Hq (∀ m,AY (l.take (k+1))→Bl w (a.drewN m)∧Cs 3 J (a.drewN m) w.heap.size (k+1) (D7 (l.take (k+1)))∧AY (l.take (k+1))):=fun m i=>by
    refine⟨⟨d.o.os,d.o.tape,d.o.output,d.o.size,d.o.block⟩,?_,i⟩;have:=Sj (l.take k) l[k];rw[←bz z,C.o] at this;rw[←this];exact an.o.drewN m
   generalize ab:c+1=D at*;have L:=HH ab;clear ab;by_cases V:1<D
   ·have ar:decide ((1:Int)<D)=true:=decide_eq_true V;refine a6 (by kernel_rfl) (by kernel_rfl) ?_
    iterate 25 (first|go_big_quiet_step (fail)|quiet_step (fail))
    refine bu ?_;intro _ f;obtain⟨nq,g⟩:=f;subst g;go_wp2;go_ret;refine H.o _ (fun i=>?_);have:=ag.o.2 ((s.o.1 i).2.1);have:=C.o;have:=L.o;omega
   ·have ar:decide ((1:Int)<D)=false:=decide_eq_false V;have aB:Hq (c=0):=by have:=L.o;show c=0;omega
    by_cases W:l[k].proc<0
    ·have au:decide (l[k].proc<0)=true:=decide_eq_true W;refine a6 (by kernel_rfl) (by kernel_rfl) ?_
     iterate 25 (first|go_big_quiet_step (fail)|quiet_step (fail))
     refine bu ?_;intro _ f;obtain⟨nq,g⟩:=f;subst g;go_wp2;go_ret;refine H.o _ (fun i=>?_);have:=(s.o.1 i).1;omega
    ·have au:decide (l[k].proc<0)=false:=decide_eq_false W;have af:Hq (∀ y∈l.take k,y.proc≠l[k].proc):=ag.o.1 (by rw[C.o];exact aB.o);by_cases q:0<k
     ·have ax:(0:Int)<(k:Int):=by omega
      have av:decide ((0:Int)<(k:Int))=true:=decide_eq_true ax;have aw:decide (0<k)=true:=decide_eq_true q;obtain⟨x,aK⟩:=P3.o q;have aW:((k:Int)-1).toNat=k-1:=by omega
      have aX:IntKind.i64.wrap ((k:Int)-1)=(k:Int)-1:=by rw[bi];omega
      have aN:(0:Int)≤(k:Int)-1:=by omega
      have aO:(1:Int)≤(k:Int):=by omega
      have aP:(k:Int)-1<(l.length:Int):=by omega
      by_cases X:l[k-1].prio<l[k].prio
      ·have ay:decide (l[k-1].prio<l[k].prio)=true:=decide_eq_true X;refine a6 (by kernel_rfl) (by kernel_rfl) ?_
       iterate 25 (first|go_big_quiet_step (fail)|quiet_step (fail))
       refine bu ?_;intro _ f;obtain⟨nq,g⟩:=f;subst g;go_wp2;go_ret;refine H.o _ (fun i=>?_);have:=(s.o.1 i).2.2 q;omega
      ·have ay:decide (l[k-1].prio<l[k].prio)=false:=decide_eq_false X;refine a6 (by kernel_rfl) (by kernel_rfl) ?_
       iterate 25 (first|go_big_quiet_step (fail)|quiet_step (fail))
       refine bu ?_;intro _ f;obtain⟨nq,g⟩:=f;subst g;go_wp2
       go_roundg (l.length-(k+1))
       case measure=>omega
       case rel=>
        exact⟨k+1,by omega,by omega,by go_num,ad.o _ (s.o.2 ⟨by omega,af.o,fun _=>by omega⟩)⟩
     ·have av:decide ((0:Int)<(k:Int))=false:=decide_eq_false (by omega);have aw:decide (0<k)=false:=decide_eq_false q;refine a6 (by kernel_rfl) (by kernel_rfl) ?_
      iterate 25 (first|go_big_quiet_step (fail)|quiet_step (fail))
      refine bu ?_;intro _ f;obtain⟨nq,g⟩:=f;subst g;go_wp2
      go_roundg (l.length-(k+1))
      case measure=>omega
      case rel=>
       exact⟨k+1,by omega,by omega,by go_num,ad.o _ (s.o.2 ⟨by omega,af.o,fun u=>absurd u q⟩)⟩
  ·have aF:¬(k:Int)<(l.length:Int):=by omega
   go_wp2;go_ret;refine⟨A8 (decide_eq_true ?_).symm,A.o.1⟩;have:=A.o.2.2;rwa [bN (by omega)] at this
section
variable {P:ca}
def Jt(w:aT)(h A B d:bd)(sz g o c l:Nat)(a:b7)(f z:Nat)(cur:List aA)(t:bd)(b:List aA)
  (y:P.underlying h=Z (.slice d)) (k:(P.info? d).map (·.size)=Z sz)
  (p:w.heap[g]? =Z (T cur.toArray t (0,0))) (s:b.length=b0 f c*sz)
  (u:∀ j v,b[j]? =Z v→w.cell? (a.add j)=Z v) (n:o+b.length≤cur.length) (m:∀ v∈b,v.oneCell'=true):
  (ba #[h,A] B #[Y (Z ⟨g,o,O⟩) c l,Y (Z a) f z]).run P w=
   .ok (goInt (b0 f c)) (w.setRow g (splice cur o b).toArray):=by
 have r:=run_loadCells_list (P:=P) w a b u;have x:=run_storeCells_at P g o t b 0 cur.toArray w p (by simpa using n) m;cases e:P.info? d with
 |none=>simp[e] at k
 |some i=>
  have q:i.size=sz:=by simpa[e] using k
  simp[ba,a4 y,Builtin.lenOf,Builtin.firstCells,sizeOf,typeInfo,e,q,←s,r,x,splice]
def Y9(w:aT)(t c H e:bd)(i:TypeInfo)(z:aA)(k F:bA)(A:P.underlying t=Z (.slice e))(B:P.underlying c=Z (.int F))(r:P.info? e=Z i)(E:i.zero=Z z)
  (R:0<i.size) (b:b7) (n cap m:Nat) (x:Int) (D:x=(m:Int)) (K:0<m) (a:List aA) (l:a.length=n*i.size) (o:∀ j v,a[j]? =Z v→w.cell? (b.add j)=Z v)
  (q:cap<n+m) (L:((n+m:Nat):Int)≤9223372036854775807) (h:(n+m)*i.bytes≤140737488355328):
  (bX #[t,c] H #[Y (Z b) n cap,I k x]).run P w=.ok (Y (Z ⟨w.heap.size,0,O⟩) (n+m) (b3 w (n+m) cap e))
   (w.drew.alloc (T (a++((a8 z.cells m).toList++(a8 z.cells (b3 w (n+m) cap e-(n+m))).toList)).toArray e)):=by
 subst D;have s:¬(n+m≤cap):=by omega
 have C:IntKind.i64.wrap (m:Int)=m:=by rw[bi];omega
 have g:¬(9223372036854775807<((n:Int)+(m:Int))):=by omega
 have M:=growslice_fits q h;have d:¬(281474976710656<Builtin.nextslicecap (n+m) cap*i.bytes):=by omega
 have Q:m*i.bytes≤281474976710656:=by
  have:=Nat.mul_le_mul_right i.bytes (show m≤n+m by omega);omega
 have f:¬(281474976710656<(m:Int)*(i.bytes:Int)):=by
  rw[←Int.natCast_mul];omega
 have u:¬((m:Int)<0):=by omega
 have y:¬(m*i.size=0):=Nat.mul_ne_zero (by omega) (by omega);have N:m≠0:=by omega
 have p:=run_firstCells_some (P:=P) w.drew i.size n b n cap a l (by simpa using o);simp[bX,a4 A,a4 B,sizeOf,typeInfo,bW,r,E,asInt,asIntOf,C,s,u,y,g,d,f,p,Question.forced,newRow,b3]
 congr 2
 apply Array.ext';simp
end
def D9(l:List Wt)(i:Nat)(x:Wt):List Wt:=l.take i++x::l.drop i
def VO(l:List Wt)(i:Nat)(x:Wt):cellsW (D9 l i x)=(cellsW l).take (i*3)++(Bv x++(cellsW l).drop (i*3)):=by
 rw[D9,JQ,Gi,Og,Of]
def OX(l:List Wt)(i:Nat)(x:Wt)(a:i≤l.length):(D9 l i x).length=l.length+1:=by
 simp[D9];omega
def Lu:(prog.info? 161).map (·.size)=Z 3:=by
 obtain⟨c,b,_,a,_⟩:=bP Ix;rw[b];simp[a]
def VV(g b n cap i:Nat)(cur:List aA)(x:Wt)(w:aT)(hi:i<n)(ap:n+1≤cap)(hn:n≤1000000)(P:cap≤bD)(t:b≠g)
  (r:w.heap[g]? =Z (T cur.toArray 161 (0,0))) (S:cur.length=cap*3) (H:∀ u∈cur.take (n*3),u.oneCell'=true)
  (m:w.heap[b]? =Z (T (Bv x).toArray 161 (0,0))):
  br prog 183 #[Y (Z ⟨g,0,O⟩) n cap,I J i,Y (Z ⟨b,0,O⟩) 1 1] w fun e w'=>
   e=.returned (Y (Z ⟨g,0,O⟩) (n+1) cap)∧
   w'.heap[g]? =Z (T (splice (splice cur ((i+1)*3) ((cur.take (n*3)).drop (i*3))) (i*3) (Bv x)).toArray 161 (0,0))∧w.grownBy w' (Z g):=by
 have y:(Bv x).length=3:=rfl;obtain⟨X,B⟩:=ex (Bv x);rw[←B] at m y ⊢;have K:∀ u∈X,u.oneCell'=true:=by subst B;intro u z;simp[Bv] at z;rcases z with rfl|rfl|rfl<;>rfl
 clear B;have ag:cap≤9223372036854775807:=by simpa[bD] using P
 obtain⟨a,q⟩:=ex ((cur.take (n*3)).drop (i*3));have R:a.length=(n-i)*3:=by subst q;simp;omega
 have N:∀ u∈a,u.oneCell'=true:=by subst q;intro u z;exact H u (bS z)
 have Q:∀ j v,a[j]? =Z v→w.cell? ⟨g,i*3+j,O⟩=Z v:=by
  intro j v f;subst q;rw[bt,bs] at f;split at f
  ·rw[aR w g _ _ _ _ r];simpa using f
  ·cases f
 rw[←q];clear q H;have ae:∀ E A,(bG 199 #[Y (Z ⟨b,0,O⟩) 1 1,Y (Z ⟨g,(i+1)*3,O⟩) E A]).run prog w=.ok (.value (.bool false)) w:=fun E A=>by
  rw[run_callFunc_extern func199 (by kernel_rfl) (by kernel_rfl) (by kernel_rfl) (e:=bV #[93,93] #[4]) (by kernel_rfl),
   Lib.run_overlaps_apart w 93 4 161 underlying93 3 sizeOf161 ⟨b,0,O⟩ ⟨g,(i+1)*3,O⟩ 1 1 E A t 161 161 3 (cap*3) (by simp[b6,m,y]) (by simp[b6,r,S]) (by omega) (by simp[aI,m]) (by simp[aI,m])]
  rfl
 have ad:∀ l h F,(ba #[93,93] l #[Y (Z ⟨g,(i+1)*3,O⟩) (n-i) h,Y (Z ⟨g,i*3,O⟩) (n+1-i) F]).run prog w.drew=.ok (goInt (n-i)) (w.drew.setRow g (splice cur ((i+1)*3) a).toArray):=fun l h F=>by
  rw[Jt w.drew _ _ l 161 3 g ((i+1)*3) (n-i) h ⟨g,i*3,O⟩ (n+1-i) F cur _ a underlying93 Lu r (by rw[R];simp only[a9];split<;>omega)
   (fun j v f=>by rw[Cu];exact Q j v f) (by omega) N]
  congr 2
  simp only[a9];split<;>omega
 have s:(w.drew.setRow g (splice cur ((i+1)*3) a).toArray).heap[g]? =Z (T (splice cur ((i+1)*3) a).toArray 161 (0,0)):=bL w.drew g _ _ _ _ r;have D:(w.drew.setRow g (splice cur ((i+1)*3) a).toArray).heap[b]? =Z (T X.toArray 161 (0,0)):=(bq w.drew g b _ t).trans m;have d:w.grownBy (w.drew.setRow g (splice cur ((i+1)*3) a).toArray) (Z g):=⟨rfl,rfl,rfl,by simp[bx],fun k _ C=>bq w.drew g k _ (fun e=>C (by rw[e]))⟩;have aa:(splice cur ((i+1)*3) a).length=cur.length:=bg _ _ _ (by omega);obtain⟨c,M⟩:=ex (w.drew.setRow g (splice cur ((i+1)*3) a).toArray);obtain⟨p,L⟩:=ex (splice cur ((i+1)*3) a);rw[←M] at ad s D d;rw[←L] at s aa ⊢;clear M L;have aj:∀ l h,(ba #[93,93] l #[Y (Z ⟨g,i*3,O⟩) (n+1-i) h,Y (Z ⟨b,0,O⟩) 1 1]).run prog c=.ok (goInt 1) (c.setRow g (splice p (i*3) X).toArray):=fun l h=>by
  rw[Jt c _ _ l 161 3 g (i*3) (n+1-i) h ⟨b,0,O⟩ 1 1 p _ X underlying93 Lu s (by rw[y];simp only[a9];split<;>omega)
   (fun j v f=>by rw[Cu,aR c b _ _ _ _ D];simpa using f) (by omega) K]
  congr 2
  simp only[a9];split<;>omega
 have W:(c.setRow g (splice p (i*3) X).toArray).heap[g]? =Z (T (splice p (i*3) X).toArray 161 (0,0)):=bL c g _ _ _ _ s;have V:w.grownBy (c.setRow g (splice p (i*3) X).toArray) (Z g):=⟨d.os,d.tape,d.output,by simpa[bx] using d.size,fun k C t=>(bq c g k _ (fun e=>t (by rw[e]))).trans (d.block k C t)⟩;obtain⟨HF,HB⟩:=H2 W V;clear W V r m s D d Q N K S R aa y P;have ao:((i:Int)==(n:Int))=false:=by simp;omega
 have am:¬((cap:Int)<(n:Int)+1):=by omega
 have ah:¬(cap=i+1):=by omega
 have ai:¬(cap=i):=by omega
 have aq:((i:Int)+1).toNat=i+1:=by omega
 have ar:IntKind.i64.wrap ((i:Int)+1)=(i:Int)+1:=by rw[bi];omega
 have d:(0:Int)≤(i:Int)+1:=by omega
 have al:i≤n:=by omega
 have af:(i:Int)≤(n:Int)+1:=by omega
 go_enter func183,ntmps183;go_wp2_with (simp only[ae])
 go_region
 go_wp2;go_ret;exact⟨rfl,HF.o,HB.o⟩
def L9(m:Nat):(a8 (bR (.agg #[I J 0,I J 0,I U 0])) m).toList.length=m*3:=by
 rw[Array.length_toList,size_zeroCells];rfl
def VU(g y n cap i:Nat)(cur:List aA)(x:Wt)(w:aT)(hi:i<n)(aG:n≤cap)(aH:cap<n+1)(hn:n≤1000000)
  (H:w.heap[g]? =Z (T cur.toArray 161 (0,0))) (aF:cur.length=cap*3) (h1:∀ u∈cur.take (n*3),u.oneCell'=true)
  (N:w.heap[y]? =Z (T (Bv x).toArray 161 (0,0))):
  br prog 183 #[Y (Z ⟨g,0,O⟩) n cap,I J i,Y (Z ⟨y,0,O⟩) 1 1] w fun e w'=>
   ∃ (Q:Nat) (R:List aA),e=.returned (Y (Z ⟨w.heap.size,0,O⟩) (n+1) Q)∧n+1≤Q∧Q≤bD∧R.length=Q*3∧R.take ((n+1)*3)=cur.take (i*3)++(Bv x++(cur.take (n*3)).drop (i*3))∧
   w'.heap[w.heap.size]? =Z (T R.toArray 161 (0,0))∧w.grownBy w' O:=by
 obtain rfl:n=cap:=by omega
 clear aG aH;have aQ:g<w.heap.size:=(a2.1 H).1;have aW:y<w.heap.size:=(a2.1 N).1;have D:(Bv x).length=3:=rfl;obtain⟨X,hX⟩:=ex (Bv x);rw[←hX] at N D ⊢;have ah:∀ u∈X,u.oneCell'=true:=by subst hX;intro u M;simp[Bv] at M;rcases M with rfl|rfl|rfl<;>rfl
 clear hX;obtain⟨i0,ar,av,aw,ax⟩:=bP Ix;obtain⟨b,hA1⟩:=ex (cur.take (i*3));have z:b.length=i*3:=by subst hA1;simp;omega
 have ai:∀ j v,b[j]? =Z v→w.cell? ⟨g,0+j,O⟩=Z v:=by
  intro j v a;subst hA1;rw[bs] at a;split at a
  ·rw[aR w g _ _ _ _ H];simpa using a
  ·cases a
 obtain⟨c,hA2⟩:=ex ((cur.take (n*3)).drop (i*3));have S:c.length=(n-i)*3:=by subst hA2;simp;omega
 have hA21:∀ u∈c,u.oneCell'=true:=by subst hA2;intro u M;exact h1 u (bS M)
 have aj:∀ j v,c[j]? =Z v→w.cell? ⟨g,i*3+j,O⟩=Z v:=by
  intro j v a;subst hA2;rw[bt,bs] at a;split at a
  ·rw[aR w g _ _ _ _ H];simpa using a
  ·cases a
 rw[←hA1,←hA2];clear hA1 hA2 h1;have A:=fun p=>Y9 (P:=prog) w 93 3 p 161 i0 _ J J underlying93 underlying3 ar av (by omega) ⟨g,0,O⟩ i n (n+1-i) ((n:Int)+1-(i:Int)) (by omega) (by omega) b (by rw[aw];exact z) (fun j v a=>by rw[Cu];exact ai j v a) (by omega) (by omega) (by rw[ax];omega);have L:=grownCap_ge w (i+(n+1-i)) n 161;have ac:=grownCap_le_maxLen w (i+(n+1-i)) n 161 (by unfold bD;omega);generalize b3 w (i+(n+1-i)) n 161=m at A L ac;have ay:=L9 (n+1-i);have az:=L9 (m-(i+(n+1-i)));obtain⟨h,hZ⟩:=ex ((a8 (bR (.agg #[I J 0,I J 0,I U 0])) (n+1-i)).toList++(a8 (bR (.agg #[I J 0,I J 0,I U 0])) (m-(i+(n+1-i)))).toList);rw[←hZ] at A;have am:h.length=(m-i)*3:=by rw[hZ,a0,ay,az];omega
 clear hZ ay az;have e1:i+(n+1-i)=n+1:=by omega
 rw[e1] at A L;obtain⟨d,F⟩:=ex (w.drew.alloc (T (b++h).toArray 161));have K:d.heap[w.heap.size]? =Z (T (b++h).toArray 161 (0,0)):=by subst F;exact bc w.drew _
 have t:w.grownBy d O:=by subst F;exact⟨rfl,rfl,rfl,by simp,fun k C _=>Below.heap_alloc w.drew _ k C⟩
 rw[←F] at A;clear F;have ak:(b++h).length=m*3:=by rw[a0,z,am];omega
 obtain⟨f,V⟩:=ex (b++h);rw[←V] at K ak
 -- the first copy
 have aE:∀ p s,(ba #[93,93] p #[Y (Z ⟨w.heap.size,i*3,O⟩) (n+1-i) s,Y (Z ⟨y,0,O⟩) 1 1]).run prog d=.ok (goInt ((1:Nat):Int)) (d.setRow w.heap.size (splice f (i*3) X).toArray):=fun p s=>by
  rw[Jt d _ _ p 161 3 w.heap.size (i*3) (n+1-i) s ⟨y,0,O⟩ 1 1 f _ X underlying93 Lu K (by rw[D];simp only[a9];split<;>omega)
   (fun j v a=>by rw[Cu,t.cell (by rw[aR w y _ _ _ _ N];simpa using a) (by simp)]) (by omega) ah,show b0 1 (n+1-i)=1 by simp only[a9];split<;>omega]
 have B:(d.setRow w.heap.size (splice f (i*3) X).toArray).heap[w.heap.size]? =Z (T (splice f (i*3) X).toArray 161 (0,0)):=bL d _ _ _ _ _ K;have l:w.grownBy (d.setRow w.heap.size (splice f (i*3) X).toArray) O:=⟨t.os,t.tape,t.output,by simpa[bx] using t.size,fun k C ad=>(bq d _ k _ (by omega)).trans (t.block k C ad)⟩;have au:(splice f (i*3) X).length=f.length:=bg _ _ _ (by omega);obtain⟨r,al⟩:=ex (d.setRow w.heap.size (splice f (i*3) X).toArray);obtain⟨q,W⟩:=ex (splice f (i*3) X);rw[←al] at aE B l;rw[←W] at B au;clear al;have aP:∀ p s sc,(ba #[93,93] p #[Y (Z ⟨w.heap.size,(i+1)*3,O⟩) (n-i) s,Y (Z ⟨g,i*3,O⟩) (n-i) sc]).run prog r.drew=.ok (goInt ((n-i:Nat):Int)) (r.drew.setRow w.heap.size (splice q ((i+1)*3) c).toArray):=fun p s sc=>by
  rw[Jt r.drew _ _ p 161 3 w.heap.size ((i+1)*3) (n-i) s ⟨g,i*3,O⟩ (n-i) sc q _ c underlying93 Lu B (by rw[S];simp only[a9];split<;>omega)
   (fun j v a=>by rw[Cu];exact l.cell (aj j v a) (by simp)) (by omega) hA21,show b0 (n-i) (n-i)=n-i by simp only[a9];split<;>omega]
 have aq:(r.drew.setRow w.heap.size (splice q ((i+1)*3) c).toArray).heap[w.heap.size]? =Z (T (splice q ((i+1)*3) c).toArray 161 (0,0)):=bL r.drew _ _ _ _ _ B;have an:w.grownBy (r.drew.setRow w.heap.size (splice q ((i+1)*3) c).toArray) O:=⟨l.os,l.tape,l.output,by simpa[bx] using l.size,fun k C ad=>(bq r.drew _ k _ (by omega)).trans (l.block k C ad)⟩;have ao:(splice q ((i+1)*3) c).length=m*3:=by rw[bg _ _ _ (by omega)];omega
 have ap:(splice q ((i+1)*3) c).take ((n+1)*3)=b++(X++c):=by
  subst W V;have e2:splice (b++h) (i*3) X=b++(X++h.drop 3):=by
   unfold splice;rw[←z,bo,List.drop_append,D];simp
  rw[e2];have e3:(b++(X++h.drop 3))=(b++X)++h.drop 3:=by simp
  have e4:(i+1)*3=(b++X).length:=by rw[a0,z,D];omega
  unfold splice;rw[e3,e4,bo];have e5:(n+1)*3=((b++X)++c).length:=by rw[a0,←e4,S];omega
  rw[←bZ,e5,bo,bZ]
 have E:=HH (bF L (bF ac (bF ao (bF ap (bF aq an)))));clear L ac ao ap aq an H N K B t l ai aj hA21 ah aF au D z S am ak V W ar av aw ax;have aU:((i:Int)==(n:Int))=false:=by simp;omega
 have aM:¬(n=i):=by omega
 have aN:¬(m=i):=by have:=E.o.1;omega
 have aO:¬(m=i+1):=by have:=E.o.1;omega
 have aL:n+1≤m:=E.o.1;have aV:((i:Int)+1).toNat=i+1:=by omega
 have aX:IntKind.i64.wrap ((i:Int)+1)=(i:Int)+1:=by rw[bi];omega
 have l:(0:Int)≤(i:Int)+1:=by omega
 have aS:i≤n:=by omega
 have aJ:(i:Int)≤(n:Int)+1:=by omega
 have aK:(i:Int)≤(n:Int):=by omega
 go_enter func183,ntmps183;go_wp2_with (at_builtin;refine Lib.wpList_append_run _ rfl _ _ 93 3 rfl _ _ rfl rfl _ _ (A _) ?_)
 go_region
 go_wp2;go_ret;exact⟨m,_,rfl,E.o⟩
def VT(base:Nat)(v:aA)(l:List Wt)(a:Nat)(x:Wt)(w:aT)(c:w.ownsRow base 161 3 v l.length (cellsW l))(r:base≤w.heap.size)(E:l.length≤1000000)
  (k:w.heap[a]? =Z (T (Bv x).toArray 161 (0,0))):
  br prog 183 #[v,I J l.length,Y (Z ⟨a,0,O⟩) 1 1] w fun e w'=>
   ∃ d,e=.returned d∧w'.ownsRow base 161 3 d (l.length+1) (cellsW l++Bv x)∧w.grownBy w' v.ownBlock:=by
 obtain⟨B,s,y,z,A⟩:=bP Ix;have t:∃ f cap,v=Y f l.length cap∧l.length≤cap:=by
  rcases c.2 with ⟨rfl,q⟩|⟨g,cap,cur,rfl,_,_,i,_⟩
  ·exact⟨O,0,by rw[q],by omega⟩
  ·exact⟨_,_,rfl,i⟩
 obtain⟨f,cap,rfl,i⟩:=t;have h:cap=l.length∨¬cap=l.length:=by omega
 have n:=HH c;have p:Hq (∀ j u,(Bv x)[j]? =Z u→w.cell? ((⟨a,0,O⟩:b7).add j)=Z u):=fun j u b=>by
  rw[Cu,aR w a _ _ _ _ k];simpa using b
 have m:Hq (∀ u∈Bv x,u.oneCell'=true):=by intro u b;simp[Bv] at b;rcases b with rfl|rfl|rfl<;>rfl
 clear c k;have D:(l.length:Int)≤(l.length:Int):=Int.le_refl _;rcases h with rfl|h
 all_goals
  go_enter func183,ntmps183;go_wp2_with (at_builtin;refine b8 _ rfl _ _ 93 rfl base 161 B (.agg #[I J 0,I J 0,I U 0]) 3 24 underlying93 s y z A rfl (by decide) _ _ _ rfl n.o ⟨a,0,O⟩ 1 1 (Bv x) rfl rfl p.o m.o (by unfold bD;omega) (by omega) r ?_;intro d H F C _);go_ret;exact⟨_,rfl,by assumption,by assumption⟩
def YP(C D X:List aA)(i n:Nat)(e:X.length=3)(d:D.length=(n-i)*3)(h:(n+1)*3≤C.length)(g:i≤n):
  (splice (splice C ((i+1)*3) D) (i*3) X).take ((n+1)*3)=C.take (i*3)++(X++D):=by
 have f:(C.take ((i+1)*3)).length=(i+1)*3:=by rw[b2];omega
 have a:(splice C ((i+1)*3) D).take (i*3)=C.take (i*3):=by
  unfold splice;rw[List.take_append_of_le_length (by omega),bI,bH (by omega)]
 have b:(splice C ((i+1)*3) D).drop (i*3+X.length)=D++C.drop ((i+1)*3+D.length):=by
  unfold splice;rw[show i*3+X.length=(C.take ((i+1)*3)).length by omega,List.drop_left]
 have c:splice (splice C ((i+1)*3) D) (i*3) X=C.take (i*3)++(X++D)++C.drop ((i+1)*3+D.length):=by
  rw[splice,a,b];simp
 rw[c,show(n+1)*3=(C.take (i*3)++(X++D)).length by rw[a0,a0,d,e,b2];omega,bo]
def VS(base:Nat)(v:aA)(l:List Wt)(c i:Nat)(x:Wt)(w:aT)(B:w.ownsRow base 161 3 v l.length (cellsW l))(s:base≤w.heap.size)(o:l.length≤1000000)(n:i≤l.length)
  (p:w.heap[c]? =Z (T (Bv x).toArray 161 (0,0))) (P:v.ownBlock≠Z c):
  br prog 183 #[v,I J i,Y (Z ⟨c,0,O⟩) 1 1] w fun e w'=>
   ∃ h,e=.returned h∧w'.ownsRow base 161 3 h (D9 l i x).length (cellsW (D9 l i x))∧w.grownBy w' v.ownBlock:=by
 rw[OX l i x n];by_cases K:i=l.length
 ·subst K;refine(VT base v l c x w B s o p).mono ?_;rintro e w' ⟨h,rfl,Q,d⟩;refine⟨h,rfl,?_,d⟩;have:cellsW (D9 l l.length x)=cellsW l++Bv x:=by simp[D9,JQ,Gi,JR]
  rw[this];exact Q
 ·rcases B.2 with ⟨rfl,X⟩|⟨g,cap,cur,rfl,E,d,N,t,f,b⟩
  ·omega
  ·have q:∀ u∈cur.toList.take (l.length*3),u.oneCell'=true:=by rw[b];exact MN l
   have ab:g<w.heap.size:=(a2.1 d).1;have V:(Bv x).length=3:=rfl;have j:=DI l;have A:=VO l i x;have y:=OX l i x n;have z:=DI (D9 l i x);by_cases C:l.length+1≤cap
   ·refine(VV g c l.length cap i cur.toList x w (by omega) C o t (fun e=>P (by simp[b4,e])) (by simpa using d) (by simpa using f) q p).mono ?_;rintro e w' ⟨rfl,m,a⟩;refine⟨_,rfl,⟨by rw[z,y],.inr ⟨g,cap,_,rfl,E,m,C,t,?_,?_⟩⟩,a⟩
    ·rw[b];simp only[List.size_toArray];rw[bg _ _ _ (by rw[bg _ _ _ (by simp[j];omega)];simp;omega),bg _ _ _ (by simp[j];omega)];simpa using f
    ·rw[b,A];have aa:cur.toList.length=cap*3:=by simpa using f
     have F:((cellsW l).drop (i*3)).length=(l.length-i)*3:=by rw[List.length_drop,j];omega
     have S:cur.toList.take (i*3)=(cellsW l).take (i*3):=by rw[←b,bI,bH (by omega)]
     have:=YP cur.toList ((cellsW l).drop (i*3)) (Bv x) i l.length V F (by omega) n;rw[S] at this;exact this
   ·refine(VU g c l.length cap i cur.toList x w (by omega) N (by omega) o (by simpa using d) (by simpa using f) q p).mono ?_;rintro e w' ⟨W,R,rfl,H,M,D,r,m,a⟩;refine⟨_,rfl,⟨by rw[z,y],.inr ⟨w.heap.size,W,_,rfl,s,m,H,M,by simpa using D,?_⟩⟩,⟨a.os,a.tape,a.output,a.size,fun k L _=>a.block k L (by simp)⟩⟩;rw[b] at r;show R.take _=_;rw[r,A,←b,bI,bH (by omega)]
def Cl(l:List Wt)(x:Wt):List Wt:=D9 l (l.findIdx fun y=>decide (y.prio<x.prio)) x
def TJ(x:Wt)(g:Nat)(p:Int)(w W:aT)(c:w.cell? ⟨g,1,O⟩=Z (I J p))(d:g<w.heap.size)(a:Bl w W):
  br prog 182 #[.agg #[I J x.proc,I J x.prio,I U x.val],G (Z ⟨g,0,O⟩)] W fun e w'=>e=.returned (.bool (decide (x.prio<p)))∧Bl w w':=by
 have f:W.cell? ⟨g,1,O⟩=Z (I J p):=(a.cell (p:=⟨g,1,O⟩) d).trans c;have h:g<W.heap.size:=bh d a.size;have b:=HH a;clear a c;go_enter func182,ntmps182;go_wp2;go_ret;exact⟨rfl,b.o.alloc b.o.size _⟩
def Cx{w:aT}{base a:Nat}{e:bd}{b:Nat}{v:aA}{n:Nat}{c:List aA}(h:w.ownsRow base e b v n c)(i:a≤base):w.ownsRow a e b v n c:=by
 refine⟨h.1,?_⟩;rcases h.2 with d|⟨g,cap,cur,f,j,r⟩
 ·exact .inl d
 ·exact .inr ⟨g,cap,cur,f,by omega,r⟩
def OY(w W:aT)(v:aA)(l:List Wt)(x:Wt)(k a base:Nat)(f:W.ownsRow base 161 3 v l.length (cellsW l))(d:w.heap.size≤base)(h:base≤W.heap.size)
  (p:W.heap[a]? =Z (T (Bv x).toArray 161 (0,0))) (n:∀ g,v.ownBlock=Z g→g≠a) (c:Bl w W) (q:l.length≤100000) (m:k≤l.length):
  br prog 183 #[v,I J k,Y (Z ⟨a,0,O⟩) 1 1] W fun e w'=>
   ∃ b,e=.returned b∧w'.ownsRow w.heap.size 161 3 b (D9 l k x).length (cellsW (D9 l k x))∧Bl w w':=by
 refine(VS base v l a k x W f h (by omega) m p (fun e=>n a e rfl)).mono ?_;rintro e w' ⟨b,rfl,o,i⟩;exact⟨b,rfl,Cx o d,c.grown i c.size (fun g j=>cb d (f.lt g j).1)⟩
def Q6(w b a:aT)(v:aA)(l:List Wt)(x:Wt)(k:Nat)(j:Bl w b)(h:w.heap.size≤b.heap.size)(d:Hq (a.ownsRow b.heap.size 161 3 v l.length (cellsW l)))(c:Hq (Bl b a))
  (p:l.length≤100000) (n:k≤l.length):
  br prog 183 #[v,I J k,Y (Z ⟨a.heap.size,0,O⟩) 1 1] (a.alloc (T #[I J x.proc,I J x.prio,I U x.val] 161)) fun e w'=>
   ∃ i,e=.returned i∧w'.ownsRow w.heap.size 161 3 i (D9 l k x).length (cellsW (D9 l k x))∧Bl w w':=
 have f:=j.trans (c.o.mono h)
 OY w _ v l x k a.heap.size b.heap.size (d.o.alloc _) h (cb c.o.size (by simp)) (bc a _) (fun g m=>Nat.ne_of_lt (d.o.lt g m).2) (f.alloc f.size _) p n
def Q7(w a d:aT)(v:aA)(l:List Wt)(x:Wt)(k b:Nat)(j:Bl w a)(h:w.heap.size≤a.heap.size)(r:b<a.heap.size)(q:a.heap[b]? =Z (T (Bv x).toArray 161 (0,0)))
  (f:Hq (d.ownsRow a.heap.size 161 3 v l.length (cellsW l))) (c:Hq (Bl a d))
  (p:l.length≤100000) (n:k≤l.length):
  br prog 183 #[v,I J k,Y (Z ⟨b,0,O⟩) 1 1] d fun e w'=>
   ∃ i,e=.returned i∧w'.ownsRow w.heap.size 161 3 i (D9 l k x).length (cellsW (D9 l k x))∧Bl w w':=
 OY w _ v l x k b a.heap.size f.o h c.o.size ((c.o.block b r).trans q) (fun g m=>by have:=(f.o.lt g m).1;omega) (j.trans (c.o.mono h)) p n
def II(w:aT)(l:List Wt)(e:Ending)(w':aT):Prop:=
 ∃ a,e=.returned a∧w'.ownsRow w.heap.size 161 3 a l.length (cellsW l)∧Bl w w'
def JV(v:aA)(l:List Wt)(x:Wt)(w:aT)(h:Al w 0 v l)(S:l.length≤100000):
  br prog 149 #[v,.agg #[I J x.proc,I J x.prio,I U x.val]] w fun e w'=>
   II w (Cl l x) e w':=by
 obtain⟨ao,cap,rfl,an,ap,_⟩:=h.open_;obtain⟨j,C⟩:=ex (w.alloc (T #[I J x.proc,I J x.prio,I U x.val] 161));have hz:j.heap.size=w.heap.size+1:=by subst C;simp
 have X:j.heap[w.heap.size]? =Z (T (Bv x).toArray 161 (0,0)):=by subst C;exact bc w _
 have aa:Bl w j:=by subst C;exact(bj _ _).alloc (bf _) _
 have ae:j.cell? ⟨w.heap.size,1,O⟩=Z (I J x.prio):=by rw[aR j _ _ _ _ _ X];rfl
 have V:Al j 0 (Y ao l.length cap) l:=h.below aa;have af:IJ 182 #[G (Z ⟨w.heap.size,0,O⟩)] (fun y=>decide (y.prio<x.prio)) j:=fun W y hW=>TJ y w.heap.size x.prio j W ae (by omega) hW;obtain⟨E,L,M,P⟩:=H4 (KV (Y ao l.length cap) l 182 #[G (Z ⟨w.heap.size,0,O⟩)] _ (Gn func182 (by kernel_rfl) rfl) j V (by omega) af) V aa X;clear h af V aa X ae;have D:l.findIdx (fun y=>decide (y.prio<x.prio))≤l.length:=List.findIdx_le_length;have Q:Hq (DL (fun y=>decide (y.prio<x.prio)) l=if l.findIdx (fun y=>decide (y.prio<x.prio))<l.length then((l.findIdx (fun y=>decide (y.prio<x.prio)):Nat):Int) else-1):=rfl;unfold Cl;generalize l.findIdx (fun y=>decide (y.prio<x.prio))=k at D Q ⊢;generalize DL (fun y=>decide (y.prio<x.prio)) l=q at E Q
 -- the two ways to the place
 have hq:(q<0∧k=l.length)∨(q=(k:Int)∧k<l.length):=by
  have:=Q.o;by_cases R:k<l.length
  ·rw[if_pos R] at this;exact .inr ⟨this,R⟩
  ·rw[if_neg R] at this;exact .inl ⟨by omega,by omega⟩
 clear Q;have N:=HH C;clear C;have r:w.heap.size<j.heap.size:=by omega
 rcases hq with ⟨aq,rfl⟩|⟨rfl,R⟩
 ·go_enter func149,ntmps149;go_wp2_with fail;rw[←N.o];refine E.o.mono ?_;rintro e a ⟨rfl,b⟩;obtain⟨B,A⟩:=H2 (L.o.below b) (M.o.trans (b.mono (by omega)));have n:Hq (a.heap[w.heap.size]? =Z (T (Bv x).toArray 161 (0,0))):=(b.block _ r).trans P.o;have c0:a.cell? ⟨w.heap.size,0,O⟩=Z (I J x.proc):=by rw[aR a _ _ _ _ _ n.o];rfl
  have c1:a.cell? ⟨w.heap.size,1,O⟩=Z (I J x.prio):=by rw[aR a _ _ _ _ _ n.o];rfl
  have c2:a.cell? ⟨w.heap.size,2,O⟩=Z (I U x.val):=by rw[aR a _ _ _ _ _ n.o];rfl
  have g:w.heap.size<a.heap.size:=bh r b.size;have H:Hq (Bl w a.drew∧w.heap.size≤a.drew.heap.size):=⟨A.o.drew,bB g⟩;have m:Hq (Bl w (a.alloc (T #[I J x.proc,I J x.prio,I U x.val] 161)).drew∧w.heap.size≤(a.alloc (T #[I J x.proc,I J x.prio,I U x.val] 161)).drew.heap.size∧a.heap.size<(a.alloc (T #[I J x.proc,I J x.prio,I U x.val] 161)).drew.heap.size∧
    (a.alloc (T #[I J x.proc,I J x.prio,I U x.val] 161)).drew.heap[a.heap.size]? =Z (T (Bv x).toArray 161 (0,0))):=⟨(A.o.alloc (bB g) _).drew,(by simp;omega),(by simp),bc a _⟩
  clear b E L M P N hz r;go_wp2_with fail
  go_region_with (first
   |(go_at_call 112;refine(GK _ l _ (by first|exact B.o.drew|exact B.o.drew.alloc _) (by omega)).mono ?_;rintro e i ⟨K,rfl,F,c⟩;have u:=HH F;have s:=HH c;have e0:i.cell? ⟨w.heap.size,0,O⟩=Z (I J x.proc):=(c.cell (p:=⟨w.heap.size,0,O⟩) (by first|exact g|(simp;omega))).trans (by go_simp);have e1:i.cell? ⟨w.heap.size,1,O⟩=Z (I J x.prio):=(c.cell (p:=⟨w.heap.size,1,O⟩) (by first|exact g|(simp;omega))).trans (by go_simp);have e2:i.cell? ⟨w.heap.size,2,O⟩=Z (I U x.val):=(c.cell (p:=⟨w.heap.size,2,O⟩) (by first|exact g|(simp;omega))).trans (by go_simp);clear F c)
   |(go_at_call 183;with_reducible refine(Q6 w a.drew i K l x l.length H.o.1 H.o.2 u s S D).mono ?_;rintro e w3 ⟨v3,rfl,f,d⟩;have z:=HH f;have t:=HH d;clear f d)
   |(go_at_call 183;with_reducible refine(Q7 w (a.alloc (T #[I J x.proc,I J x.prio,I U x.val] 161)).drew i K l x l.length a.heap.size m.o.1 m.o.2.1 m.o.2.2.1 m.o.2.2.2 u s S D).mono ?_;rintro e w3 ⟨v3,rfl,f,d⟩;have z:=HH f;have t:=HH d;clear f d))
  all_goals
   go_wp2;go_ret;exact⟨_,rfl,z.o,t.o⟩
 ·go_enter func149,ntmps149;go_wp2_with fail;rw[←N.o];refine E.o.mono ?_;rintro e a ⟨rfl,b⟩;obtain⟨B,A⟩:=H2 (L.o.below b) (M.o.trans (b.mono (by omega)));have n:Hq (a.heap[w.heap.size]? =Z (T (Bv x).toArray 161 (0,0))):=(b.block _ r).trans P.o;have c0:a.cell? ⟨w.heap.size,0,O⟩=Z (I J x.proc):=by rw[aR a _ _ _ _ _ n.o];rfl
  have c1:a.cell? ⟨w.heap.size,1,O⟩=Z (I J x.prio):=by rw[aR a _ _ _ _ _ n.o];rfl
  have c2:a.cell? ⟨w.heap.size,2,O⟩=Z (I U x.val):=by rw[aR a _ _ _ _ _ n.o];rfl
  have g:w.heap.size<a.heap.size:=bh r b.size;have H:Hq (Bl w a.drew∧w.heap.size≤a.drew.heap.size):=⟨A.o.drew,bB g⟩;have m:Hq (Bl w (a.alloc (T #[I J x.proc,I J x.prio,I U x.val] 161)).drew∧w.heap.size≤(a.alloc (T #[I J x.proc,I J x.prio,I U x.val] 161)).drew.heap.size∧a.heap.size<(a.alloc (T #[I J x.proc,I J x.prio,I U x.val] 161)).drew.heap.size∧
    (a.alloc (T #[I J x.proc,I J x.prio,I U x.val] 161)).drew.heap[a.heap.size]? =Z (T (Bv x).toArray 161 (0,0))):=⟨(A.o.alloc (bB g) _).drew,(by simp;omega),(by simp),bc a _⟩
  clear b E L M P N hz r;go_wp2_with fail
  go_region_with (first
   |(go_at_call 112;refine(GK _ l _ (by first|exact B.o.drew|exact B.o.drew.alloc _) (by omega)).mono ?_;rintro e i ⟨K,rfl,F,c⟩;have u:=HH F;have s:=HH c;have e0:i.cell? ⟨w.heap.size,0,O⟩=Z (I J x.proc):=(c.cell (p:=⟨w.heap.size,0,O⟩) (by first|exact g|(simp;omega))).trans (by go_simp);have e1:i.cell? ⟨w.heap.size,1,O⟩=Z (I J x.prio):=(c.cell (p:=⟨w.heap.size,1,O⟩) (by first|exact g|(simp;omega))).trans (by go_simp);have e2:i.cell? ⟨w.heap.size,2,O⟩=Z (I U x.val):=(c.cell (p:=⟨w.heap.size,2,O⟩) (by first|exact g|(simp;omega))).trans (by go_simp);clear F c)
   |(go_at_call 183;with_reducible refine(Q6 w a.drew i K l x k H.o.1 H.o.2 u s S D).mono ?_;rintro e w3 ⟨v3,rfl,f,d⟩;have z:=HH f;have t:=HH d;clear f d)
   |(go_at_call 183;with_reducible refine(Q7 w (a.alloc (T #[I J x.proc,I J x.prio,I U x.val] 161)).drew i K l x k a.heap.size m.o.1 m.o.2.1 m.o.2.2.1 m.o.2.2.2 u s S D).mono ?_;rintro e w3 ⟨v3,rfl,f,d⟩;have z:=HH f;have t:=HH d;clear f d))
  all_goals
   go_wp2;go_ret;exact⟨_,rfl,z.o,t.o⟩
end Go.Proofs.YtiepijihpgijbaaGreatDoor
