import Derived.Test.YtiepijihpgijbaaGreatDoorProg
import Derived.Lib.Hide
import Derived.WideMake
import Derived.Maps.Own
import Derived.WalkKit
import Derived.WalkSpells
import Derived.WalkLawsBesides
import Derived.Deep.LoopGhost
import Derived.Deep.QuietTactic
import Derived.BigQuiet
import Derived.Deep.Draws
import Derived.Maps.OwnOps
import Derived.Maps.Views
import Derived.Laws.CopyOwn
import Derived.Lib.Overlaps
import Derived.Lib.AppendZeros
import Derived.Deep.RegionLaw
import Derived.Laws.Externs
import Derived.Deep.RegionWith
import Derived.Deep.DeepCutAuto
import Derived.Laws.BytesArg
import Derived.OwnWalk
import Derived.Laws.AppendOwnNone
import Derived.ArgAppend
import Derived.RegionTactic
set_option maxHeartbeats 4000000
set_option maxRecDepth 100000
set_option linter.all false
open Option renaming some→Z,none→O
open Go.Obj renaming cells→T
open Go.Value renaming int→I,slice→Y,pointer→G
open Go.IntKind renaming i64→J,u8→U
open Go renaming Value→bq,World→br,cell_of_row→bI,bodyPost_ret→bK,heap_alloc_new→bL,heap_setCell_same→b8,Calls→b9,results→cb,TypeId→ci,wp_region_quiet_lit→cy,info_parts→cB,wpList_append_own→cD,run_underlying→cI,IntKind→cK,maxLen→cM,Ending→cO,callFunc→cR,length_splice→cW,wpQuiet_nil→db,Addr→dj,wpList_plain→dw,setRow_other→dx,wpList→dA,setRow_heap→dB,zeroValue→dS,size_zeroCells→dV,grownCap→dW,execOp→eh,Program→ei,grownCap_le_maxLen→eA,run_storeCells_at→eD,Oper→eH
open Nat renaming le_refl→bH,lt_of_lt_of_le→ce,zero_le→ch,le_trans→cC,min_def→cV,ne_of_lt→dF,le_of_lt→dG,add_zero→dH,not_lt_zero→dN,min_eq_left→dO,add_sub_cancel→ej,min→er,lt_succ_of_lt→eu,add_assoc→eF,zero_add→eI
open Go.RowKit.Below renaming refl→bJ,heap_setCell→bR,heap_alloc→b4
open Option.some renaming injEq→bM
open List renaming length_append→b0,take_succ_eq_append_getElem→cd,getElem?_eq_getElem→cf,length_cons→cj,getElem?_eq_some_iff→ck,eq_nil_of_length_eq_zero→cs,toArray→ct,getElem?_append_left→cA,take_of_length_le→cH,map_append→cJ,length_take→cP,getElem?_drop→cT,take_append_of_le_length→da,getElem?_take→dc,getElem?_append_right→dd,getElem_mem→di,findIdx_lt_length→dk,take_append_drop→dm,getElem?_toArray→dn,take_take→du,take_left→dv,filter_append→dz,any_eq_false→dE,take_length→dI,drop_drop→dQ,mem_take_iff_getElem→dT,drop_eq_getElem_cons→dU,mem_of_mem_drop→dY,getElem_of_mem→eb,flatten_append→ec,filter_eq_self→ed,mem_singleton→ef,take_sublist→ek,size_toArray→em,getElem_take→en,append_assoc→eo,length_drop→ew,length_nil→ez,map_take→eC,mem_map→eG,length→eJ
open Go.Value.slice renaming injEq→b5
open Go.World renaming frozen?→b6,setCell→cm,ownsRow_nil→cn,cell?→cp,block_lt_of_cell?→cE,cell?_alloc_lt→dp,alloc_eq→dq,ownsRow_made→dy,setRow→dC,cell?_of_block→dX,shape?→eB,alloc→eE
open Array renaming getElem?_eq_some_iff→cg,getElem?_setIfInBounds→dL,getElem?_push→ea
open Go.Builtin renaming zeroCells→cl,append_→cQ,copy_→cX,clear_→ep
open Go.Value renaming bool→cr,ownBlock→cF,cells→cL,int→cY
open Go.Result renaming andThen→cv
open And renaming intro→cz
open Go.Obj.cells renaming injEq→cG
open Go.Instr renaming lookup→cN,findNow→cS,checkKey→ds,mapUpdate→dK
open Go.MapKept renaming run_getObj_map→cU,run_checkKey→cZ,run_findKey→c9,IsKey→dt
open Go.Addr.mk renaming injEq→de
open Go.RowKit renaming Below→df,ownsRow_setCell_below→eq
open Go.IntKind renaming wrap_i64→dh
open Go.Lit renaming int→dl
open Go.Lib renaming wpList_append_run→dr,run_eql_slice_nil→dZ
open Go.Oper renaming wp→dD
open Go.Ending renaming returned→dJ
open Go.World.ownsRow renaming kept→dM
open Go.Region renaming wanted→dP
open List.Pairwise renaming nil→dR
open Go.Extern.SlicesOverlaps renaming overlaps→ee
open Go.Lit.int renaming injEq→ev
open Bool renaming and_eq_true→ey
namespace Go.Proofs.YtiepijihpgijbaaGreatDoor
open Tryz Go Go.RowKit Go.Maps
section
variable {w:br} {b:Nat} {t:ci} {r:List bq}
@[reducible] def Bl(w w':br):Prop:=df w.heap.size w w'
def r2{a c:bq}{f:Nat×Nat}(h:w.heap[b]? =Z (T (ct (a::c::r)) t f)):w.cell? ⟨b,0,O⟩=Z a∧w.cell? ⟨b,1,O⟩=Z c:=by
 simp[cp,h]
def f2{c:Array bq}(h:w.heap[b]? =Z (T c t (0,0))):w.frozen? ⟨b,0,O⟩=false∧w.frozen? ⟨b,1,O⟩=false:=by
 simp[b6,h]
def r3{a c d:bq}{f:Nat×Nat}(h:w.heap[b]? =Z (T (ct (a::c::d::r)) t f)):w.cell? ⟨b,0,O⟩=Z a∧w.cell? ⟨b,1,O⟩=Z c∧w.cell? ⟨b,2,O⟩=Z d:=by
 simp[cp,h]
def f3{c:Array bq}(h:w.heap[b]? =Z (T c t (0,0))):w.frozen? ⟨b,0,O⟩=false∧w.frozen? ⟨b,1,O⟩=false∧w.frozen? ⟨b,2,O⟩=false:=by
 simp[b6,h]
def r4{a c d e:bq}{f:Nat×Nat}(h:w.heap[b]? =Z (T (ct (a::c::d::e::r)) t f)):w.cell? ⟨b,0,O⟩=Z a∧w.cell? ⟨b,1,O⟩=Z c∧w.cell? ⟨b,2,O⟩=Z d∧w.cell? ⟨b,3,O⟩=Z e:=by
 simp[cp,h]
def f4{c:Array bq}(h:w.heap[b]? =Z (T c t (0,0))):w.frozen? ⟨b,0,O⟩=false∧w.frozen? ⟨b,1,O⟩=false∧w.frozen? ⟨b,2,O⟩=false∧w.frozen? ⟨b,3,O⟩=false:=by
 simp[b6,h]
def r5{a c d e g:bq}{f:Nat×Nat}(h:w.heap[b]? =Z (T (ct (a::c::d::e::g::r)) t f)):w.cell? ⟨b,0,O⟩=Z a∧w.cell? ⟨b,1,O⟩=Z c∧w.cell? ⟨b,2,O⟩=Z d∧w.cell? ⟨b,3,O⟩=Z e∧w.cell? ⟨b,4,O⟩=Z g:=by
 simp[cp,h]
def f5{c:Array bq}(h:w.heap[b]? =Z (T c t (0,0))):w.frozen? ⟨b,0,O⟩=false∧w.frozen? ⟨b,1,O⟩=false∧w.frozen? ⟨b,2,O⟩=false∧w.frozen? ⟨b,3,O⟩=false∧w.frozen? ⟨b,4,O⟩=false:=by
 simp[b6,h]
def r6{a c d e g i:bq}{f:Nat×Nat}(h:w.heap[b]? =Z (T (ct (a::c::d::e::g::i::r)) t f)):w.cell? ⟨b,0,O⟩=Z a∧w.cell? ⟨b,1,O⟩=Z c∧w.cell? ⟨b,2,O⟩=Z d∧w.cell? ⟨b,3,O⟩=Z e∧w.cell? ⟨b,4,O⟩=Z g∧w.cell? ⟨b,5,O⟩=Z i:=by
 simp[cp,h]
def f6{c:Array bq}(h:w.heap[b]? =Z (T c t (0,0))):w.frozen? ⟨b,0,O⟩=false∧w.frozen? ⟨b,1,O⟩=false∧w.frozen? ⟨b,2,O⟩=false∧w.frozen? ⟨b,3,O⟩=false∧w.frozen? ⟨b,4,O⟩=false∧w.frozen? ⟨b,5,O⟩=false:=by
 simp[b6,h]
def r7{a c d e g i j:bq}{f:Nat×Nat}(h:w.heap[b]? =Z (T (ct (a::c::d::e::g::i::j::r)) t f)):w.cell? ⟨b,0,O⟩=Z a∧w.cell? ⟨b,1,O⟩=Z c∧w.cell? ⟨b,2,O⟩=Z d∧w.cell? ⟨b,3,O⟩=Z e∧w.cell? ⟨b,4,O⟩=Z g∧w.cell? ⟨b,5,O⟩=Z i∧w.cell? ⟨b,6,O⟩=Z j:=by
 simp[cp,h]
def f7{c:Array bq}(h:w.heap[b]? =Z (T c t (0,0))):w.frozen? ⟨b,0,O⟩=false∧w.frozen? ⟨b,1,O⟩=false∧w.frozen? ⟨b,2,O⟩=false∧w.frozen? ⟨b,3,O⟩=false∧w.frozen? ⟨b,4,O⟩=false∧w.frozen? ⟨b,5,O⟩=false∧w.frozen? ⟨b,6,O⟩=false:=by
 simp[b6,h]
def r8{a c d e g i j k:bq}{f:Nat×Nat}(h:w.heap[b]? =Z (T (ct (a::c::d::e::g::i::j::k::r)) t f)):w.cell? ⟨b,0,O⟩=Z a∧w.cell? ⟨b,1,O⟩=Z c∧w.cell? ⟨b,2,O⟩=Z d∧w.cell? ⟨b,3,O⟩=Z e∧w.cell? ⟨b,4,O⟩=Z g∧w.cell? ⟨b,5,O⟩=Z i∧w.cell? ⟨b,6,O⟩=Z j∧w.cell? ⟨b,7,O⟩=Z k:=by
 simp[cp,h]
def f8{c:Array bq}(h:w.heap[b]? =Z (T c t (0,0))):w.frozen? ⟨b,0,O⟩=false∧w.frozen? ⟨b,1,O⟩=false∧w.frozen? ⟨b,2,O⟩=false∧w.frozen? ⟨b,3,O⟩=false∧w.frozen? ⟨b,4,O⟩=false∧w.frozen? ⟨b,5,O⟩=false∧w.frozen? ⟨b,6,O⟩=false∧w.frozen? ⟨b,7,O⟩=false:=by
 simp[b6,h]
def r9{a c d e g i j k l:bq}{f:Nat×Nat}(h:w.heap[b]? =Z (T (ct (a::c::d::e::g::i::j::k::l::r)) t f)):w.cell? ⟨b,0,O⟩=Z a∧w.cell? ⟨b,1,O⟩=Z c∧w.cell? ⟨b,2,O⟩=Z d∧w.cell? ⟨b,3,O⟩=Z e∧w.cell? ⟨b,4,O⟩=Z g∧w.cell? ⟨b,5,O⟩=Z i∧w.cell? ⟨b,6,O⟩=Z j∧w.cell? ⟨b,7,O⟩=Z k∧w.cell? ⟨b,8,O⟩=Z l:=by
 simp[cp,h]
def f9{c:Array bq}(h:w.heap[b]? =Z (T c t (0,0))):w.frozen? ⟨b,0,O⟩=false∧w.frozen? ⟨b,1,O⟩=false∧w.frozen? ⟨b,2,O⟩=false∧w.frozen? ⟨b,3,O⟩=false∧w.frozen? ⟨b,4,O⟩=false∧w.frozen? ⟨b,5,O⟩=false∧w.frozen? ⟨b,6,O⟩=false∧w.frozen? ⟨b,7,O⟩=false∧w.frozen? ⟨b,8,O⟩=false:=by
 simp[b6,h]
def DV{a c d e g i j k l m:bq}{f:Nat×Nat}(h:w.heap[b]? =Z (T (ct (a::c::d::e::g::i::j::k::l::m::r)) t f)):w.cell? ⟨b,0,O⟩=Z a∧w.cell? ⟨b,1,O⟩=Z c∧w.cell? ⟨b,2,O⟩=Z d∧w.cell? ⟨b,3,O⟩=Z e∧w.cell? ⟨b,4,O⟩=Z g∧w.cell? ⟨b,5,O⟩=Z i∧w.cell? ⟨b,6,O⟩=Z j∧w.cell? ⟨b,7,O⟩=Z k∧w.cell? ⟨b,8,O⟩=Z l∧w.cell? ⟨b,9,O⟩=Z m:=by
 simp[cp,h]
def f10{c:Array bq}(h:w.heap[b]? =Z (T c t (0,0))):w.frozen? ⟨b,0,O⟩=false∧w.frozen? ⟨b,1,O⟩=false∧w.frozen? ⟨b,2,O⟩=false∧w.frozen? ⟨b,3,O⟩=false∧w.frozen? ⟨b,4,O⟩=false∧w.frozen? ⟨b,5,O⟩=false∧w.frozen? ⟨b,6,O⟩=false∧w.frozen? ⟨b,7,O⟩=false∧w.frozen? ⟨b,8,O⟩=false∧w.frozen? ⟨b,9,O⟩=false:=by
 simp[b6,h]
def Yn{a c e g i j k l m n d:bq}{f:Nat×Nat}(h:w.heap[b]? =Z (T (ct (a::c::e::g::i::j::k::l::m::n::d::r)) t f)):w.cell? ⟨b,0,O⟩=Z a∧w.cell? ⟨b,1,O⟩=Z c∧w.cell? ⟨b,2,O⟩=Z e∧w.cell? ⟨b,3,O⟩=Z g∧w.cell? ⟨b,4,O⟩=Z i∧w.cell? ⟨b,5,O⟩=Z j∧w.cell? ⟨b,6,O⟩=Z k∧w.cell? ⟨b,7,O⟩=Z l∧w.cell? ⟨b,8,O⟩=Z m∧w.cell? ⟨b,9,O⟩=Z n∧w.cell? ⟨b,10,O⟩=Z d:=by
 simp[cp,h]
def f11{c:Array bq}(h:w.heap[b]? =Z (T c t (0,0))):w.frozen? ⟨b,0,O⟩=false∧w.frozen? ⟨b,1,O⟩=false∧w.frozen? ⟨b,2,O⟩=false∧w.frozen? ⟨b,3,O⟩=false∧w.frozen? ⟨b,4,O⟩=false∧w.frozen? ⟨b,5,O⟩=false∧w.frozen? ⟨b,6,O⟩=false∧w.frozen? ⟨b,7,O⟩=false∧w.frozen? ⟨b,8,O⟩=false∧w.frozen? ⟨b,9,O⟩=false∧w.frozen? ⟨b,10,O⟩=false:=by
 simp[b6,h]
def Yo{a c g i j k l m n o d e:bq}{f:Nat×Nat}(h:w.heap[b]? =Z (T (ct (a::c::g::i::j::k::l::m::n::o::d::e::r)) t f)):w.cell? ⟨b,0,O⟩=Z a∧w.cell? ⟨b,1,O⟩=Z c∧w.cell? ⟨b,2,O⟩=Z g∧w.cell? ⟨b,3,O⟩=Z i∧w.cell? ⟨b,4,O⟩=Z j∧w.cell? ⟨b,5,O⟩=Z k∧w.cell? ⟨b,6,O⟩=Z l∧w.cell? ⟨b,7,O⟩=Z m∧w.cell? ⟨b,8,O⟩=Z n∧w.cell? ⟨b,9,O⟩=Z o∧w.cell? ⟨b,10,O⟩=Z d∧w.cell? ⟨b,11,O⟩=Z e:=by
 simp[cp,h]
def f12{c:Array bq}(h:w.heap[b]? =Z (T c t (0,0))):w.frozen? ⟨b,0,O⟩=false∧w.frozen? ⟨b,1,O⟩=false∧w.frozen? ⟨b,2,O⟩=false∧w.frozen? ⟨b,3,O⟩=false∧w.frozen? ⟨b,4,O⟩=false∧w.frozen? ⟨b,5,O⟩=false∧w.frozen? ⟨b,6,O⟩=false∧w.frozen? ⟨b,7,O⟩=false∧w.frozen? ⟨b,8,O⟩=false∧w.frozen? ⟨b,9,O⟩=false∧w.frozen? ⟨b,10,O⟩=false∧w.frozen? ⟨b,11,O⟩=false:=by
 simp[b6,h]
def f13{c:Array bq}(h:w.heap[b]? =Z (T c t (0,0))):w.frozen? ⟨b,0,O⟩=false∧w.frozen? ⟨b,1,O⟩=false∧w.frozen? ⟨b,2,O⟩=false∧w.frozen? ⟨b,3,O⟩=false∧w.frozen? ⟨b,4,O⟩=false∧w.frozen? ⟨b,5,O⟩=false∧w.frozen? ⟨b,6,O⟩=false∧w.frozen? ⟨b,7,O⟩=false∧w.frozen? ⟨b,8,O⟩=false∧w.frozen? ⟨b,9,O⟩=false∧w.frozen? ⟨b,10,O⟩=false∧w.frozen? ⟨b,11,O⟩=false∧w.frozen? ⟨b,12,O⟩=false:=by
 simp[b6,h]
def f14{c:Array bq}(h:w.heap[b]? =Z (T c t (0,0))):w.frozen? ⟨b,0,O⟩=false∧w.frozen? ⟨b,1,O⟩=false∧w.frozen? ⟨b,2,O⟩=false∧w.frozen? ⟨b,3,O⟩=false∧w.frozen? ⟨b,4,O⟩=false∧w.frozen? ⟨b,5,O⟩=false∧w.frozen? ⟨b,6,O⟩=false∧w.frozen? ⟨b,7,O⟩=false∧w.frozen? ⟨b,8,O⟩=false∧w.frozen? ⟨b,9,O⟩=false∧w.frozen? ⟨b,10,O⟩=false∧w.frozen? ⟨b,11,O⟩=false∧w.frozen? ⟨b,12,O⟩=false∧w.frozen? ⟨b,13,O⟩=false:=by
 simp[b6,h]
def f15{c:Array bq}(h:w.heap[b]? =Z (T c t (0,0))):w.frozen? ⟨b,0,O⟩=false∧w.frozen? ⟨b,1,O⟩=false∧w.frozen? ⟨b,2,O⟩=false∧w.frozen? ⟨b,3,O⟩=false∧w.frozen? ⟨b,4,O⟩=false∧w.frozen? ⟨b,5,O⟩=false∧w.frozen? ⟨b,6,O⟩=false∧w.frozen? ⟨b,7,O⟩=false∧w.frozen? ⟨b,8,O⟩=false∧w.frozen? ⟨b,9,O⟩=false∧w.frozen? ⟨b,10,O⟩=false∧w.frozen? ⟨b,11,O⟩=false∧w.frozen? ⟨b,12,O⟩=false∧w.frozen? ⟨b,13,O⟩=false∧w.frozen? ⟨b,14,O⟩=false:=by
 simp[b6,h]
def Hq(p:Prop):Prop:=p
def Hq.o{p:Prop}(h:Hq p):p:=h
def HH{p:Prop}(h:p):Hq p:=h
def H2{a b:Prop}(A:a)(B:b):Hq a∧Hq b:=⟨A,B⟩
def H3{a b c:Prop}(A:a)(B:b)(C:c):Hq a∧Hq b∧Hq c:=⟨A,B,C⟩
def H4{a b c d:Prop}(A:a)(B:b)(C:c)(D:d):Hq a∧Hq b∧Hq c∧Hq d:=⟨A,B,C,D⟩
def H5{a b c d e:Prop}(A:a)(B:b)(C:c)(D:d)(E:e):Hq a∧Hq b∧Hq c∧Hq d∧Hq e:=⟨A,B,C,D,E⟩
def H6{a b c d e f:Prop}(A:a)(B:b)(C:c)(D:d)(E:e)(F:f):Hq a∧Hq b∧Hq c∧Hq d∧Hq e∧Hq f:=⟨A,B,C,D,E,F⟩
def H7{a b c d e f g:Prop}(A:a)(B:b)(C:c)(D:d)(E:e)(F:f)(h:g):Hq a∧Hq b∧Hq c∧Hq d∧Hq e∧Hq f∧Hq g:=⟨A,B,C,D,E,F,h⟩
def H8{a b c d e f g h:Prop}(A:a)(B:b)(C:c)(D:d)(E:e)(F:f)(i:g)(H:h):Hq a∧Hq b∧Hq c∧Hq d∧Hq e∧Hq f∧Hq g∧Hq h:=⟨A,B,C,D,E,F,i,H⟩
def H9{a b c d e f g h i:Prop}(A:a)(B:b)(C:c)(D:d)(E:e)(F:f)(j:g)(H:h)(k:i):Hq a∧Hq b∧Hq c∧Hq d∧Hq e∧Hq f∧Hq g∧Hq h∧Hq i:=⟨A,B,C,D,E,F,j,H,k⟩
def QZ{a b c d e f g h i j:Prop}(A:a)(B:b)(C:c)(D:d)(E:e)(F:f)(k:g)(H:h)(l:i)(m:j):Hq a∧Hq b∧Hq c∧Hq d∧Hq e∧Hq f∧Hq g∧Hq h∧Hq i∧Hq j:=⟨A,B,C,D,E,F,k,H,l,m⟩
def Ra{a b c d e f g h i j k:Prop}(A:a)(B:b)(C:c)(D:d)(E:e)(F:f)(l:g)(H:h)(m:i)(n:j)(K:k):Hq a∧Hq b∧Hq c∧Hq d∧Hq e∧Hq f∧Hq g∧Hq h∧Hq i∧Hq j∧Hq k:=⟨A,B,C,D,E,F,l,H,m,n,K⟩
def Rb{a b c d e f g h i j k l:Prop}(A:a)(B:b)(C:c)(D:d)(E:e)(F:f)(m:g)(H:h)(n:i)(o:j)(K:k)(L:l):Hq a∧Hq b∧Hq c∧Hq d∧Hq e∧Hq f∧Hq g∧Hq h∧Hq i∧Hq j∧Hq k∧Hq l:=⟨A,B,C,D,E,F,m,H,n,o,K,L⟩
def ex{α:Sort _}(a:α):∃ x,x=a:=⟨_,rfl⟩
@[reducible] def EG(k:FuncId):Prop:=∀ args w,(cR k args).run prog w=.ok (.enter k args) w
def cc2{o:Nat}{a c:bq}(h:∀ (j:Nat) (v:bq),[a,c][j]? =Z v→w.cell? ⟨b,o+j,O⟩=Z v):w.cell? ⟨b,o,O⟩=Z a∧w.cell? ⟨b,o+1,O⟩=Z c:=⟨h 0 _ rfl,h 1 _ rfl⟩
def EO{o:Nat}{a c d:bq}(h:∀ (j:Nat) (v:bq),[a,c,d][j]? =Z v→w.cell? ⟨b,o+j,O⟩=Z v):w.cell? ⟨b,o,O⟩=Z a∧w.cell? ⟨b,o+1,O⟩=Z c∧w.cell? ⟨b,o+2,O⟩=Z d:=⟨h 0 _ rfl,h 1 _ rfl,h 2 _ rfl⟩
def LZ{o:Nat}{a c d e:bq}(h:∀ (j:Nat) (v:bq),[a,c,d,e][j]? =Z v→w.cell? ⟨b,o+j,O⟩=Z v):w.cell? ⟨b,o,O⟩=Z a∧w.cell? ⟨b,o+1,O⟩=Z c∧w.cell? ⟨b,o+2,O⟩=Z d∧w.cell? ⟨b,o+3,O⟩=Z e:=⟨h 0 _ rfl,h 1 _ rfl,h 2 _ rfl,h 3 _ rfl⟩
def RT{o:Nat}{a c d e f:bq}(h:∀ (j:Nat) (v:bq),[a,c,d,e,f][j]? =Z v→w.cell? ⟨b,o+j,O⟩=Z v):w.cell? ⟨b,o,O⟩=Z a∧w.cell? ⟨b,o+1,O⟩=Z c∧w.cell? ⟨b,o+2,O⟩=Z d∧w.cell? ⟨b,o+3,O⟩=Z e∧w.cell? ⟨b,o+4,O⟩=Z f:=⟨h 0 _ rfl,h 1 _ rfl,h 2 _ rfl,h 3 _ rfl,h 4 _ rfl⟩
def Od{o:Nat}{a c d e f g:bq}(h:∀ (j:Nat) (v:bq),[a,c,d,e,f,g][j]? =Z v→w.cell? ⟨b,o+j,O⟩=Z v):w.cell? ⟨b,o,O⟩=Z a∧w.cell? ⟨b,o+1,O⟩=Z c∧w.cell? ⟨b,o+2,O⟩=Z d∧w.cell? ⟨b,o+3,O⟩=Z e∧w.cell? ⟨b,o+4,O⟩=Z f∧w.cell? ⟨b,o+5,O⟩=Z g:=⟨h 0 _ rfl,h 1 _ rfl,h 2 _ rfl,h 3 _ rfl,h 4 _ rfl,h 5 _ rfl⟩
end
def YM(w:br)(a b:Obj):({(w.alloc a) with heap:=(w.alloc a).heap.setIfInBounds w.heap.size b}:br)=w.alloc b:=by
 simp only[eE]
 congr 1
 refine Array.ext_getElem? fun i=>?_
 rw[dL];by_cases e:w.heap.size=i
 ·subst e;simp
 ·rw[if_neg e,ea,ea,if_neg (Ne.symm e),if_neg (Ne.symm e)]
section
variable {P:ei} {w:br} {b:Nat} {es:Array MapEntry} {clk:Nat} {κ:cK} {k:Int} {i:Nat} {v z:bq} {mty kt et:ci}
def YD(e:P.underlying mty=Z (.map kt et))(c:P.underlying kt=Z (.int κ))(h:cS (.int κ) (I κ k) es.toList 0=Z O):
  (dK mty (.map (Z w.heap.size)) (I κ k) v).run P (w.alloc (.map es clk))=.ok () (w.alloc (.map (es.push ⟨I κ k,v,clk⟩) (clk+1))):=by
 have a:(w.alloc (.map es clk)).heap[w.heap.size]? =Z (.map es clk):=by simp[-dq,eE]
 have d:(ds false 10000 kt (I κ k)).run P (w.alloc (.map es clk))=.ok () (w.alloc (.map es clk)):=cZ (k:=I κ k) c (by simp[dt]) false 9999;simp[-dq,dK,cI e,cU a,d,c9 c h,MapKept.run_setObj_map _ a,cv];exact YM w _ _
def YE(f:P.underlying mty=Z (.map kt et))(a:P.underlying kt=Z (.int κ))(c:w.heap[b]? =Z (.map es clk))(h:cS (.int κ) (I κ k) es.toList 0=Z (Z (i,v))):
  (cN mty (.map (Z b)) (I κ k) true).run P w=.ok (.tuple #[v,.bool true]) w:=by
 have d (e:Bool):(ds e 10000 kt (I κ k)).run P w=.ok () w:=cZ (k:=I κ k) a (by simp[dt]) e 9999;simp[cN,cI f,cU c,d,c9 a h,cv]
def YF(f:P.underlying mty=Z (.map kt et))(a:P.underlying kt=Z (.int κ))(c:w.heap[b]? =Z (.map es clk))(h:cS (.int κ) (I κ k) es.toList 0=Z (Z (i,v))):
  (cN mty (.map (Z b)) (I κ k) false).run P w=.ok v w:=by
 have d (e:Bool):(ds e 10000 kt (I κ k)).run P w=.ok () w:=cZ (k:=I κ k) a (by simp[dt]) e 9999;simp[cN,cI f,cU c,d,c9 a h,cv]
def YG(f:P.underlying mty=Z (.map kt et))(a:P.underlying kt=Z (.int κ))(c:w.heap[b]? =Z (.map es clk))(h:cS (.int κ) (I κ k) es.toList 0=Z O)(g:(dS et).run P w=.ok z w):
  (cN mty (.map (Z b)) (I κ k) true).run P w=.ok (.tuple #[z,.bool false]) w:=by
 have d (e:Bool):(ds e 10000 kt (I κ k)).run P w=.ok () w:=cZ (k:=I κ k) a (by simp[dt]) e 9999;simp[cN,cI f,cU c,d,c9 a h,g,cv]
end
section
variable {P:ei} {w:br} {ops:Array eH} {rest:List eH} {o:eH} {a:Act} {Q:Exit→Act→br→Prop} {es:Array MapEntry} {clk b i:Nat} {κ:cK} {k:Int} {v z:bq} {m x y:Operand} {mty kt et:ci}
def ZM{t:ci}(d:o.guard=O)(e:o.op=Op.makeMap t O)(hK:dA P ops Q rest (a.put o.dst (.map (Z w.heap.size))) (w.alloc (.map #[] 0))):dA P ops Q (o::rest) a w:=by
 refine dw d fun f c=>?_
 unfold dD;simp[-dq,eh,e,run_makeMap_plain,cv];exact c _ _ hK
def ZJ(e:o.guard=O)(j:o.op=Op.insert mty m x y)(g:P.underlying mty=Z (.map kt et))(f:P.underlying kt=Z (.int κ))(d:a.eval m=.map (Z w.heap.size))(n:a.eval x=I κ k)(l:a.eval y=v)(h:cS (.int κ) (I κ k) es.toList 0=Z O)
  (hK:dA P ops Q rest (a.put o.dst undef) (w.alloc (.map (es.push ⟨I κ k,v,clk⟩) (clk+1)))):dA P ops Q (o::rest) a (w.alloc (.map es clk)):=by
 refine dw e fun p c=>?_
 unfold dD;simp[-dq,eh,j,d,n,l,YD g f h,cv];exact c _ _ hK
def ZK(f:o.guard=O)(l:o.op=Op.lookup mty m x true)(j:P.underlying mty=Z (.map kt et))(g:P.underlying kt=Z (.int κ))(e:w.heap[b]? =Z (.map es clk))(d:a.eval m=.map (Z b))(n:a.eval x=I κ k)(h:cS (.int κ) (I κ k) es.toList 0=Z (Z (i,v)))
  (hK:dA P ops Q rest (a.put o.dst (.tuple #[v,.bool true])) w):dA P ops Q (o::rest) a w:=by
 refine dw f fun p c=>?_
 unfold dD;simp[eh,l,d,n,YE j g e h,cv];exact c _ _ hK
def ZL(f:o.guard=O)(l:o.op=Op.lookup mty m x true)(j:P.underlying mty=Z (.map kt et))(g:P.underlying kt=Z (.int κ))(p:(dS et).run P w=.ok z w)(e:w.heap[b]? =Z (.map es clk))(d:a.eval m=.map (Z b))(n:a.eval x=I κ k)(h:cS (.int κ) (I κ k) es.toList 0=Z O)
  (hK:dA P ops Q rest (a.put o.dst (.tuple #[z,.bool false])) w):dA P ops Q (o::rest) a w:=by
 refine dw f fun q c=>?_
 unfold dD;simp[eh,l,d,n,YG j g e h p,cv];exact c _ _ hK
end
def A8{a b:Bool}(h:a=b):dJ (.bool a)=.returned (.bool b):=by rw[h]
def EH{k:cK}{a b:Int}(h:a=b):dJ (I k a)=.returned (I k b):=by rw[h]
structure Wt where
 proc:Int
 prio:Int
 val:Int
def Wt.Uq{a b:Wt}:a=b↔a.proc=b.proc∧a.prio=b.prio∧a.val=b.val:=by
 cases a;cases b;simp
instance :DecidableEq Wt:=fun a b=>decidable_of_iff (a.proc=b.proc∧a.prio=b.prio∧a.val=b.val) Wt.Uq.symm
instance :Inhabited Wt:=⟨⟨0,0,0⟩⟩
def Bv(x:Wt):List bq:=[I J x.proc,I J x.prio,I U x.val]
def cellsW(l:List Wt):List bq:=l.flatMap Bv
def JU(x:Wt):(Bv x).length=3:=rfl
def JR:cellsW []=[]:=rfl
def Gi(x:Wt)(l:List Wt):cellsW (x::l)=Bv x++cellsW l:=rfl
def JQ(l m:List Wt):cellsW (l++m)=cellsW l++cellsW m:=by simp[cellsW]
def DI(l:List Wt):(cellsW l).length=l.length*3:=by
 induction l with
 |nil=>rfl
 |cons x l a=>rw[Gi,b0,a,JU,cj];omega
def Of(l:List Wt)(k:Nat):(cellsW l).drop (k*3)=cellsW (l.drop k):=by
 induction k generalizing l with
 |zero=>simp
 |succ k a=>
  cases l with
  |nil=>simp[JR]
  |cons x l=>
   rw[Gi,List.drop_succ_cons,←a l];have:(k+1)*3=3+k*3:=by omega
   rw[this,←dQ];rfl
def Og(l:List Wt)(k:Nat):(cellsW l).take (k*3)=cellsW (l.take k):=by
 induction k generalizing l with
 |zero=>simp[JR]
 |succ k a=>
  cases l with
  |nil=>simp[JR]
  |cons x l=>
   rw[Gi,List.take_succ_cons,Gi,←a l];have:(k+1)*3=(Bv x).length+k*3:=by rw[JU];omega
   rw[this,List.take_append,Nat.add_sub_cancel_left,cH (by omega)]
def KD(l:List Wt)(k i:Nat)(a:k<l.length)(b:i<3):(cellsW l)[k*3+i]? =(Bv l[k])[i]?:=by
 rw[←cT,Of,dU a,Gi,cA (by rw[JU];omega)]
def MN(l:List Wt):∀ u∈cellsW l,u.oneCell'=true:=by
 intro u a;simp only[cellsW,List.mem_flatMap,Bv] at a;obtain⟨x,_,b⟩:=a;simp at b;rcases b with rfl|rfl|rfl<;>rfl
def Sl(w:br)(B sz:Nat)(v:bq)(n:Nat)(d:List bq):Prop:=
 ∃ (a:Option dj) (cap:Nat),v=Y a n cap∧n≤cap∧(a=O→cap=0)∧d.length=n*sz∧
  (0<n→∃ b c,a=Z ⟨b,c,O⟩∧B≤b∧b<w.heap.size∧∀ j u,d[j]? =Z u→w.cell? ⟨b,c+j,O⟩=Z u)
section
variable {w w':br} {B B' sz n:Nat} {v:bq} {xs:List bq}
def Sl.Ag(h:Sl w B sz v n xs)(t:w.heap.size≤w'.heap.size)(i:∀ p:dj,p.block<w.heap.size→w'.cell? p=w.cell? p):Sl w' B sz v n xs:=by
 obtain⟨a,cap,r,l,m,k,o⟩:=h;refine⟨a,cap,r,l,m,k,fun c=>?_⟩;obtain⟨b,s,e,d,f,g⟩:=o c;exact⟨b,s,e,d,by omega,fun j u q=>(i _ f).trans (g j u q)⟩
def Sl.below(h:Sl w B sz v n xs)(a:Bl w w'):Sl w' B sz v n xs:=h.Ag a.size fun _ b=>a.cell b
def Sl.drewN(h:Sl w B sz v n xs)(k:Nat):Sl (w.drewN k) B sz v n xs:=h
def Sl.drew(h:Sl w B sz v n xs):Sl w.drew B sz v n xs:=h
def Sl.alloc(h:Sl w B sz v n xs)(o:Obj):Sl (w.alloc o) B sz v n xs:=h.below ((bJ _ _).alloc (bH _) _)
def Sl.mono(h:Sl w B sz v n xs)(d:B'≤B):Sl w B' sz v n xs:=by
 obtain⟨a,cap,m,j,k,i,l⟩:=h;refine⟨a,cap,m,j,k,i,fun c=>?_⟩;obtain⟨b,o,e,d,f,g⟩:=l c;exact⟨b,o,e,by omega,f,g⟩
def Sl.nil(w:br)(B sz:Nat):Sl w B sz (Y O 0 0) 0 []:=⟨O,0,rfl,bH _,fun _=>rfl,by simp,fun h=>absurd h (by omega)⟩
def Sl.Bw{base:Nat}{e:ci}(h:w.ownsRow base e sz v n xs):Sl w base sz v n xs:=by
 rcases h.2 with ⟨rfl,rfl⟩|⟨g,cap,cur,rfl,b,c,d,_,i,k⟩
 ·exact⟨O,0,rfl,bH _,fun _=>rfl,h.1,fun h=>absurd h (by omega)⟩
 ·refine⟨_,cap,rfl,d,(by intro h;cases h),h.1,fun _=>⟨g,0,rfl,b,(cg.1 c).1,fun j u f=>?_⟩⟩;have:=h.cells (g:=g) rfl j u f;have a:(⟨g,0,O⟩:dj).add j=⟨g,0+j,O⟩:=by unfold Addr.add;split<;>simp_all
  rw[a] at this;exact this
end
def Al(w:br)(B:Nat)(v:bq)(l:List Wt):Prop:=Sl w B 3 v l.length (cellsW l)
section
variable {w w':br} {B B':Nat} {v:bq} {l:List Wt}
def Al.below(h:Al w B v l)(a:Bl w w'):Al w' B v l:=Sl.below h a
def Al.drewN(h:Al w B v l)(k:Nat):Al (w.drewN k) B v l:=h
def Al.drew(h:Al w B v l):Al w.drew B v l:=h
def Al.alloc(h:Al w B v l)(o:Obj):Al (w.alloc o) B v l:=Sl.alloc h o
def Al.mono(h:Al w B v l)(a:B'≤B):Al w B' v l:=Sl.mono h a
def Al.open_(h:Al w B v l):∃ (c:Option dj) (cap:Nat),v=Y c l.length cap∧l.length≤cap∧(c=O→cap=0)∧
  (0<l.length→∃ b a,c=Z ⟨b,a,O⟩∧B≤b∧b<w.heap.size∧∀ k (d:k<l.length),
   w.cell? ⟨b,a+k*3,O⟩=Z (I J l[k].proc)∧w.cell? ⟨b,a+k*3+1,O⟩=Z (I J l[k].prio)∧w.cell? ⟨b,a+k*3+2,O⟩=Z (I U l[k].val)):=by
 obtain⟨c,cap,p,m,n,_,o⟩:=h;refine⟨c,cap,p,m,n,fun f=>?_⟩;obtain⟨b,a,i,g,j,e⟩:=o f;refine⟨b,a,i,g,j,fun k d=>⟨?_,?_,?_⟩⟩
 ·exact e (k*3) _ (by have:=KD l k 0 d (by omega);simpa[Bv] using this)
 ·exact e (k*3+1) _ (by have:=KD l k 1 d (by omega);simpa[Bv] using this)
 ·exact e (k*3+2) _ (by have:=KD l k 2 d (by omega);simpa[Bv] using this)
end
structure Ai where
 op:Int
 a:Int
 b:Int
 c:Int
 deriving DecidableEq
structure St where
 pc:Int
 left:Int
 AG:List Int
 deriving DecidableEq
structure Ac where
 kind:Int
 a:Int
 b:Int
 data:List Int
 deriving DecidableEq
def opsOf(a:Int):List Int:=
 match a with
 |1=> [1]|2=> [2,3]|3=> [2,2]|4=> [2,2]|5=> [2,4,2]|6=> [2,4,2]|7=> [6,2,5]|8=> [6,2,2]
 |9=> [6]|10=> [6]|11=> [6]|12=> [6]|13=> [6]|14=> [6,2]|15=> [6,2]|16=> [6,2]|17=> [6,2]|18=> [6]
 |19=> []|20=> [7]|21=> [2,7]|22=> [2,2,7]|23=> [2,2]|24=> [3]| _=> []
def Cp(o:Int):Int:=if o=1∨o=5 then 1 else 0
def De(o x a:Int):Int:=if o=1 then 2000 else if o=2 then 3 else if o=3 then 255 else if o=4 then 4095 else if o=5 then 64 else if o=6 then x else if o=7 then a-1 else 0
def Aw(o x a:Int):Bool:=decide (Cp o≤x) && decide (x≤De o x a)
def Dy(x:Ai)(i:Nat):Int:=match i with|0=>x.a|1=>x.b| _=>x.c
def Bb(x:Ai)(a:Int):Bool:=decide (1≤x.op) && decide (x.op≤25) && (opsOf x.op).zipIdx.all (fun p=>Aw p.1 (Dy x p.2) a)
def CM(a:List Ai)(i:Int):Option Ai:=
 if i<0 then O else match a[i.toNat]? with
  |none=>O
  |some x=>if Bb x a.length then Z x else O
def CY(s:St)(i:Int):Int:=s.AG.getD i.toNat 0
def D2(s:St)(i v:Int):St:={s with AG:=s.AG.set i.toNat v}
def zeroA:Ac:=⟨0,0,0,[]⟩
def Gq(f c:Int):Ac:=⟨15,f,c,[]⟩
def countP(first:Int)(n:Nat):List Int:=(List.range n).map fun(i:Nat)=>(first+(i:Int))%256
def As(x:Ai)(s:St)(d:List Int):St×Ac:=
 match x.op with
 |1=>let l:=(if s.left=0 then x.a else s.left)-1;({s with left:=l,pc:=if l=0 then s.pc else s.pc-1},zeroA)
 |2=>(D2 s x.a (x.b%256),zeroA)
 |3=>(D2 s x.a ((CY s x.a+CY s x.b)%256),zeroA)
 |4=>(D2 s x.a ((CY s x.a-CY s x.b)%256),zeroA)
 |5=>if(d.length:Int)≤x.b+CY s x.c then(s,Gq 2 0) else(D2 s x.a (d.getD (x.b+CY s x.c).toNat 0),zeroA)
 |6=>if(d.length:Int)≤x.b+CY s x.c then(s,Gq 2 0) else(s,⟨1,x.b+CY s x.c,CY s x.a,[]⟩)
 |7=>(s,⟨2,x.a,0,countP (CY s x.b) x.c.toNat⟩)
 |8=>(s,⟨3,x.a,0,[]⟩)
 |9=>(s,⟨4,x.a,0,[]⟩)
 |10=>(s,⟨5,x.a,0,[]⟩)
 |11=>(s,⟨6,x.a,0,[]⟩)
 |12=>(s,⟨7,x.a,0,[]⟩)
 |13=>(s,⟨8,x.a,0,[]⟩)
 |14=>(s,⟨9,x.a,0,[CY s x.b]⟩)
 |15=>(s,⟨10,x.a,0,[]⟩)
 |16=>(s,⟨11,x.a,0,[CY s x.b]⟩)
 |17=>(s,⟨12,x.a,0,[]⟩)
 |18=>(s,⟨13,x.a,0,[]⟩)
 |19=>(s,⟨14,0,0,[]⟩)
 |20=>({s with pc:=x.a},zeroA)
 |21=>(if CY s x.a=0 then {s with pc:=x.b} else s,zeroA)
 |22=>(if CY s x.a<CY s x.b then {s with pc:=x.c} else s,zeroA)
 |23=>if CY s x.b=0 then(s,Gq 4 0) else(D2 s x.a (CY s x.a/CY s x.b),zeroA)
 |24=>(s,Gq 3 x.a)
 |25=>({s with pc:=s.pc-1},⟨16,0,0,[]⟩)
 | _=>(s,zeroA)
def FZ(a:List Ai)(s:St)(b:List Int):St×Ac:=
 match CM a s.pc with
 |none=>(s,Gq 5 0)
 |some x=>As x {s with pc:=s.pc+1} b
def DS(d:List Ai)(s:St)(data:List Int):St:=
 match CM d (s.pc-1) with
 |none=>s
 |some x=>if x.op=8∨x.op=15∨x.op=17 then
   let a:=D2 s x.b (data.headD 0)
   if x.op=8 then D2 a x.c ((data.length:Int)%256) else a
  else s
def Ix:(prog.info? 161).map (fun i=>(i.zero,i.size,i.bytes))=Z (Z (.agg #[I J 0,I J 0,I U 0]),3,24):=by kernel_rfl
def OT:(prog.info? 5).map (fun i=>(i.zero,i.size,i.bytes))=Z (Z (I U 0),1,1):=by kernel_rfl
def Cu(b a j:Nat):(⟨b,a,O⟩:dj).add j=⟨b,a+j,O⟩:=by
 unfold Addr.add;split
 ·simp_all
 ·rfl
def GK(v:bq)(l:List Wt)(w:br)(h:Al w 0 v l)(Q:l.length≤1000000):
  b9 prog 112 #[v] w fun e w'=>∃ d,e=.returned d∧w'.ownsRow w.heap.size 161 3 d l.length (cellsW l)∧Bl w w':=by
 obtain⟨x,cap,rfl,R,g,t,i⟩:=h;obtain⟨P,D,L,M,N⟩:=cB Ix;have q:∀ (w:br) (a:Option dj) (n c m f:Nat),(binOp .eql 93 (Y a n c) (Y O m f)).run prog w=.ok (.bool a.isNone) w:=fun w a n c m f=>dZ w _ _ a n c m f underlying93
 have K:=HH t;clear t;cases x with
 |none=>
  have y:l=[]:=cs (by have:=g rfl;omega);subst y;clear i g;go_enter func112,ntmps112;go_wp2;go_ret;exact⟨_,rfl,cn _ _ _ _,bJ _ _⟩
 |some p=>
  have A:Hq (∀ j u,(cellsW l)[j]? =Z u→w.cell? (p.add j)=Z u):=by
   intro j u s;have F:=(ck.1 s).1;obtain⟨b,V,z,_,_,B⟩:=i (by rw[DI] at F;omega);cases z;rw[Cu];exact B j u s
  clear i g;go_enter func112,ntmps112;go_wp2_with (at_builtin;refine cD _ rfl _ _ 93 rfl w.heap.size 161 P (.agg #[I J 0,I J 0,I U 0]) 3 24 underlying93 D L M N rfl (by decide) _ _ _ rfl (dy w #[] 0 (bH _) (ch _) (by simp)) p l.length cap (cellsW l) rfl ?qc1 ?qc2 ?qc3 ?qc4 ?qc5 ?qc6 ?_)
  case qc1=>exact K.o
  case qc2=>
   intro j u r;exact(dp _ _ _ (cE _ _ (A.o j u r))).trans (A.o j u r)
  case qc3=>exact MN l
  case qc4=>unfold cM;omega
  case qc5=>omega
  case qc6=>simp
  intro d W H C S;go_wp2;go_ret;exact⟨d,rfl,by simpa using H,((bJ _ w).alloc (bH _) _).grown C (by simp) (by intro k E;simp[cF] at E;omega)⟩
def Gn {P:ei} {f:FuncId} {a:Func} {c:Code} (e:P.funcs[f]? =Z a) (g:(a.name== "runtime.NumGoroutine")=false) (d:a.body=Z c):∀ args w,(cR f args).run P w=.ok (.enter f args) w:=by
 intro args w;have b:a.name≠ "runtime.NumGoroutine" :=by simpa using g
 simp[cR,e,b,d,mark]
def IJ(g:Nat)(a:Array bq)(p:Wt→Bool)(w:br):Prop:=
 ∀ (W:br) (x:Wt),Bl w W→b9 prog g (#[.agg #[I J x.proc,I J x.prio,I U x.val]]++a) W fun e w'=>e=.returned (.bool (p x))∧Bl w w'
def DL{α:Type}(p:α→Bool)(l:List α):Int:=if l.findIdx p<l.length then(l.findIdx p:Int) else-1
def JY{α:Type}(p:α→Bool)(l:List α)(k:Nat)(a:k<l.length)(h:p l[k]=true)(b:∀ j (_:j<k) (d:j<l.length),p l[j]=false):DL p l=k:=by
 have:l.findIdx p=k:=(List.findIdx_eq a).2 ⟨h,fun j c=>by simpa using b j c (by omega)⟩;simp[DL,this,a]
def JZ{α:Type}(p:α→Bool)(l:List α)(b:∀ j (a:j<l.length),p l[j]=false):DL p l=-1:=by
 have:l.findIdx p=l.length:=by
  rw[List.findIdx_eq_length];intro x c;obtain⟨j,a,rfl⟩:=eb c;exact b j a
 simp[DL,this]
def KI{α:Type}(p:α→Bool)(l:List α):decide (0≤DL p l)=l.any p:=by
 unfold DL;by_cases h:l.findIdx p<l.length
 ·have:=dk.1 h;simp only[h,if_true];rw[decide_eq_true (by omega),eq_comm,List.any_eq_true];exact this
 ·simp only[h,if_false];rw[decide_eq_false (by omega),eq_comm,dE];intro x b a;exact h (dk.2 ⟨x,b,a⟩)
def KV(v:bq)(l:List Wt)(g:Nat)(u:Array bq)(p:Wt→Bool)(H:∀ args w,(cR g args).run prog w=.ok (.enter g args) w)(w:br)(h:Al w 0 v l)(N:l.length≤1000000)(t:IJ g u p w):
  b9 prog 145 #[v,.func (.func g) #[] u] w fun e w'=>e=.returned (I J (DL p l))∧Bl w w':=by
 obtain⟨F,n,rfl,K,P,x⟩:=h.open_;clear h;have y:=HH t;clear t;go_enter func145,ntmps145;go_wp2
 go_loopg [5,8] l.length (fun B _ E wr=>∃ k:Nat,k≤l.length∧l.length-k≤B∧E=I J k∧Hq (Bl w wr)∧Hq (∀ j (d:j<k) (r:j<l.length),p l[j]=false))
 case atStart=>exact⟨0,ch _,by omega,rfl,bJ _ w,fun j d=>absurd d (dN _)⟩
 case round=>
  obtain⟨k,M,L,rfl,f,A⟩:=hrel;by_cases s:k<l.length
  ·have D:(k:Int)<(l.length:Int):=by omega
   obtain⟨b,Q,rfl,_,C,n⟩:=x (by omega);obtain⟨z,c1,c2⟩:=n k s;rw[←f.o.cell (p:=⟨b,_,O⟩) C] at z c1 c2;clear x n;have a:=y.o wr l[k] f.o;cases c:p l[k] with
   |true=>
    rw[c] at a;obtain⟨i,m⟩:=H2 a c;clear a c;go_wp2_with (refine i.o.mono ?_;rintro e w' ⟨rfl,q⟩);go_ret;exact⟨EH (JY p l k s m.o A.o).symm,q⟩
   |false=>
    rw[c] at a;obtain⟨i,m⟩:=H2 a c;clear a c;go_wp2_with (refine i.o.mono ?_;rintro e w' ⟨rfl,q⟩)
    go_roundg (l.length-(k+1))
    case measure=>omega
    case rel=>
     refine⟨k+1,by omega,by omega,by go_num,q,fun j d r=>?_⟩;by_cases e:j=k
     ·subst e;exact m.o
     ·exact A.o j (by omega) r
  ·have D:¬(k:Int)<(l.length:Int):=by omega
   go_wp2;go_ret;exact⟨EH (JZ p l (fun j d=>A.o j (by omega) d)).symm,f.o⟩
def JS(v:bq)(l:List Wt)(g:Nat)(a:Array bq)(p:Wt→Bool)(c:∀ args w,(cR g args).run prog w=.ok (.enter g args) w)(w:br)(h:Al w 0 v l)(i:l.length≤1000000)(d:IJ g a p w):
  b9 prog 134 #[v,.func (.func g) #[] a] w fun e w'=>e=.returned (.bool (l.any p))∧Bl w w':=by
 have b:=HH (KV v l g a p c w h i d);rw[←KI];generalize DL p l=q at b ⊢;clear h d c;go_enter func134,ntmps134;go_wp2_with (go_at_call 145;refine b.o.mono ?_;rintro e w' ⟨rfl,f⟩);go_ret;exact⟨rfl,f⟩
def Cs(k:ci)(q:cK)(w:br)(b n:Nat)(f:Int→Int):Prop:=
 ∃ D:DataW Unit,IsMap D∧w.ownsMap prog k (plainElem prog 3) b n D∧∀ x,D.atKey (.int q x) (.lit (.int J 0))=.lit (.int J (f x))
section
variable {k:ci} {q:cK} {w w':br} {b n:Nat} {f:Int→Int}
def Cs.made(k:ci)(q:cK)(w:br):Cs k q (w.alloc (.map #[] 0)) w.heap.size 0 (fun _=>0):=
 ⟨.map [],isMap_empty,World.ownsMap_made _ _ _ _,fun _=>rfl⟩
def Cs.lt(h:Cs k q w b n f):b<w.heap.size:=by obtain⟨D,_,h,_⟩:=h;exact h.lt
def Cs.kept{row:Option Nat}(h:Cs k q w b n f)(e:w.grownBy w' row)(g:Z b≠row):Cs k q w' b n f:=by
 obtain⟨D,a,c,d⟩:=h;exact⟨D,a,c.kept e g,d⟩
def Cs.below{B:Nat}(h:Cs k q w b n f)(i:df B w w')(g:b<B):Cs k q w' b n f:=by
 obtain⟨D,d,⟨c,a,j,r⟩,e⟩:=h;exact⟨D,d,⟨c,a,(i.block b g).trans j,r⟩,e⟩
def Cs.alloc(h:Cs k q w b n f)(o:Obj):Cs k q (w.alloc o) b n f:=by
 obtain⟨D,a,c,d⟩:=h;exact⟨D,a,c.alloc o,d⟩
def Cs.drewN(h:Cs k q w b n f)(m:Nat):Cs k q (w.drewN m) b n f:=h
def Cs.look(h:Cs k q w b n f){t:ci}(j:prog.underlying t=Z (.map k 3))(d:prog.underlying k=Z (.int q))(x:Int)(l:(dl q x).wf=true):
  (cN t (.map (Z b)) (.int q x) false).run prog w=.ok (.int J (f x)) w:=by
 obtain⟨D,o,e,g⟩:=h;have m:(dS 3).run prog w=.ok (.int J 0) w:=by kernel_rfl
 obtain⟨c,i,a,_⟩:=e.lookup_int (int_keyed d) j underlying3 m (keyOf_int_mk d l);rw[g x] at a;simp only[DataW.lit.injEq,ev,true_and] at a;rw[i,a]
def Cs.update(h:Cs k q w b n f){t:ci}(r:prog.underlying t=Z (.map k 3))(e:prog.underlying k=Z (.int q))(m:n<cM)(x c:Int)(s:(dl q x).wf=true)(j:(dl J c).wf=true):
  ∃ w',(dK t (.map (Z b)) (.int q x) (.int J c)).run prog w=.ok () w'∧Cs k q w' b (n+1) (fun y=>if y=x then c else f y)∧w.grownBy w' (Z b):=by
 obtain⟨D,d,g,i⟩:=h;obtain⟨w',p,o,l⟩:=g.update (int_keyed e) r m (keyOf_int_mk e s) (plainElem_int underlying3 j);refine⟨w',p,⟨_,d.put _ _,o,fun y=>?_⟩,l⟩;show _=DataW.lit (dl J (if y=x then c else f y));by_cases a:y=x
 ·subst a;rw[if_pos rfl,atKey_put_same d (k:=.int q y) trivial]
 ·rw[if_neg a,atKey_put_other (by simp only[ne_eq,ev,true_and];exact a),i y]
end
def ZI{k:ci}{q:cK}{w:br}{b n:Nat}{f:Int→Int}{ops:Array eH}{rest:List eH}{o:eH}{a:Act}{Q:Exit→Act→br→Prop}
  (i:o.guard=O) (m x v:Operand) (t:ci) (r:o.op=Op.mapUpdate t m x v) (u:prog.underlying t=Z (.map k 3)) (j:prog.underlying k=Z (.int q))
  (h:Cs k q w b n f) (p:n<cM) (d c:Int) (A:(dl q d).wf=true) (g:(dl J c).wf=true) (l:a.eval m=.map (Z b)) (B:a.eval x=.int q d) (z:a.eval v=.int J c)
  (hK:∀ w',Cs k q w' b (n+1) (fun y=>if y=d then c else f y)→w.grownBy w' (Z b)→dA prog ops Q rest (a.put o.dst undef) w'):
  dA prog ops Q (o::rest) a w:=by
 refine dw i fun D e=>?_
 obtain⟨w',s,C,r2⟩:=h.update u j p d c A g;unfold dD;simp[eh,r,l,B,z,s,cv];exact e _ _ (hK w' C r2)
def AY(l:List Wt):Prop:=(∀ x∈l,0≤x.proc)∧l.Pairwise (fun a b=>a.proc≠b.proc)∧l.Pairwise (fun a b=>b.prio≤a.prio)
instance (l:List Wt):Decidable (AY l):=by unfold AY;exact inferInstance
def AY.nil:AY []:=⟨by simp,dR,dR⟩
def AY.take{l:List Wt}(h:AY l)(k:Nat):AY (l.take k):=
 ⟨fun x a=>h.1 x (List.mem_of_mem_take a),h.2.1.sublist (ek k l),h.2.2.sublist (ek k l)⟩
def XT(m:List Wt)(x:Wt):AY (m++ [x])↔AY m∧0≤x.proc∧(∀ y∈m,y.proc≠x.proc)∧∀ y∈m,x.prio≤y.prio:=by
 unfold AY;simp only[List.pairwise_append,List.mem_append,ef,List.pairwise_singleton];constructor
 ·rintro⟨b,⟨c,_,d⟩,e,_,f⟩;exact⟨⟨fun y a=>b y (.inl a),c,e⟩,b x (.inr rfl),fun y a=>d y a x rfl,fun y a=>f y a x rfl⟩
 ·rintro⟨⟨b,c,d⟩,e,f,g⟩;exact⟨by rintro y (a|rfl);exact b y a;exact e,⟨c,trivial,by rintro y a z rfl;exact f y a⟩,d,trivial,by rintro y a z rfl;exact g y a⟩
def XU(l:List Wt)(k:Nat)(i:k<l.length)(h:AY (l.take k)):
  AY (l.take (k+1))↔0≤l[k].proc∧(∀ y∈l.take k,y.proc≠l[k].proc)∧(0<k→l[k].prio≤(l[k-1]'(by omega)).prio):=by
 rw[cd i,XT];constructor
 ·rintro⟨_,a,b,c⟩;refine⟨a,b,fun m=>c _ ?_⟩;rw[dT];exact⟨k-1,by omega,rfl⟩
 ·rintro⟨a,b,c⟩;refine⟨h,a,b,fun y f=>?_⟩;rw[dT] at f;obtain⟨j,n,rfl⟩:=f;have g:=c (by omega);by_cases e:j=k-1
  ·subst e;exact g
  ·have d:=h.2.2;rw[List.pairwise_iff_getElem] at d;have:=d j (k-1) (by simp;omega) (by simp;omega) (by omega);simp only[en] at this;omega
def D7(l:List Wt)(q:Int):Int:=(l.countP fun x=>decide (x.proc=q):Nat)
def Sk(l:List Wt)(q:Int):D7 l q=0↔∀ y∈l,y.proc≠q:=by
 unfold D7;rw[show ((l.countP (fun x=>decide (x.proc=q)):Nat):Int)=0↔l.countP (fun x=>decide (x.proc=q))=0 by omega,List.countP_eq_zero];simp
def Si(l:List Wt)(q:Int):0≤D7 l q:=by unfold D7;omega
def Sh(l:List Wt)(q:Int):D7 l q≤l.length:=by
 unfold D7;have:=List.countP_le_length (p:=fun x:Wt=>decide (x.proc=q)) (l:=l);omega
def Sj(l:List Wt)(x:Wt):(fun y=>if y=x.proc then D7 l x.proc+1 else D7 l y)=D7 (l++ [x]):=by
 funext y;unfold D7;rw[List.countP_append];by_cases h:y=x.proc
 ·subst h;simp
 ·have:¬x.proc=y:=fun e=>h e.symm
  simp[h,this]
def Ck(l:List Wt):Prop:=∀ x∈l,(dl J x.proc).wf=true
def Li(v:bq)(l:List Wt)(w:br)(h:Al w 0 v l)(ah:Ck l)(hl:l.length≤100000):
  b9 prog 131 #[v] w fun e w'=>e=.returned (.bool (decide (AY l)))∧Bl w w':=by
 obtain⟨ao,t,rfl,aQ,aV,pa⟩:=h.open_;clear h;have aG:=@run_makeMap prog;have N:=HH ah;clear ah;go_enter func131,ntmps131;go_wp2;clear aG
 go_loopg [4,5,9] l.length (fun gg _ _ s9 wr=>∃ k:Nat,k≤l.length∧l.length-k≤gg∧s9=.int J k∧Hq (Bl w wr∧Cs 3 J wr w.heap.size k (D7 (l.take k))∧AY (l.take k)))
 case atStart=>exact⟨0,ch _,by omega,rfl,(bJ _ w).alloc (bH _) _,Cs.made 3 J w,AY.nil⟩
 case round=>
  obtain⟨k,hk,hg,rfl,A⟩:=hrel;by_cases z:k<l.length
  ·have aF:(k:Int)<(l.length:Int):=by omega
   obtain⟨b,ai,rfl,_,E,t⟩:=pa (by omega);obtain⟨Q,c1,c2⟩:=t k z;rw[←A.o.1.cell (p:=⟨b,_,O⟩) E] at Q c1 c2;have R:Hq (0<k→∃ x:k-1<l.length,wr.cell? ⟨b,ai+(k-1)*3+1,O⟩=Z (.int J l[k-1].prio)):=fun u=>⟨by omega,(A.o.1.cell (p:=⟨b,_,O⟩) E).trans (t (k-1) (by omega)).2.1⟩;have az:b<wr.heap.size:=ce E A.o.1.size;clear pa t;have B:(dl J l[k].proc).wf=true:=N.o _ (di z);have s:=HH (XU l k z A.o.2.2);have F:(Cs 3 J (wr.alloc (T #[.int J l[k].proc,.int J l[k].prio,.int U l[k].val] 161)) w.heap.size k (D7 (l.take k))):=A.o.2.1.alloc _;have ae:=F.look underlying267 underlying3 l[k].proc B;have aC:D7 (l.take k) l[k].proc≤100000:=by have:=Sh (l.take k) l[k].proc;simp at this;omega
   have aD:=Si (l.take k) l[k].proc;have K:(dl J (D7 (l.take k) l[k].proc+1)).wf=true:=WalkArith.wf_i64 (by omega);have M:=HH F;clear F;generalize ac:D7 (l.take k) l[k].proc=c at ae aC aD K;have C:=HH ac;clear ac
   -- what is known behind the update
   have aa:Hq (∀ a,Cs 3 J a w.heap.size (k+1) (fun y=>if y=l[k].proc then c+1 else D7 (l.take k) y)→(wr.alloc (T #[.int J l[k].proc,.int J l[k].prio,.int U l[k].val] 161)).grownBy a (Z w.heap.size)→
     a.heap[wr.heap.size]? =Z (T #[.int J l[k].proc,.int J l[k].prio,.int U l[k].val] 161 (0,0))∧(∀ m,(cN 267 (.map (Z w.heap.size)) (.int J l[k].proc) false).run prog (a.drewN m)=.ok (.int J (c+1)) (a.drewN m))∧
     (0<k→∃ x:k-1<l.length,a.cell? ⟨b,ai+(k-1)*3+1,O⟩=Z (.int J l[k-1].prio))∧Bl w a):=by
    intro a r n;have aU:w.heap.size<wr.heap.size:=A.o.2.1.lt;refine⟨(n.block wr.heap.size (by simp) (by simp;omega)).trans (bL wr _),fun m=>?_,fun u=>?_,?_⟩
    ·have:=(r.drewN m).look underlying267 underlying3 l[k].proc B;rwa [if_pos rfl] at this
    ·obtain⟨x,hc⟩:=R.o u;exact⟨x,n.cell (dp _ _ _ az|>.trans hc) (by simp;omega)⟩
    ·exact(A.o.1.alloc A.o.1.size _).grown n (by simp;omega) (by intro j hj;simp at hj;omega)
   have P:Hq (∀ a:br,a.heap[wr.heap.size]? =Z (T #[.int J l[k].proc,.int J l[k].prio,.int U l[k].val] 161 (0,0))→
     a.cell? ⟨wr.heap.size,0,O⟩=Z (.int J l[k].proc)∧a.cell? ⟨wr.heap.size,1,O⟩=Z (.int J l[k].prio)):=fun a S=>
    ⟨by rw[bI a _ _ _ _ _ S];rfl,by rw[bI a _ _ _ _ _ S];rfl⟩
   go_wp2_with (at_mapUpdate;refine ZI rfl _ _ _ 267 rfl underlying267 underlying3 M.o (by unfold cM;omega) l[k].proc (c+1) B K rfl rfl rfl ?_;intro a r n;obtain⟨p1,p2,p3,p4⟩:=aa.o a r n;obtain⟨e0,e1⟩:=P.o a p1;have P3:=HH p3;have d:=HH p4;have an:=HH r;clear r n p1 p3 p4);clear aa P R ae B K M Q c1 c2 N;have ag:Hq (D7 (l.take k) l[k].proc=0↔∀ y∈l.take k,y.proc≠l[k].proc):=Sk _ _;have H:Hq (∀ m,(¬AY (l.take (k+1)))→dJ (.bool false)=.returned (.bool (decide (AY l)))∧Bl w (a.drewN m)):=fun m aH=>
    ⟨A8 (decide_eq_false (fun h=>aH (h.take _))).symm,⟨d.o.os,d.o.tape,d.o.output,d.o.size,d.o.block⟩⟩
   have ad:Hq (∀ m,AY (l.take (k+1))→Bl w (a.drewN m)∧Cs 3 J (a.drewN m) w.heap.size (k+1) (D7 (l.take (k+1)))∧AY (l.take (k+1))):=fun m i=>by
    refine⟨⟨d.o.os,d.o.tape,d.o.output,d.o.size,d.o.block⟩,?_,i⟩;have:=Sj (l.take k) l[k];rw[←cd z,C.o] at this;rw[←this];exact an.o.drewN m
   generalize ab:c+1=D at*;have L:=HH ab;clear ab;by_cases V:1<D
   ·have ar:decide ((1:Int)<D)=true:=decide_eq_true V;refine cy (by kernel_rfl) (by kernel_rfl) ?_
    iterate 25 (first|go_big_quiet_step (fail)|quiet_step (fail))
    refine db ?_;intro _ f;obtain⟨nq,g⟩:=f;subst g;go_wp2;go_ret;refine H.o _ (fun i=>?_);have:=ag.o.2 ((s.o.1 i).2.1);have:=C.o;have:=L.o;omega
   ·have ar:decide ((1:Int)<D)=false:=decide_eq_false V;have aB:Hq (c=0):=by have:=L.o;show c=0;omega
    by_cases W:l[k].proc<0
    ·have au:decide (l[k].proc<0)=true:=decide_eq_true W;refine cy (by kernel_rfl) (by kernel_rfl) ?_
     iterate 25 (first|go_big_quiet_step (fail)|quiet_step (fail))
     refine db ?_;intro _ f;obtain⟨nq,g⟩:=f;subst g;go_wp2;go_ret;refine H.o _ (fun i=>?_);have:=(s.o.1 i).1;omega
    ·have au:decide (l[k].proc<0)=false:=decide_eq_false W;have af:Hq (∀ y∈l.take k,y.proc≠l[k].proc):=ag.o.1 (by rw[C.o];exact aB.o);by_cases q:0<k
     ·have ax:(0:Int)<(k:Int):=by omega
      have av:decide ((0:Int)<(k:Int))=true:=decide_eq_true ax;have aw:decide (0<k)=true:=decide_eq_true q;obtain⟨x,aK⟩:=P3.o q;have aW:((k:Int)-1).toNat=k-1:=by omega
      have aX:IntKind.i64.wrap ((k:Int)-1)=(k:Int)-1:=by rw[dh];omega
      have aN:(0:Int)≤(k:Int)-1:=by omega
      have aO:(1:Int)≤(k:Int):=by omega
      have aP:(k:Int)-1<(l.length:Int):=by omega
      by_cases X:l[k-1].prio<l[k].prio
      ·have ay:decide (l[k-1].prio<l[k].prio)=true:=decide_eq_true X;refine cy (by kernel_rfl) (by kernel_rfl) ?_
       iterate 25 (first|go_big_quiet_step (fail)|quiet_step (fail))
       refine db ?_;intro _ f;obtain⟨nq,g⟩:=f;subst g;go_wp2;go_ret;refine H.o _ (fun i=>?_);have:=(s.o.1 i).2.2 q;omega
      ·have ay:decide (l[k-1].prio<l[k].prio)=false:=decide_eq_false X;refine cy (by kernel_rfl) (by kernel_rfl) ?_
       iterate 25 (first|go_big_quiet_step (fail)|quiet_step (fail))
       refine db ?_;intro _ f;obtain⟨nq,g⟩:=f;subst g;go_wp2
       go_roundg (l.length-(k+1))
       case measure=>omega
       case rel=>
        exact⟨k+1,by omega,by omega,by go_num,ad.o _ (s.o.2 ⟨by omega,af.o,fun _=>by omega⟩)⟩
     ·have av:decide ((0:Int)<(k:Int))=false:=decide_eq_false (by omega);have aw:decide (0<k)=false:=decide_eq_false q;refine cy (by kernel_rfl) (by kernel_rfl) ?_
      iterate 25 (first|go_big_quiet_step (fail)|quiet_step (fail))
      refine db ?_;intro _ f;obtain⟨nq,g⟩:=f;subst g;go_wp2
      go_roundg (l.length-(k+1))
      case measure=>omega
      case rel=>
       exact⟨k+1,by omega,by omega,by go_num,ad.o _ (s.o.2 ⟨by omega,af.o,fun u=>absurd u q⟩)⟩
  ·have aF:¬(k:Int)<(l.length:Int):=by omega
   go_wp2;go_ret;refine⟨A8 (decide_eq_true ?_).symm,A.o.1⟩;have:=A.o.2.2;rwa [cH (by omega)] at this
section
variable {P:ei}
def Jt(w:br)(h A B d:ci)(sz g o c l:Nat)(a:dj)(f z:Nat)(cur:List bq)(t:ci)(b:List bq)
  (y:P.underlying h=Z (.slice d)) (k:(P.info? d).map (·.size)=Z sz)
  (p:w.heap[g]? =Z (T cur.toArray t (0,0))) (s:b.length=er f c*sz)
  (u:∀ j v,b[j]? =Z v→w.cell? (a.add j)=Z v) (n:o+b.length≤cur.length) (m:∀ v∈b,v.oneCell'=true):
  (cX #[h,A] B #[Y (Z ⟨g,o,O⟩) c l,Y (Z a) f z]).run P w=
   .ok (goInt (er f c)) (w.setRow g (splice cur o b).toArray):=by
 have r:=run_loadCells_list (P:=P) w a b u;have x:=eD P g o t b 0 cur.toArray w p (by simpa using n) m;cases e:P.info? d with
 |none=>simp[e] at k
 |some i=>
  have q:i.size=sz:=by simpa[e] using k
  simp[cX,cI y,Builtin.lenOf,Builtin.firstCells,sizeOf,typeInfo,e,q,←s,r,x,splice]
def Y9(w:br)(t c H e:ci)(i:TypeInfo)(z:bq)(k F:cK)(A:P.underlying t=Z (.slice e))(B:P.underlying c=Z (.int F))(r:P.info? e=Z i)(E:i.zero=Z z)
  (R:0<i.size) (b:dj) (n cap m:Nat) (x:Int) (D:x=(m:Int)) (K:0<m) (a:List bq) (l:a.length=n*i.size) (o:∀ j v,a[j]? =Z v→w.cell? (b.add j)=Z v)
  (q:cap<n+m) (L:((n+m:Nat):Int)≤9223372036854775807) (h:(n+m)*i.bytes≤140737488355328):
  (cQ #[t,c] H #[Y (Z b) n cap,I k x]).run P w=.ok (Y (Z ⟨w.heap.size,0,O⟩) (n+m) (dW w (n+m) cap e))
   (w.drew.alloc (T (a++((cl z.cells m).toList++(cl z.cells (dW w (n+m) cap e-(n+m))).toList)).toArray e)):=by
 subst D;have s:¬(n+m≤cap):=by omega
 have C:IntKind.i64.wrap (m:Int)=m:=by rw[dh];omega
 have g:¬(9223372036854775807<((n:Int)+(m:Int))):=by omega
 have M:=growslice_fits q h;have d:¬(281474976710656<Builtin.nextslicecap (n+m) cap*i.bytes):=by omega
 have Q:m*i.bytes≤281474976710656:=by
  have:=Nat.mul_le_mul_right i.bytes (show m≤n+m by omega);omega
 have f:¬(281474976710656<(m:Int)*(i.bytes:Int)):=by
  rw[←Int.natCast_mul];omega
 have u:¬((m:Int)<0):=by omega
 have y:¬(m*i.size=0):=Nat.mul_ne_zero (by omega) (by omega);have N:m≠0:=by omega
 have p:=run_firstCells_some (P:=P) w.drew i.size n b n cap a l (by simpa using o);simp[cQ,cI A,cI B,sizeOf,typeInfo,dS,r,E,asInt,asIntOf,C,s,u,y,g,d,f,p,Question.forced,newRow,dW]
 congr 2
 apply Array.ext';simp
end
def D9(l:List Wt)(i:Nat)(x:Wt):List Wt:=l.take i++x::l.drop i
def VO(l:List Wt)(i:Nat)(x:Wt):cellsW (D9 l i x)=(cellsW l).take (i*3)++(Bv x++(cellsW l).drop (i*3)):=by
 rw[D9,JQ,Gi,Og,Of]
def OX(l:List Wt)(i:Nat)(x:Wt)(a:i≤l.length):(D9 l i x).length=l.length+1:=by
 simp[D9];omega
def Lu:(prog.info? 161).map (·.size)=Z 3:=by
 obtain⟨c,b,_,a,_⟩:=cB Ix;rw[b];simp[a]
def VV(g b n cap i:Nat)(cur:List bq)(x:Wt)(w:br)(hi:i<n)(ap:n+1≤cap)(hn:n≤1000000)(P:cap≤cM)(t:b≠g)
  (r:w.heap[g]? =Z (T cur.toArray 161 (0,0))) (S:cur.length=cap*3) (H:∀ u∈cur.take (n*3),u.oneCell'=true)
  (m:w.heap[b]? =Z (T (Bv x).toArray 161 (0,0))):
  b9 prog 183 #[Y (Z ⟨g,0,O⟩) n cap,I J i,Y (Z ⟨b,0,O⟩) 1 1] w fun e w'=>
   e=.returned (Y (Z ⟨g,0,O⟩) (n+1) cap)∧
   w'.heap[g]? =Z (T (splice (splice cur ((i+1)*3) ((cur.take (n*3)).drop (i*3))) (i*3) (Bv x)).toArray 161 (0,0))∧w.grownBy w' (Z g):=by
 have y:(Bv x).length=3:=rfl;obtain⟨X,B⟩:=ex (Bv x);rw[←B] at m y ⊢;have K:∀ u∈X,u.oneCell'=true:=by subst B;intro u z;simp[Bv] at z;rcases z with rfl|rfl|rfl<;>rfl
 clear B;have ag:cap≤9223372036854775807:=by simpa[cM] using P
 obtain⟨a,q⟩:=ex ((cur.take (n*3)).drop (i*3));have R:a.length=(n-i)*3:=by subst q;simp;omega
 have N:∀ u∈a,u.oneCell'=true:=by subst q;intro u z;exact H u (dY z)
 have Q:∀ j v,a[j]? =Z v→w.cell? ⟨g,i*3+j,O⟩=Z v:=by
  intro j v f;subst q;rw[cT,dc] at f;split at f
  ·rw[bI w g _ _ _ _ r];simpa using f
  ·cases f
 rw[←q];clear q H;have ae:∀ E A,(cR 199 #[Y (Z ⟨b,0,O⟩) 1 1,Y (Z ⟨g,(i+1)*3,O⟩) E A]).run prog w=.ok (.value (.bool false)) w:=fun E A=>by
  rw[run_callFunc_extern func199 (by kernel_rfl) (by kernel_rfl) (by kernel_rfl) (e:=ee #[93,93] #[4]) (by kernel_rfl),
   Lib.run_overlaps_apart w 93 4 161 underlying93 3 sizeOf161 ⟨b,0,O⟩ ⟨g,(i+1)*3,O⟩ 1 1 E A t 161 161 3 (cap*3) (by simp[eB,m,y]) (by simp[eB,r,S]) (by omega) (by simp[b6,m]) (by simp[b6,m])]
  rfl
 have ad:∀ l h F,(cX #[93,93] l #[Y (Z ⟨g,(i+1)*3,O⟩) (n-i) h,Y (Z ⟨g,i*3,O⟩) (n+1-i) F]).run prog w.drew=.ok (goInt (n-i)) (w.drew.setRow g (splice cur ((i+1)*3) a).toArray):=fun l h F=>by
  rw[Jt w.drew _ _ l 161 3 g ((i+1)*3) (n-i) h ⟨g,i*3,O⟩ (n+1-i) F cur _ a underlying93 Lu r (by rw[R];simp only[cV];split<;>omega)
   (fun j v f=>by rw[Cu];exact Q j v f) (by omega) N]
  congr 2
  simp only[cV];split<;>omega
 have s:(w.drew.setRow g (splice cur ((i+1)*3) a).toArray).heap[g]? =Z (T (splice cur ((i+1)*3) a).toArray 161 (0,0)):=dB w.drew g _ _ _ _ r;have D:(w.drew.setRow g (splice cur ((i+1)*3) a).toArray).heap[b]? =Z (T X.toArray 161 (0,0)):=(dx w.drew g b _ t).trans m;have d:w.grownBy (w.drew.setRow g (splice cur ((i+1)*3) a).toArray) (Z g):=⟨rfl,rfl,rfl,by simp[dC],fun k _ C=>dx w.drew g k _ (fun e=>C (by rw[e]))⟩;have aa:(splice cur ((i+1)*3) a).length=cur.length:=cW _ _ _ (by omega);obtain⟨c,M⟩:=ex (w.drew.setRow g (splice cur ((i+1)*3) a).toArray);obtain⟨p,L⟩:=ex (splice cur ((i+1)*3) a);rw[←M] at ad s D d;rw[←L] at s aa ⊢;clear M L;have aj:∀ l h,(cX #[93,93] l #[Y (Z ⟨g,i*3,O⟩) (n+1-i) h,Y (Z ⟨b,0,O⟩) 1 1]).run prog c=.ok (goInt 1) (c.setRow g (splice p (i*3) X).toArray):=fun l h=>by
  rw[Jt c _ _ l 161 3 g (i*3) (n+1-i) h ⟨b,0,O⟩ 1 1 p _ X underlying93 Lu s (by rw[y];simp only[cV];split<;>omega)
   (fun j v f=>by rw[Cu,bI c b _ _ _ _ D];simpa using f) (by omega) K]
  congr 2
  simp only[cV];split<;>omega
 have W:(c.setRow g (splice p (i*3) X).toArray).heap[g]? =Z (T (splice p (i*3) X).toArray 161 (0,0)):=dB c g _ _ _ _ s;have V:w.grownBy (c.setRow g (splice p (i*3) X).toArray) (Z g):=⟨d.os,d.tape,d.output,by simpa[dC] using d.size,fun k C t=>(dx c g k _ (fun e=>t (by rw[e]))).trans (d.block k C t)⟩;obtain⟨HF,HB⟩:=H2 W V;clear W V r m s D d Q N K S R aa y P;have ao:((i:Int)==(n:Int))=false:=by simp;omega
 have am:¬((cap:Int)<(n:Int)+1):=by omega
 have ah:¬(cap=i+1):=by omega
 have ai:¬(cap=i):=by omega
 have aq:((i:Int)+1).toNat=i+1:=by omega
 have ar:IntKind.i64.wrap ((i:Int)+1)=(i:Int)+1:=by rw[dh];omega
 have d:(0:Int)≤(i:Int)+1:=by omega
 have al:i≤n:=by omega
 have af:(i:Int)≤(n:Int)+1:=by omega
 go_enter func183,ntmps183;go_wp2_with (simp only[ae])
 go_region
 go_wp2;go_ret;exact⟨rfl,HF.o,HB.o⟩
def L9(m:Nat):(cl (cL (.agg #[I J 0,I J 0,I U 0])) m).toList.length=m*3:=by
 rw[Array.length_toList,dV];rfl
def VU(g y n cap i:Nat)(cur:List bq)(x:Wt)(w:br)(hi:i<n)(aG:n≤cap)(aH:cap<n+1)(hn:n≤1000000)
  (H:w.heap[g]? =Z (T cur.toArray 161 (0,0))) (aF:cur.length=cap*3) (h1:∀ u∈cur.take (n*3),u.oneCell'=true)
  (N:w.heap[y]? =Z (T (Bv x).toArray 161 (0,0))):
  b9 prog 183 #[Y (Z ⟨g,0,O⟩) n cap,I J i,Y (Z ⟨y,0,O⟩) 1 1] w fun e w'=>
   ∃ (Q:Nat) (R:List bq),e=.returned (Y (Z ⟨w.heap.size,0,O⟩) (n+1) Q)∧n+1≤Q∧Q≤cM∧R.length=Q*3∧R.take ((n+1)*3)=cur.take (i*3)++(Bv x++(cur.take (n*3)).drop (i*3))∧
   w'.heap[w.heap.size]? =Z (T R.toArray 161 (0,0))∧w.grownBy w' O:=by
 obtain rfl:n=cap:=by omega
 clear aG aH;have aQ:g<w.heap.size:=(cg.1 H).1;have aW:y<w.heap.size:=(cg.1 N).1;have D:(Bv x).length=3:=rfl;obtain⟨X,hX⟩:=ex (Bv x);rw[←hX] at N D ⊢;have ah:∀ u∈X,u.oneCell'=true:=by subst hX;intro u M;simp[Bv] at M;rcases M with rfl|rfl|rfl<;>rfl
 clear hX;obtain⟨i0,ar,av,aw,ax⟩:=cB Ix;obtain⟨b,hA1⟩:=ex (cur.take (i*3));have z:b.length=i*3:=by subst hA1;simp;omega
 have ai:∀ j v,b[j]? =Z v→w.cell? ⟨g,0+j,O⟩=Z v:=by
  intro j v a;subst hA1;rw[dc] at a;split at a
  ·rw[bI w g _ _ _ _ H];simpa using a
  ·cases a
 obtain⟨c,hA2⟩:=ex ((cur.take (n*3)).drop (i*3));have S:c.length=(n-i)*3:=by subst hA2;simp;omega
 have hA21:∀ u∈c,u.oneCell'=true:=by subst hA2;intro u M;exact h1 u (dY M)
 have aj:∀ j v,c[j]? =Z v→w.cell? ⟨g,i*3+j,O⟩=Z v:=by
  intro j v a;subst hA2;rw[cT,dc] at a;split at a
  ·rw[bI w g _ _ _ _ H];simpa using a
  ·cases a
 rw[←hA1,←hA2];clear hA1 hA2 h1;have A:=fun p=>Y9 (P:=prog) w 93 3 p 161 i0 _ J J underlying93 underlying3 ar av (by omega) ⟨g,0,O⟩ i n (n+1-i) ((n:Int)+1-(i:Int)) (by omega) (by omega) b (by rw[aw];exact z) (fun j v a=>by rw[Cu];exact ai j v a) (by omega) (by omega) (by rw[ax];omega);have L:=grownCap_ge w (i+(n+1-i)) n 161;have ac:=eA w (i+(n+1-i)) n 161 (by unfold cM;omega);generalize dW w (i+(n+1-i)) n 161=m at A L ac;have ay:=L9 (n+1-i);have az:=L9 (m-(i+(n+1-i)));obtain⟨h,hZ⟩:=ex ((cl (cL (.agg #[I J 0,I J 0,I U 0])) (n+1-i)).toList++(cl (cL (.agg #[I J 0,I J 0,I U 0])) (m-(i+(n+1-i)))).toList);rw[←hZ] at A;have am:h.length=(m-i)*3:=by rw[hZ,b0,ay,az];omega
 clear hZ ay az;have e1:i+(n+1-i)=n+1:=by omega
 rw[e1] at A L;obtain⟨d,F⟩:=ex (w.drew.alloc (T (b++h).toArray 161));have K:d.heap[w.heap.size]? =Z (T (b++h).toArray 161 (0,0)):=by subst F;exact bL w.drew _
 have t:w.grownBy d O:=by subst F;exact⟨rfl,rfl,rfl,by simp,fun k C _=>b4 w.drew _ k C⟩
 rw[←F] at A;clear F;have ak:(b++h).length=m*3:=by rw[b0,z,am];omega
 obtain⟨f,V⟩:=ex (b++h);rw[←V] at K ak
 -- the first copy
 have aE:∀ p s,(cX #[93,93] p #[Y (Z ⟨w.heap.size,i*3,O⟩) (n+1-i) s,Y (Z ⟨y,0,O⟩) 1 1]).run prog d=.ok (goInt ((1:Nat):Int)) (d.setRow w.heap.size (splice f (i*3) X).toArray):=fun p s=>by
  rw[Jt d _ _ p 161 3 w.heap.size (i*3) (n+1-i) s ⟨y,0,O⟩ 1 1 f _ X underlying93 Lu K (by rw[D];simp only[cV];split<;>omega)
   (fun j v a=>by rw[Cu,t.cell (by rw[bI w y _ _ _ _ N];simpa using a) (by simp)]) (by omega) ah,show er 1 (n+1-i)=1 by simp only[cV];split<;>omega]
 have B:(d.setRow w.heap.size (splice f (i*3) X).toArray).heap[w.heap.size]? =Z (T (splice f (i*3) X).toArray 161 (0,0)):=dB d _ _ _ _ _ K;have l:w.grownBy (d.setRow w.heap.size (splice f (i*3) X).toArray) O:=⟨t.os,t.tape,t.output,by simpa[dC] using t.size,fun k C ad=>(dx d _ k _ (by omega)).trans (t.block k C ad)⟩;have au:(splice f (i*3) X).length=f.length:=cW _ _ _ (by omega);obtain⟨r,al⟩:=ex (d.setRow w.heap.size (splice f (i*3) X).toArray);obtain⟨q,W⟩:=ex (splice f (i*3) X);rw[←al] at aE B l;rw[←W] at B au;clear al;have aP:∀ p s sc,(cX #[93,93] p #[Y (Z ⟨w.heap.size,(i+1)*3,O⟩) (n-i) s,Y (Z ⟨g,i*3,O⟩) (n-i) sc]).run prog r.drew=.ok (goInt ((n-i:Nat):Int)) (r.drew.setRow w.heap.size (splice q ((i+1)*3) c).toArray):=fun p s sc=>by
  rw[Jt r.drew _ _ p 161 3 w.heap.size ((i+1)*3) (n-i) s ⟨g,i*3,O⟩ (n-i) sc q _ c underlying93 Lu B (by rw[S];simp only[cV];split<;>omega)
   (fun j v a=>by rw[Cu];exact l.cell (aj j v a) (by simp)) (by omega) hA21,show er (n-i) (n-i)=n-i by simp only[cV];split<;>omega]
 have aq:(r.drew.setRow w.heap.size (splice q ((i+1)*3) c).toArray).heap[w.heap.size]? =Z (T (splice q ((i+1)*3) c).toArray 161 (0,0)):=dB r.drew _ _ _ _ _ B;have an:w.grownBy (r.drew.setRow w.heap.size (splice q ((i+1)*3) c).toArray) O:=⟨l.os,l.tape,l.output,by simpa[dC] using l.size,fun k C ad=>(dx r.drew _ k _ (by omega)).trans (l.block k C ad)⟩;have ao:(splice q ((i+1)*3) c).length=m*3:=by rw[cW _ _ _ (by omega)];omega
 have ap:(splice q ((i+1)*3) c).take ((n+1)*3)=b++(X++c):=by
  subst W V;have e2:splice (b++h) (i*3) X=b++(X++h.drop 3):=by
   unfold splice;rw[←z,dv,List.drop_append,D];simp
  rw[e2];have e3:(b++(X++h.drop 3))=(b++X)++h.drop 3:=by simp
  have e4:(i+1)*3=(b++X).length:=by rw[b0,z,D];omega
  unfold splice;rw[e3,e4,dv];have e5:(n+1)*3=((b++X)++c).length:=by rw[b0,←e4,S];omega
  rw[←eo,e5,dv,eo]
 have E:=HH (cz L (cz ac (cz ao (cz ap (cz aq an)))));clear L ac ao ap aq an H N K B t l ai aj hA21 ah aF au D z S am ak V W ar av aw ax;have aU:((i:Int)==(n:Int))=false:=by simp;omega
 have aM:¬(n=i):=by omega
 have aN:¬(m=i):=by have:=E.o.1;omega
 have aO:¬(m=i+1):=by have:=E.o.1;omega
 have aL:n+1≤m:=E.o.1;have aV:((i:Int)+1).toNat=i+1:=by omega
 have aX:IntKind.i64.wrap ((i:Int)+1)=(i:Int)+1:=by rw[dh];omega
 have l:(0:Int)≤(i:Int)+1:=by omega
 have aS:i≤n:=by omega
 have aJ:(i:Int)≤(n:Int)+1:=by omega
 have aK:(i:Int)≤(n:Int):=by omega
 go_enter func183,ntmps183;go_wp2_with (at_builtin;refine dr _ rfl _ _ 93 3 rfl _ _ rfl rfl _ _ (A _) ?_)
 go_region
 go_wp2;go_ret;exact⟨m,_,rfl,E.o⟩
def VT(base:Nat)(v:bq)(l:List Wt)(a:Nat)(x:Wt)(w:br)(c:w.ownsRow base 161 3 v l.length (cellsW l))(r:base≤w.heap.size)(E:l.length≤1000000)
  (k:w.heap[a]? =Z (T (Bv x).toArray 161 (0,0))):
  b9 prog 183 #[v,I J l.length,Y (Z ⟨a,0,O⟩) 1 1] w fun e w'=>
   ∃ d,e=.returned d∧w'.ownsRow base 161 3 d (l.length+1) (cellsW l++Bv x)∧w.grownBy w' v.ownBlock:=by
 obtain⟨B,s,y,z,A⟩:=cB Ix;have t:∃ f cap,v=Y f l.length cap∧l.length≤cap:=by
  rcases c.2 with ⟨rfl,q⟩|⟨g,cap,cur,rfl,_,_,i,_⟩
  ·exact⟨O,0,by rw[q],by omega⟩
  ·exact⟨_,_,rfl,i⟩
 obtain⟨f,cap,rfl,i⟩:=t;have h:cap=l.length∨¬cap=l.length:=by omega
 have n:=HH c;have p:Hq (∀ j u,(Bv x)[j]? =Z u→w.cell? ((⟨a,0,O⟩:dj).add j)=Z u):=fun j u b=>by
  rw[Cu,bI w a _ _ _ _ k];simpa using b
 have m:Hq (∀ u∈Bv x,u.oneCell'=true):=by intro u b;simp[Bv] at b;rcases b with rfl|rfl|rfl<;>rfl
 clear c k;have D:(l.length:Int)≤(l.length:Int):=Int.le_refl _;rcases h with rfl|h
 all_goals
  go_enter func183,ntmps183;go_wp2_with (at_builtin;refine cD _ rfl _ _ 93 rfl base 161 B (.agg #[I J 0,I J 0,I U 0]) 3 24 underlying93 s y z A rfl (by decide) _ _ _ rfl n.o ⟨a,0,O⟩ 1 1 (Bv x) rfl rfl p.o m.o (by unfold cM;omega) (by omega) r ?_;intro d H F C _);go_ret;exact⟨_,rfl,by assumption,by assumption⟩
def YP(C D X:List bq)(i n:Nat)(e:X.length=3)(d:D.length=(n-i)*3)(h:(n+1)*3≤C.length)(g:i≤n):
  (splice (splice C ((i+1)*3) D) (i*3) X).take ((n+1)*3)=C.take (i*3)++(X++D):=by
 have f:(C.take ((i+1)*3)).length=(i+1)*3:=by rw[cP];omega
 have a:(splice C ((i+1)*3) D).take (i*3)=C.take (i*3):=by
  unfold splice;rw[da (by omega),du,dO (by omega)]
 have b:(splice C ((i+1)*3) D).drop (i*3+X.length)=D++C.drop ((i+1)*3+D.length):=by
  unfold splice;rw[show i*3+X.length=(C.take ((i+1)*3)).length by omega,List.drop_left]
 have c:splice (splice C ((i+1)*3) D) (i*3) X=C.take (i*3)++(X++D)++C.drop ((i+1)*3+D.length):=by
  rw[splice,a,b];simp
 rw[c,show(n+1)*3=(C.take (i*3)++(X++D)).length by rw[b0,b0,d,e,cP];omega,dv]
def VS(base:Nat)(v:bq)(l:List Wt)(c i:Nat)(x:Wt)(w:br)(B:w.ownsRow base 161 3 v l.length (cellsW l))(s:base≤w.heap.size)(o:l.length≤1000000)(n:i≤l.length)
  (p:w.heap[c]? =Z (T (Bv x).toArray 161 (0,0))) (P:v.ownBlock≠Z c):
  b9 prog 183 #[v,I J i,Y (Z ⟨c,0,O⟩) 1 1] w fun e w'=>
   ∃ h,e=.returned h∧w'.ownsRow base 161 3 h (D9 l i x).length (cellsW (D9 l i x))∧w.grownBy w' v.ownBlock:=by
 rw[OX l i x n];by_cases K:i=l.length
 ·subst K;refine(VT base v l c x w B s o p).mono ?_;rintro e w' ⟨h,rfl,Q,d⟩;refine⟨h,rfl,?_,d⟩;have:cellsW (D9 l l.length x)=cellsW l++Bv x:=by simp[D9,JQ,Gi,JR]
  rw[this];exact Q
 ·rcases B.2 with ⟨rfl,X⟩|⟨g,cap,cur,rfl,E,d,N,t,f,b⟩
  ·omega
  ·have q:∀ u∈cur.toList.take (l.length*3),u.oneCell'=true:=by rw[b];exact MN l
   have ab:g<w.heap.size:=(cg.1 d).1;have V:(Bv x).length=3:=rfl;have j:=DI l;have A:=VO l i x;have y:=OX l i x n;have z:=DI (D9 l i x);by_cases C:l.length+1≤cap
   ·refine(VV g c l.length cap i cur.toList x w (by omega) C o t (fun e=>P (by simp[cF,e])) (by simpa using d) (by simpa using f) q p).mono ?_;rintro e w' ⟨rfl,m,a⟩;refine⟨_,rfl,⟨by rw[z,y],.inr ⟨g,cap,_,rfl,E,m,C,t,?_,?_⟩⟩,a⟩
    ·rw[b];simp only[em];rw[cW _ _ _ (by rw[cW _ _ _ (by simp[j];omega)];simp;omega),cW _ _ _ (by simp[j];omega)];simpa using f
    ·rw[b,A];have aa:cur.toList.length=cap*3:=by simpa using f
     have F:((cellsW l).drop (i*3)).length=(l.length-i)*3:=by rw[ew,j];omega
     have S:cur.toList.take (i*3)=(cellsW l).take (i*3):=by rw[←b,du,dO (by omega)]
     have:=YP cur.toList ((cellsW l).drop (i*3)) (Bv x) i l.length V F (by omega) n;rw[S] at this;exact this
   ·refine(VU g c l.length cap i cur.toList x w (by omega) N (by omega) o (by simpa using d) (by simpa using f) q p).mono ?_;rintro e w' ⟨W,R,rfl,H,M,D,r,m,a⟩;refine⟨_,rfl,⟨by rw[z,y],.inr ⟨w.heap.size,W,_,rfl,s,m,H,M,by simpa using D,?_⟩⟩,⟨a.os,a.tape,a.output,a.size,fun k L _=>a.block k L (by simp)⟩⟩;rw[b] at r;show R.take _=_;rw[r,A,←b,du,dO (by omega)]
def Cl(l:List Wt)(x:Wt):List Wt:=D9 l (l.findIdx fun y=>decide (y.prio<x.prio)) x
def TJ(x:Wt)(g:Nat)(p:Int)(w W:br)(c:w.cell? ⟨g,1,O⟩=Z (I J p))(d:g<w.heap.size)(a:Bl w W):
  b9 prog 182 #[.agg #[I J x.proc,I J x.prio,I U x.val],G (Z ⟨g,0,O⟩)] W fun e w'=>e=.returned (.bool (decide (x.prio<p)))∧Bl w w':=by
 have f:W.cell? ⟨g,1,O⟩=Z (I J p):=(a.cell (p:=⟨g,1,O⟩) d).trans c;have h:g<W.heap.size:=ce d a.size;have b:=HH a;clear a c;go_enter func182,ntmps182;go_wp2;go_ret;exact⟨rfl,b.o.alloc b.o.size _⟩
def Cx{w:br}{base a:Nat}{e:ci}{b:Nat}{v:bq}{n:Nat}{c:List bq}(h:w.ownsRow base e b v n c)(i:a≤base):w.ownsRow a e b v n c:=by
 refine⟨h.1,?_⟩;rcases h.2 with d|⟨g,cap,cur,f,j,r⟩
 ·exact .inl d
 ·exact .inr ⟨g,cap,cur,f,by omega,r⟩
def OY(w W:br)(v:bq)(l:List Wt)(x:Wt)(k a base:Nat)(f:W.ownsRow base 161 3 v l.length (cellsW l))(d:w.heap.size≤base)(h:base≤W.heap.size)
  (p:W.heap[a]? =Z (T (Bv x).toArray 161 (0,0))) (n:∀ g,v.ownBlock=Z g→g≠a) (c:Bl w W) (q:l.length≤100000) (m:k≤l.length):
  b9 prog 183 #[v,I J k,Y (Z ⟨a,0,O⟩) 1 1] W fun e w'=>
   ∃ b,e=.returned b∧w'.ownsRow w.heap.size 161 3 b (D9 l k x).length (cellsW (D9 l k x))∧Bl w w':=by
 refine(VS base v l a k x W f h (by omega) m p (fun e=>n a e rfl)).mono ?_;rintro e w' ⟨b,rfl,o,i⟩;exact⟨b,rfl,Cx o d,c.grown i c.size (fun g j=>cC d (f.lt g j).1)⟩
def Q6(w b a:br)(v:bq)(l:List Wt)(x:Wt)(k:Nat)(j:Bl w b)(h:w.heap.size≤b.heap.size)(d:Hq (a.ownsRow b.heap.size 161 3 v l.length (cellsW l)))(c:Hq (Bl b a))
  (p:l.length≤100000) (n:k≤l.length):
  b9 prog 183 #[v,I J k,Y (Z ⟨a.heap.size,0,O⟩) 1 1] (a.alloc (T #[I J x.proc,I J x.prio,I U x.val] 161)) fun e w'=>
   ∃ i,e=.returned i∧w'.ownsRow w.heap.size 161 3 i (D9 l k x).length (cellsW (D9 l k x))∧Bl w w':=
 have f:=j.trans (c.o.mono h)
 OY w _ v l x k a.heap.size b.heap.size (d.o.alloc _) h (cC c.o.size (by simp)) (bL a _) (fun g m=>dF (d.o.lt g m).2) (f.alloc f.size _) p n
def Q7(w a d:br)(v:bq)(l:List Wt)(x:Wt)(k b:Nat)(j:Bl w a)(h:w.heap.size≤a.heap.size)(r:b<a.heap.size)(q:a.heap[b]? =Z (T (Bv x).toArray 161 (0,0)))
  (f:Hq (d.ownsRow a.heap.size 161 3 v l.length (cellsW l))) (c:Hq (Bl a d))
  (p:l.length≤100000) (n:k≤l.length):
  b9 prog 183 #[v,I J k,Y (Z ⟨b,0,O⟩) 1 1] d fun e w'=>
   ∃ i,e=.returned i∧w'.ownsRow w.heap.size 161 3 i (D9 l k x).length (cellsW (D9 l k x))∧Bl w w':=
 OY w _ v l x k b a.heap.size f.o h c.o.size ((c.o.block b r).trans q) (fun g m=>by have:=(f.o.lt g m).1;omega) (j.trans (c.o.mono h)) p n
def II(w:br)(l:List Wt)(e:cO)(w':br):Prop:=
 ∃ a,e=.returned a∧w'.ownsRow w.heap.size 161 3 a l.length (cellsW l)∧Bl w w'
def JV(v:bq)(l:List Wt)(x:Wt)(w:br)(h:Al w 0 v l)(S:l.length≤100000):
  b9 prog 149 #[v,.agg #[I J x.proc,I J x.prio,I U x.val]] w fun e w'=>
   II w (Cl l x) e w':=by
 obtain⟨ao,cap,rfl,an,ap,_⟩:=h.open_;obtain⟨j,C⟩:=ex (w.alloc (T #[I J x.proc,I J x.prio,I U x.val] 161));have hz:j.heap.size=w.heap.size+1:=by subst C;simp
 have X:j.heap[w.heap.size]? =Z (T (Bv x).toArray 161 (0,0)):=by subst C;exact bL w _
 have aa:Bl w j:=by subst C;exact(bJ _ _).alloc (bH _) _
 have ae:j.cell? ⟨w.heap.size,1,O⟩=Z (I J x.prio):=by rw[bI j _ _ _ _ _ X];rfl
 have V:Al j 0 (Y ao l.length cap) l:=h.below aa;have af:IJ 182 #[G (Z ⟨w.heap.size,0,O⟩)] (fun y=>decide (y.prio<x.prio)) j:=fun W y hW=>TJ y w.heap.size x.prio j W ae (by omega) hW;obtain⟨E,L,M,P⟩:=H4 (KV (Y ao l.length cap) l 182 #[G (Z ⟨w.heap.size,0,O⟩)] _ (Gn func182 (by kernel_rfl) rfl) j V (by omega) af) V aa X;clear h af V aa X ae;have D:l.findIdx (fun y=>decide (y.prio<x.prio))≤l.length:=List.findIdx_le_length;have Q:Hq (DL (fun y=>decide (y.prio<x.prio)) l=if l.findIdx (fun y=>decide (y.prio<x.prio))<l.length then((l.findIdx (fun y=>decide (y.prio<x.prio)):Nat):Int) else-1):=rfl;unfold Cl;generalize l.findIdx (fun y=>decide (y.prio<x.prio))=k at D Q ⊢;generalize DL (fun y=>decide (y.prio<x.prio)) l=q at E Q
 -- the two ways to the place
 have hq:(q<0∧k=l.length)∨(q=(k:Int)∧k<l.length):=by
  have:=Q.o;by_cases R:k<l.length
  ·rw[if_pos R] at this;exact .inr ⟨this,R⟩
  ·rw[if_neg R] at this;exact .inl ⟨by omega,by omega⟩
 clear Q;have N:=HH C;clear C;have r:w.heap.size<j.heap.size:=by omega
 rcases hq with ⟨aq,rfl⟩|⟨rfl,R⟩
 ·go_enter func149,ntmps149;go_wp2_with fail;rw[←N.o];refine E.o.mono ?_;rintro e a ⟨rfl,b⟩;obtain⟨B,A⟩:=H2 (L.o.below b) (M.o.trans (b.mono (by omega)));have n:Hq (a.heap[w.heap.size]? =Z (T (Bv x).toArray 161 (0,0))):=(b.block _ r).trans P.o;have c0:a.cell? ⟨w.heap.size,0,O⟩=Z (I J x.proc):=by rw[bI a _ _ _ _ _ n.o];rfl
  have c1:a.cell? ⟨w.heap.size,1,O⟩=Z (I J x.prio):=by rw[bI a _ _ _ _ _ n.o];rfl
  have c2:a.cell? ⟨w.heap.size,2,O⟩=Z (I U x.val):=by rw[bI a _ _ _ _ _ n.o];rfl
  have g:w.heap.size<a.heap.size:=ce r b.size;have H:Hq (Bl w a.drew∧w.heap.size≤a.drew.heap.size):=⟨A.o.drew,dG g⟩;have m:Hq (Bl w (a.alloc (T #[I J x.proc,I J x.prio,I U x.val] 161)).drew∧w.heap.size≤(a.alloc (T #[I J x.proc,I J x.prio,I U x.val] 161)).drew.heap.size∧a.heap.size<(a.alloc (T #[I J x.proc,I J x.prio,I U x.val] 161)).drew.heap.size∧
    (a.alloc (T #[I J x.proc,I J x.prio,I U x.val] 161)).drew.heap[a.heap.size]? =Z (T (Bv x).toArray 161 (0,0))):=⟨(A.o.alloc (dG g) _).drew,(by simp;omega),(by simp),bL a _⟩
  clear b E L M P N hz r;go_wp2_with fail
  go_region_with (first
   |(go_at_call 112;refine(GK _ l _ (by first|exact B.o.drew|exact B.o.drew.alloc _) (by omega)).mono ?_;rintro e i ⟨K,rfl,F,c⟩;have u:=HH F;have s:=HH c;have e0:i.cell? ⟨w.heap.size,0,O⟩=Z (I J x.proc):=(c.cell (p:=⟨w.heap.size,0,O⟩) (by first|exact g|(simp;omega))).trans (by go_simp);have e1:i.cell? ⟨w.heap.size,1,O⟩=Z (I J x.prio):=(c.cell (p:=⟨w.heap.size,1,O⟩) (by first|exact g|(simp;omega))).trans (by go_simp);have e2:i.cell? ⟨w.heap.size,2,O⟩=Z (I U x.val):=(c.cell (p:=⟨w.heap.size,2,O⟩) (by first|exact g|(simp;omega))).trans (by go_simp);clear F c)
   |(go_at_call 183;with_reducible refine(Q6 w a.drew i K l x l.length H.o.1 H.o.2 u s S D).mono ?_;rintro e w3 ⟨v3,rfl,f,d⟩;have z:=HH f;have t:=HH d;clear f d)
   |(go_at_call 183;with_reducible refine(Q7 w (a.alloc (T #[I J x.proc,I J x.prio,I U x.val] 161)).drew i K l x l.length a.heap.size m.o.1 m.o.2.1 m.o.2.2.1 m.o.2.2.2 u s S D).mono ?_;rintro e w3 ⟨v3,rfl,f,d⟩;have z:=HH f;have t:=HH d;clear f d))
  all_goals
   go_wp2;go_ret;exact⟨_,rfl,z.o,t.o⟩
 ·go_enter func149,ntmps149;go_wp2_with fail;rw[←N.o];refine E.o.mono ?_;rintro e a ⟨rfl,b⟩;obtain⟨B,A⟩:=H2 (L.o.below b) (M.o.trans (b.mono (by omega)));have n:Hq (a.heap[w.heap.size]? =Z (T (Bv x).toArray 161 (0,0))):=(b.block _ r).trans P.o;have c0:a.cell? ⟨w.heap.size,0,O⟩=Z (I J x.proc):=by rw[bI a _ _ _ _ _ n.o];rfl
  have c1:a.cell? ⟨w.heap.size,1,O⟩=Z (I J x.prio):=by rw[bI a _ _ _ _ _ n.o];rfl
  have c2:a.cell? ⟨w.heap.size,2,O⟩=Z (I U x.val):=by rw[bI a _ _ _ _ _ n.o];rfl
  have g:w.heap.size<a.heap.size:=ce r b.size;have H:Hq (Bl w a.drew∧w.heap.size≤a.drew.heap.size):=⟨A.o.drew,dG g⟩;have m:Hq (Bl w (a.alloc (T #[I J x.proc,I J x.prio,I U x.val] 161)).drew∧w.heap.size≤(a.alloc (T #[I J x.proc,I J x.prio,I U x.val] 161)).drew.heap.size∧a.heap.size<(a.alloc (T #[I J x.proc,I J x.prio,I U x.val] 161)).drew.heap.size∧
    (a.alloc (T #[I J x.proc,I J x.prio,I U x.val] 161)).drew.heap[a.heap.size]? =Z (T (Bv x).toArray 161 (0,0))):=⟨(A.o.alloc (dG g) _).drew,(by simp;omega),(by simp),bL a _⟩
  clear b E L M P N hz r;go_wp2_with fail
  go_region_with (first
   |(go_at_call 112;refine(GK _ l _ (by first|exact B.o.drew|exact B.o.drew.alloc _) (by omega)).mono ?_;rintro e i ⟨K,rfl,F,c⟩;have u:=HH F;have s:=HH c;have e0:i.cell? ⟨w.heap.size,0,O⟩=Z (I J x.proc):=(c.cell (p:=⟨w.heap.size,0,O⟩) (by first|exact g|(simp;omega))).trans (by go_simp);have e1:i.cell? ⟨w.heap.size,1,O⟩=Z (I J x.prio):=(c.cell (p:=⟨w.heap.size,1,O⟩) (by first|exact g|(simp;omega))).trans (by go_simp);have e2:i.cell? ⟨w.heap.size,2,O⟩=Z (I U x.val):=(c.cell (p:=⟨w.heap.size,2,O⟩) (by first|exact g|(simp;omega))).trans (by go_simp);clear F c)
   |(go_at_call 183;with_reducible refine(Q6 w a.drew i K l x k H.o.1 H.o.2 u s S D).mono ?_;rintro e w3 ⟨v3,rfl,f,d⟩;have z:=HH f;have t:=HH d;clear f d)
   |(go_at_call 183;with_reducible refine(Q7 w (a.alloc (T #[I J x.proc,I J x.prio,I U x.val] 161)).drew i K l x k a.heap.size m.o.1 m.o.2.1 m.o.2.2.1 m.o.2.2.2 u s S D).mono ?_;rintro e w3 ⟨v3,rfl,f,d⟩;have z:=HH f;have t:=HH d;clear f d))
  all_goals
   go_wp2;go_ret;exact⟨_,rfl,z.o,t.o⟩
def K7(g:Nat)(a:Array bq)(p:Wt→Bool)(B:Nat)(w:br):Prop:=
 ∀ (W:br) (x:Wt),df B w W→b9 prog g (#[.agg #[I J x.proc,I J x.prio,I U x.val]]++a) W fun e w'=>e=.returned (.bool (p x))∧Bl W w'
def K7.PS{g:Nat}{b:Array bq}{p:Wt→Bool}{B:Nat}{w:br}(h:K7 g b p B w)(c:B≤w.heap.size):IJ g b p w:=fun W x a=>
 (h W x (a.mono c)).mono fun _ _ ⟨e,d⟩=>⟨e,a.trans (d.mono a.size)⟩
def RW(R:List Wt)(S:List bq)(i:Nat)(x:Wt)(a:i<R.length):
  ((((cellsW R++S).toArray.setIfInBounds (i*3) (I J x.proc)).setIfInBounds (i*3+1) (I J x.prio)).setIfInBounds (i*3+2) (I U x.val))=(cellsW (R.set i x)++S).toArray:=by
 have b:R=R.take i++R[i]::R.drop (i+1):=by rw[←dU a,dm]
 have c:R.set i x=R.take i++x::R.drop (i+1):=by
  rw[List.set_eq_take_append_cons_drop,if_pos a]
 have d:(cellsW (R.take i)).length=i*3:=by rw[DI,cP];omega
 rw[c]
 conv=>lhs;rw[b]
 rw[JQ,Gi,JQ,Gi];generalize cellsW (R.take i)=A at*;generalize cellsW (R.drop (i+1))=D;simp only[List.setIfInBounds_toArray,Bv]
 congr 1
 rw[←d];simp
def YB(w:br)(p:ci)(g o n c:Nat)(cur:List bq)(h:w.heap[g]? =Z (T cur.toArray 161 (0,0)))(q:0<n)(f:o+n*3≤cur.length):
  ∃ a:List bq,a.length=n*3∧(ep #[93] p #[Y (Z ⟨g,o,O⟩) n c]).run prog w=.ok (.tuple #[]) (w.setRow g (splice cur o a).toArray):=by
 obtain⟨t,i,l,r,s⟩:=cB Ix;refine⟨(cl (cL (.agg #[I J 0,I J 0,I U 0])) n).toList,L9 n,?_⟩;have k:=L9 n;have e:∀ v∈(cl (cL (.agg #[I J 0,I J 0,I U 0])) n).toList,v.oneCell'=true:=by
  intro v d;simp only[cl,Array.toList_map,eG] at d;obtain⟨j,_,rfl⟩:=d;have:j%(cL (.agg #[I J 0,I J 0,I U 0])).size<3:=Nat.mod_lt _ (by decide);generalize j%(cL (.agg #[I J 0,I J 0,I U 0])).size=m at this
  match m,this with
  |0,_=>rfl
  |1,_=>rfl
  |2,_=>rfl
 have b:=eD prog g o 161 _ 0 cur.toArray w h (by rw[k];simpa using f) e;cases n with
 |zero=>omega
 |succ n=>
  simp only[dH] at b;simp[ep,cI underlying93,dS,typeInfo,i,l,b,splice]
def QW(B b cap a:Nat)(m:List Wt)(w:br)(e:cO)(w':br):Prop:=
 ∃ R:List bq,e=.returned (Y (Z ⟨b,0,O⟩) m.length cap)∧w'.heap[b]? =Z (T R.toArray 161 (0,0))∧R.length=a∧R.take (m.length*3)=cellsW m∧df B w w'
def S3(g lb)(p:Wt→Bool)(eg:∀ args w,(cR g args).run prog w=.ok (.enter g args) w)(b cap B:Nat)(l:List Wt)(S:List bq)(w:br)
  (N:w.heap[b]? =Z (T (cellsW l++S).toArray 161 (0,0))) (L:B≤b) (F:B≤w.heap.size) (aL:l.length≤cap) (hl:l.length≤100000) (hp:K7 g lb p B w) (al:l.any p=true):
  b9 prog 111 #[Y (Z ⟨b,0,O⟩) l.length cap,.func (.func g) #[] lb] w fun e w'=>
   QW B b cap (cellsW l++S).length (l.filter (fun x=>!p x)) w e w':=by
 have ao:b<w.heap.size:=(cg.1 N).1;have az:Al w 0 (Y (Z ⟨b,0,O⟩) l.length cap) l:=by
  refine⟨_,cap,rfl,aL,(by intro h;cases h),DI l,fun _=>⟨b,0,rfl,ch _,ao,fun j u P=>?_⟩⟩;rw[bI w b _ _ _ _ N];have C:=(ck.1 P).1;simp only[eI,dn];rw[cA C];exact P
 have ac:=HH (KV _ l g lb p eg w az (by omega) (hp.PS F));obtain⟨k,hk,af,ab⟩:∃ k,∃ hk:k<l.length,p l[k]=true∧∀ j (_:j<k) (av:j<l.length),p l[j]=false:=by
  refine⟨l.findIdx p,?_,?_,?_⟩
  ·rw[dk];simpa using al
  ·exact List.findIdx_getElem
  ·intro j C av;simpa using List.not_of_lt_findIdx C
 have hf:DL p l=(k:Int):=JY p l k hk af ab;rw[hf] at ac;clear hf al az;obtain⟨HP,HG⟩:=H2 hp N;have HK:Hq (p l[k]=true∧∀ j (_:j<k) (av:j<l.length),p l[j]=false):=⟨af,ab⟩;clear hp N af ab;have a0:((k:Int)==-1)=false:=by simp
 go_enter func111,ntmps111;go_wp2_with fail;refine ac.o.mono ?_;rintro e w1 ⟨rfl,am⟩;have ah:=HH am;clear am ac;go_wp2_with fail
 go_loopg [5,6,7] l.length (fun gg s5 s6 _ wr=>∃ (i j:Nat) (R:List Wt),s5=I J i∧s6=I J j∧j≤l.length∧i<j∧l.length-j≤gg∧
  Hq (wr.heap[b]? =Z (T (cellsW R++S).toArray 161 (0,0))∧R.length=l.length∧R.take i=(l.take j).filter (fun x=>!p x)∧R.drop j=l.drop j∧df B w wr))
 case atStart=>
  refine⟨k,k+1,l,rfl,by go_num,by omega,by omega,by omega,(ah.o.block b ao).trans HG.o,rfl,?_,rfl,ah.o.mono F⟩;rw[cd hk,dz];have h0:[l[k]].filter (fun x=>!p x)=[]:=by simp[HK.o.1]
  rw[h0,List.append_nil,eq_comm,ed];intro a ha;obtain⟨j,C,rfl⟩:=eb ha;rw[en];simp only[cP] at C;simp[HK.o.2 j (by omega) (by omega)]
 case round=>
  obtain⟨i,j,R,rfl,rfl,C,aX,aW,A⟩:=hrel;obtain⟨n,r,f,z,d⟩:=A.o;have an:b<wr.heap.size:=(cg.1 n).1;by_cases ax:j<l.length
  ·have aM:(j:Int)<(l.length:Int):=by omega
   have au:R[j]'(by omega)=l[j]:=by
    have:=congrArg (fun t=>t[0]?) z;simp only[cT,dH] at this;rw[cf (by omega),cf ax] at this;exact Option.some.inj this
   have M:∀ m u,m<3→(Bv l[j])[m]? =Z u→wr.cell? ⟨b,j*3+m,O⟩=Z u:=fun m u hm P=>by
    rw[bI wr b _ _ _ _ n];simp only[dn];rw[cA (by rw[DI];omega),KD R j m (by omega) hm,au];exact P
   have c0:wr.cell? ⟨b,j*3,O⟩=Z (I J l[j].proc):=M 0 _ (by omega) rfl;have c1:wr.cell? ⟨b,j*3+1,O⟩=Z (I J l[j].prio):=M 1 _ (by omega) rfl;have c2:wr.cell? ⟨b,j*3+2,O⟩=Z (I U l[j].val):=M 2 _ (by omega) rfl;have s:=HP.o (wr.alloc (T #[I J l[j].proc,I J l[j].prio,I U l[j].val] 161)) l[j] (d.alloc (cC F d.size) _);have E:Hq (wr.heap[b]? =Z (T (cellsW R++S).toArray 161 (0,0))∧R.length=l.length∧R.take i=(l.take j).filter (fun x=>!p x)∧R.drop j=l.drop j∧df B w wr):=⟨n,r,f,z,d⟩;clear M n r f z d au A;have ag:Hq (l.take (j+1)=l.take j++ [l[j]]):=cd ax;have ap:Hq (R.drop (j+1)=l.drop (j+1)):=by
    have:=congrArg (fun t=>t.drop 1) E.o.2.2.2.1;rw[dQ,dQ] at this;exact this
   generalize l[j]=y at c0 c1 c2 s ag;cases D:p y with
   |true=>
    rw[D] at s;obtain⟨W,X⟩:=H2 s D;clear s D;go_wp2_with (refine W.o.mono ?_;rintro e c ⟨rfl,q⟩;have V:=HH q;clear q)
    go_roundg (l.length-(j+1))
    case measure=>omega
    case rel=>
     obtain⟨n,r,f,z,d⟩:=E.o;have K:Bl wr c:=((bJ _ wr).alloc (bH _) _).trans (V.o.mono (by simp));refine⟨i,j+1,R,rfl,by go_num,by omega,by omega,by omega,(K.block b an).trans n,r,?_,ap.o,d.trans (K.mono (cC F d.size))⟩;rw[ag.o,dz,f];simp[X.o]
   |false=>
    rw[D] at s;obtain⟨W,X⟩:=H2 s D;clear s D;have ar:i<R.length:=by have:=E.o.2.1;omega
    have aZ:(i:Int)<(l.length:Int):=by omega
    have aN:Hq (∀ c,df (wr.alloc (T #[I J y.proc,I J y.prio,I U y.val] 161)).heap.size (wr.alloc (T #[I J y.proc,I J y.prio,I U y.val] 161)) c→
      c.heap[wr.heap.size]? =Z (T #[I J y.proc,I J y.prio,I U y.val] 161 (0,0))∧c.heap[b]? =Z (T (cellsW R++S).toArray 161 (0,0))∧
      ∀ m,m<3→(∃ u,c.cell? ⟨b,i*3+m,O⟩=Z u)∧c.frozen? ⟨b,i*3+m,O⟩=false):=fun c q=>by
     have h1:=(q.block wr.heap.size (by simp)).trans (bL wr _);have h2:=(q.block b (by simp;omega)).trans ((b4 wr _ b an).trans E.o.1);refine⟨h1,h2,fun m hm=>⟨?_,?_⟩⟩
     ·rw[bI c b _ _ _ _ h2];have:i*3+m<(cellsW R++S).length:=by rw[b0,DI];omega
      exact⟨_,by rw[dn,cf this]⟩
     ·simp[b6,h2]
    go_wp2_with (refine W.o.mono ?_;rintro e c ⟨rfl,q⟩;obtain⟨Q,q2,q3⟩:=aN.o c q;have e0:c.cell? ⟨wr.heap.size,0,O⟩=Z (I J y.proc):=(by rw[bI c _ _ _ _ _ Q];rfl);have e1:c.cell? ⟨wr.heap.size,1,O⟩=Z (I J y.prio):=(by rw[bI c _ _ _ _ _ Q];rfl);have e2:c.cell? ⟨wr.heap.size,2,O⟩=Z (I U y.val):=(by rw[bI c _ _ _ _ _ Q];rfl);obtain⟨⟨u0,f0⟩,g0⟩:=q3 0 (by omega);obtain⟨⟨u1,f1⟩,g1⟩:=q3 1 (by omega);obtain⟨⟨u2,f2⟩,g2⟩:=q3 2 (by omega);rw[dH] at f0 g0;have V:=HH q;have aC:=HH q2;clear q Q q2 q3)
    go_roundg (l.length-(j+1))
    case measure=>omega
    case rel=>
     obtain⟨n,r,f,z,d⟩:=E.o;have K:Bl wr c:=((bJ _ wr).alloc (bH _) _).trans (V.o.mono (by simp));have aJ:df B w c:=d.trans (K.mono (cC F d.size));refine⟨i+1,j+1,R.set i y,by go_num,by go_num,by omega,by omega,by omega,?_,by simpa using r,?_,?_,?_⟩
     ·rw[←RW R S i y ar];exact b8 _ _ _ _ _ _ (b8 _ _ _ _ _ _ (b8 _ _ _ _ _ _ aC.o))
     ·rw[ag.o,dz,←f];have:[y].filter (fun x=>!p x)=[y]:=by simp[X.o]
      rw[this,cd (by simpa using ar),List.getElem_set_self,List.take_set_of_le (bH _)]
     ·rw[List.drop_set_of_lt (by omega)];exact ap.o
     ·exact((aJ.setCell (p:=⟨b,_,O⟩) L _).setCell (p:=⟨b,_,O⟩) L _).setCell (p:=⟨b,_,O⟩) L _
  ·have aM:¬(j:Int)<(l.length:Int):=by omega
   obtain rfl:j=l.length:=by omega
   rw[dI] at f;have aY:i≤l.length:=by omega
   have aU:¬(cap=i):=by omega
   obtain⟨v,ak,aV⟩:=YB wr 0 b (i*3) (l.length-i) (cap-i) (cellsW R++S) n (by omega) (by rw[b0,DI];omega);have aw:i=(l.filter (fun x=>!p x)).length:=by
    have:=congrArg eJ f;rw[cP] at this;omega
   have H:Hq ((wr.setRow b (splice (cellsW R++S) (i*3) v).toArray).heap[b]? =Z (T (splice (cellsW R++S) (i*3) v).toArray 161 (0,0))∧(splice (cellsW R++S) (i*3) v).length=(cellsW l++S).length∧
     (splice (cellsW R++S) (i*3) v).take (i*3)=cellsW (l.filter (fun x=>!p x))∧df B w (wr.setRow b (splice (cellsW R++S) (i*3) v).toArray)):=by
    refine⟨dB wr b _ _ _ _ n,?_,?_,below_setRow d L _⟩
    ·rw[cW _ _ _ (by rw[ak,b0,DI];omega),b0,b0,DI,DI,r]
    ·rw[←f,←Og];unfold splice;have e1:((cellsW R++S).take (i*3)).length=i*3:=by rw[cP,b0,DI];omega
     rw[da (by omega),du,Nat.min_self,da (by rw[DI];omega)]
   have HL:=HH aw;clear aw f z n r d ak A;go_wp2;go_ret;refine⟨splice (cellsW R++S) (i*3) v,?_,H.o.1,H.o.2.1.trans b0,?_,H.o.2.2.2⟩
   ·rw[←HL.o];rfl
   ·rw[←HL.o];exact H.o.2.2.1
def S4(g lb)(p:Wt→Bool)(k:∀ args w,(cR g args).run prog w=.ok (.enter g args) w)(v:bq)(l:List Wt)(w:br)(h:Al w 0 v l)(n:l.length≤100000)(f:IJ g lb p w)(a:l.any p=false):
  b9 prog 111 #[v,.func (.func g) #[] lb] w fun e w'=>e=.returned v∧Bl w w':=by
 have b:=HH (KV v l g lb p k w h (by omega) f);have d:DL p l=-1:=JZ p l (fun j m=>by rw[dE] at a;simpa using a l[j] (di m));rw[d] at b;clear d h f a;go_enter func111,ntmps111;go_wp2_with fail;refine b.o.mono ?_;rintro e q ⟨rfl,c⟩;have i:=HH c;clear c b;go_wp2_with fail;go_ret;exact⟨rfl,i.o⟩
def leaveW(l:List Wt)(a:Int):List Wt:=l.filter fun x=>!decide (x.proc=a)
def WQ(x:Wt)(g:Nat)(q:Int)(B:Nat)(w W:br)(b:w.cell? ⟨g,0,O⟩=Z (I J q))(d:g<B)(a:df B w W):
  b9 prog 113 #[.agg #[I J x.proc,I J x.prio,I U x.val],G (Z ⟨g,0,O⟩)] W fun e w'=>e=.returned (.bool (decide (x.proc=q)))∧Bl W w':=by
 have c:W.cell? ⟨g,0,O⟩=Z (I J q):=(a.cell (p:=⟨g,0,O⟩) d).trans b;have f:g<W.heap.size:=cE _ _ c;clear a b;go_enter func113,ntmps113;go_wp2;go_ret;exact⟨A8 (by by_cases h:x.proc=q<;>simp[h]),(bJ _ W).alloc (bH _) _⟩
def WR(v:bq)(l:List Wt)(q:Int)(w:br)(h:Al w 0 v l)(F:l.length≤100000):
  b9 prog 69 #[v,I J q] w fun e w'=>II w (leaveW l q) e w':=by
 obtain⟨b,m⟩:=ex (w.alloc (T #[I J q] 3));have hz:b.heap.size=w.heap.size+1:=by subst m;simp
 have z:b.heap[w.heap.size]? =Z (T #[I J q] 3 (0,0)):=by subst m;exact bL w _
 have r:Bl w b:=by subst m;exact(bJ _ _).alloc (bH _) _
 have A:b.cell? ⟨w.heap.size,0,O⟩=Z (I J q):=by rw[bI b _ _ _ _ _ z];rfl
 have y:Al b 0 v l:=h.below r;have B:=HH (GK v l b y (by omega))
 -- the call of DeleteFunc,in whatever world the clone has left
 have D:Hq (∀ c f,c.ownsRow b.heap.size 161 3 f l.length (cellsW l)→Bl b c→
   b9 prog 111 #[f,.func (.func 113) #[] #[G (Z ⟨w.heap.size,0,O⟩)]] c fun e w'=>II w (leaveW l q) e w'):=by
  intro c f j i;have ab:c.cell? ⟨w.heap.size,0,O⟩=Z (I J q):=(i.cell (p:=⟨w.heap.size,0,O⟩) (show w.heap.size<b.heap.size by omega)).trans A;have L:K7 113 #[G (Z ⟨w.heap.size,0,O⟩)] (fun x=>decide (x.proc=q)) b.heap.size c:=fun W x V=>WQ x w.heap.size q b.heap.size c W ab (by omega) V;have u:=Gn func113 (by kernel_rfl) rfl;have s:Bl w c:=r.trans (i.mono (by omega));cases n:l.any (fun x=>decide (x.proc=q)) with
  |false=>
   refine(S4 _ _ _ u f l c (Sl.mono (Sl.Bw j) (ch _)) F (L.PS i.size) n).mono ?_;rintro e w' ⟨rfl,d⟩;have ag:leaveW l q=l:=by
    rw[leaveW,ed];intro a X;rw[dE] at n;simpa using n a X
   rw[ag];refine⟨f,rfl,Cx (j.kept (row:=O) ⟨d.os,d.tape,d.output,d.size,fun k hk _=>d.block k hk⟩ ?_) (by omega),s.trans (d.mono s.size)⟩;cases f.ownBlock<;>simp
  |true=>
   rcases j.2 with ⟨rfl,ah⟩|⟨g,cap,cur,rfl,aa,E,H,ac,ad,ai⟩
   ·have:l=[]:=cs ah;subst this;simp at n
   ·have C:cur=(cellsW l++cur.toList.drop (l.length*3)).toArray:=by
     rw[←ai,dm]
    rw[C] at E;refine(S3 _ _ _ u g cap b.heap.size l (cur.toList.drop (l.length*3)) c E aa i.size H F L n).mono ?_;rintro e w' ⟨R,rfl,ae,Q,S,d⟩;refine⟨_,rfl,⟨by rw[DI],.inr ⟨g,cap,R.toArray,rfl,by omega,ae,?_,ac,?_,S⟩⟩,s.trans (d.mono (by omega))⟩
    ·exact cC (List.length_filter_le _ _) H
    ·rw[em,Q,←ad]
     conv=>rhs;rw[C]
     simp
 have t:=HH m;clear m h y r z A hz;go_enter func69,ntmps69;go_wp2_with fail;rw[←t.o];refine B.o.mono ?_;rintro e c ⟨f,rfl,j,i⟩;have N:=HH (D.o c f j i);clear j i D B t;go_wp2_with fail;refine N.o.mono ?_;rintro e w2 ⟨v2,rfl,K,d⟩;obtain⟨P,M⟩:=H2 K d;clear K d;go_wp2_with fail;go_ret;exact⟨_,rfl,P.o,M.o⟩
def Aq(w:br)(B:Nat)(v:bq)(l:List Wt):Prop:=
 Al w B v l∧∀ a n c,v=Y (Z a) n c→0<n→∀ j,w.frozen? ⟨a.block,j,O⟩=false
section
variable {w w':br} {B B':Nat} {v:bq} {l:List Wt}
def Aq.below(h:Aq w B v l)(e:Bl w w'):Aq w' B v l:=by
 refine⟨h.1.below e,fun a n c o k j=>?_⟩;obtain⟨q,cap,f,_,_,_,m⟩:=h.1;subst o;simp only[b5] at f;obtain⟨d,r,_⟩:=f;obtain⟨b,s,g,_,i,_⟩:=m (by omega);rw[g] at d;simp only[bM] at d;subst d;rw[e.frozen (p:=⟨b,j,O⟩) i];exact h.2 _ n c rfl k j
def Aq.mono(h:Aq w B v l)(a:B'≤B):Aq w B' v l:=⟨h.1.mono a,h.2⟩
def Aq.rd(h:Aq w B v l):Al w 0 v l:=h.1.mono (ch _)
def Aq.drew(h:Aq w B v l):Aq w.drew B v l:=h
def Aq.drewN(h:Aq w B v l)(k:Nat):Aq (w.drewN k) B v l:=h
def Aq.alloc(h:Aq w B v l)(o:Obj):Aq (w.alloc o) B v l:=h.below ((bJ _ _).alloc (bH _) _)
def Aq.Bw(h:w.ownsRow B 161 3 v l.length (cellsW l)):Aq w B v l:=by
 refine⟨Sl.Bw h,fun a n c b e j=>?_⟩;rcases h.2 with ⟨rfl,_⟩|⟨g,cap,cur,rfl,_,d,_⟩
 ·cases b
 ·simp only[b5,bM] at b;obtain⟨rfl,_⟩:=b;simp[b6,d]
def Aq.nil(w:br)(B:Nat):Aq w B (Y O 0 0) []:=⟨Sl.nil w B 3,fun a n c b _=>by cases b⟩
def Aq.JW{g:Nat}(h:Aq w B v l)(f:w.grownBy w' (Z g))(p:∀ a n c,v=Y (Z a) n c→0<n→a.block≠g):Aq w' B v l:=by
 obtain⟨⟨s,cap,D,t,x,y,q⟩,A⟩:=h;subst D;refine⟨⟨s,cap,rfl,t,x,y,fun m=>?_⟩,fun a n c k i j=>?_⟩
 ·obtain⟨b,r,d,o,e,z⟩:=q m;subst d;have:=p _ _ _ rfl m;exact⟨b,r,rfl,o,ce e f.size,fun j u C=>f.cell (z j u C) (by simp;exact this)⟩
 ·have E:=k;simp only[b5] at k;obtain⟨rfl,rfl,rfl⟩:=k;obtain⟨b,r,d,o,e,_⟩:=q i;simp only[bM] at d;subst d;have:=p _ _ _ rfl i;rw[World.frozen?_of_block (f.block b e (by simp;exact this))];exact A _ _ _ rfl i j
end
def NY(b o:Nat)(v:bq)(l:List Wt)(g:Nat)(a:Array bq)(p:Wt→Bool)(d:∀ args w,(cR g args).run prog w=.ok (.enter g args) w)(w:br)(m:w.cell? ⟨b,o,O⟩=Z v)(h:Al w 0 v l)(n:l.length≤100000)(i:IJ g a p w):
  b9 prog 185 #[G (Z ⟨b,o,O⟩),.func (.func g) #[] a] w fun e w'=>e=.returned (.bool (l.any p))∧Bl w w':=by
 have c:=HH (JS v l g a p d w h (by omega) i);obtain⟨k,cap,rfl,_,_,_,_⟩:=h;clear i d;generalize l.any p=q at c ⊢;go_enter func185,ntmps185;go_wp2_with fail;refine c.o.mono ?_;rintro e r ⟨rfl,f⟩;have j:=HH f;clear f;go_wp2_with fail;go_ret;exact⟨rfl,j.o⟩
def Zh(x:Wt)(w W:br)(b:Bl w W):
  b9 prog 201 #[.agg #[I J x.proc,I J x.prio,I U x.val]] W fun e w'=>e=.returned (.bool (x.val !=0))∧Bl w w':=by
 have a:=HH b;clear b;go_enter func201,ntmps201;go_wp2;go_ret;exact⟨rfl,a.o.alloc a.o.size _⟩
def Xl(x:Wt)(g:Nat)(q:Int)(w W:br)(c:w.cell? ⟨g,0,O⟩=Z (I J q))(d:g<w.heap.size)(a:Bl w W):
  b9 prog 186 #[.agg #[I J x.proc,I J x.prio,I U x.val],G (Z ⟨g,0,O⟩)] W fun e w'=>e=.returned (.bool (decide (x.proc=q)))∧Bl w w':=by
 have f:W.cell? ⟨g,0,O⟩=Z (I J q):=(a.cell (p:=⟨g,0,O⟩) d).trans c;have i:g<W.heap.size:=ce d a.size;have b:=HH a;clear a c;go_enter func186,ntmps186;go_wp2;go_ret;exact⟨A8 (by by_cases h:x.proc=q<;>simp[h]),b.o.alloc b.o.size _⟩
def G5(l:List Wt)(a:Bool):Bool:=decide (AY l) && !l.any (fun x=>x.val !=0) && (a||l.length==0)
def Cw(l:List Wt)(q:Int):Bool:=decide (0≤q) && !l.any (fun x=>decide (x.proc=q))
def QK(b o:Nat)(v:bq)(l:List Wt)(m:Bool)(w:br)(k:w.cell? ⟨b,o,O⟩=Z v)(h:Al w 0 v l)(A:Ck l)(y:l.length≤100000):
  b9 prog 184 #[G (Z ⟨b,o,O⟩),.bool m] w fun e w'=>e=.returned (.bool (G5 l m))∧Bl w w':=by
 have f:=HH (Li v l w h A y);have t:b<w.heap.size:=cE _ _ k;have j:Hq (∀ a,Bl w a→b9 prog 185 #[G (Z ⟨b,o,O⟩),.func (.func 201) #[] #[]] a fun e w'=>e=.returned (.bool (l.any (fun x=>x.val !=0)))∧Bl a w'):=fun a c=>
  NY b o v l _ #[] _ (Gn func201 (by kernel_rfl) rfl) a ((c.cell (p:=⟨b,o,O⟩) t).trans k) (h.below c) y (fun W x D=>Zh x a W D)
 obtain⟨C,cap,rfl,_,_,_,_⟩:=h;clear A;cases g:decide (AY l) with
 |false=>
  rw[g] at f;have i:G5 l m=false:=by simp[G5,g]
  rw[i];clear g i j;go_enter func184,ntmps184;go_wp2_with fail;refine f.o.mono ?_;rintro e a ⟨rfl,c⟩;have d:=HH c;clear c f;go_wp2_with fail;go_ret;exact⟨rfl,d.o⟩
 |true=>
  rw[g] at f;have i:Hq (G5 l m=(!l.any (fun x=>x.val !=0) && (m||l.length==0))):=by show _=_;simp[G5,g]
  rw[i.o];clear g i;generalize l.any (fun x=>x.val !=0)=q at j ⊢;have z:((l.length:Int)==0)=(l.length==0):=by rw[Bool.eq_iff_iff];simp
  have B:=HH z;clear z;have u:∀ a,Bl w a→a.cell? ⟨b,o,O⟩=Z (Y C l.length cap):=fun a c=>(c.cell (p:=⟨b,o,O⟩) t).trans k;have r:=HH u;clear u;cases q<;>cases m
  all_goals
   go_enter func184,ntmps184;go_wp2_with fail;refine f.o.mono ?_;rintro e a ⟨rfl,c⟩;have d:=HH c;clear c f;go_wp2_with fail;refine(j.o a d.o).mono ?_;rintro e E ⟨rfl,s⟩;have n:=HH (d.o.trans (s.mono d.o.size));have F:=r.o E n.o;clear s j r d;go_wp2_with fail;go_ret;exact⟨A8 (by first|rfl|(rw[←B.o];rfl)),n.o⟩
def Jf(b o:Nat)(v:bq)(l:List Wt)(q:Int)(w:br)(s:w.cell? ⟨b,o,O⟩=Z v)(h:Al w 0 v l)(A:l.length≤100000):
  b9 prog 153 #[G (Z ⟨b,o,O⟩),I J q] w fun e w'=>e=.returned (.bool (Cw l q))∧Bl w w':=by
 have z:b<w.heap.size:=cE _ _ s;obtain⟨a,c⟩:=ex (w.alloc (T #[I J q] 3));have C:a.heap.size=w.heap.size+1:=by subst c;simp
 have k:a.heap[w.heap.size]? =Z (T #[I J q] 3 (0,0)):=by subst c;exact bL w _
 have g:Bl w a:=by subst c;exact(bJ _ _).alloc (bH _) _
 have m:a.cell? ⟨w.heap.size,0,O⟩=Z (I J q):=by rw[bI a _ _ _ _ _ k];rfl
 obtain⟨f,i,j⟩:=H3 (NY b o v l _ #[G (Z ⟨w.heap.size,0,O⟩)] _ (Gn func186 (by kernel_rfl) rfl) a ((g.cell (p:=⟨b,o,O⟩) z).trans s) (h.below g) A (fun W x y=>Xl x w.heap.size q a W m (by omega) y)) g c;have B:w.heap.size≤a.heap.size:=by omega
 clear g c C k m h;by_cases t:0≤q
 ·have d:Hq (Cw l q=!l.any (fun x=>decide (x.proc=q))):=by show _=_;simp[Cw,t]
  rw[d.o];clear d;generalize l.any (fun x=>decide (x.proc=q))=r at f ⊢;go_enter func153,ntmps153;go_wp2_with fail;rw[←j.o];refine f.o.mono ?_;rintro e D ⟨rfl,n⟩;have u:=HH (i.o.trans (n.mono B));clear n f j i;go_wp2_with fail;go_ret;exact⟨rfl,u.o⟩
 ·have d:Hq (Cw l q=false):=by show _=_;simp[Cw,t]
  rw[d.o];clear d f;go_enter func153,ntmps153;go_wp2_with fail;go_ret;refine⟨rfl,?_⟩;rw[←j.o];exact i.o
def QY(w:br)(b:Nat)(t:ci)(c:bq)(l:List Wt)(e:cO)(w':br):Prop:=
 ∃ a,e=.returned (.tuple #[])∧w'.heap[b]? =Z (T #[a,c] t (0,0))∧Aq w' w.heap.size a l∧w.grownBy w' (Z b)
def O3(b:Nat)(t:ci)(v c:bq)(l:List Wt)(q r:Int)(w:br)(j:w.heap[b]? =Z (T #[v,c] t (0,0)))(h:Al w 0 v l)(N:l.length≤100000):
  b9 prog 155 #[G (Z ⟨b,0,O⟩),I J q,I J r] w (QY w b t c (Cl l ⟨q,r,0⟩)):=by
 have A:b<w.heap.size:=(cg.1 j).1;have L:w.cell? ⟨b,0,O⟩=Z v:=by rw[bI w _ _ _ _ _ j];rfl
 have s:=HH (JV v l ⟨q,r,0⟩ w h N);obtain⟨K,cap,rfl,_,_,_,_⟩:=h;have u:Hq (∀ d f,d.ownsRow w.heap.size 161 3 f (Cl l ⟨q,r,0⟩).length (cellsW (Cl l ⟨q,r,0⟩))→Bl w d→d.cell? ⟨b,0,O⟩=Z (Y K l.length cap)∧d.frozen? ⟨b,0,O⟩=false∧
   (d.setCell ⟨b,0,O⟩ f).heap[b]? =Z (T #[f,c] t (0,0))∧Aq (d.setCell ⟨b,0,O⟩ f) w.heap.size f (Cl l ⟨q,r,0⟩)∧w.grownBy (d.setCell ⟨b,0,O⟩ f) (Z b)∧∃ a n z,f=Y a n z):=by
  intro d f y i;have B:=(i.block b A).trans j;have M:d.grownBy (d.setCell ⟨b,0,O⟩ f) (Z b):=⟨rfl,rfl,rfl,by simp[cm],fun k _ x=>bR _ _ _ _ (fun e=>x (by rw[e]))⟩;refine⟨(i.cell (p:=⟨b,0,O⟩) A).trans L,by simp[b6,B],?_,(Aq.Bw y).JW M ?_,?_,?_⟩
  ·have:=b8 d b 0 _ _ f B;simpa using this
  ·intro a n z Q V;subst Q;have:=(y.lt a.block rfl).1;omega
  ·exact⟨i.os,i.tape,i.output,by simpa[cm] using i.size,fun k x P=>(bR _ _ _ _ (fun e=>P (by rw[e]))).trans (i.block k x)⟩
  ·rcases y.2 with ⟨rfl,_⟩|⟨g,S,_,rfl,_⟩
   ·exact⟨_,_,_,rfl⟩
   ·exact⟨_,_,_,rfl⟩
 clear j;generalize Cl l ⟨q,r,0⟩=m at s u ⊢;go_enter func155,ntmps155;go_wp2_with fail;refine s.o.mono ?_;rintro e d ⟨f,rfl,C,i⟩;obtain⟨W,X,D,E,F,R,n1,c1,rfl⟩:=u.o d f C i;have H:Hq (_∧_∧_):=⟨D,E,F⟩;clear C i s u D E F;go_wp2_with fail
 go_end0
 exact⟨_,rfl,H.o⟩
def Bq{w:br}{base:Nat}{e:ci}{d:Nat}{v:bq}{n:Nat}{f:List bq}(h:w.ownsRow base e d v n f):∃ a c,v=Y a n c:=by
 rcases h.2 with ⟨rfl,b⟩|⟨g,i,_,rfl,_⟩
 ·exact⟨_,_,by rw[b]⟩
 ·exact⟨_,_,rfl⟩
def LG(w:br)(t:ci)(c:bq)(l:List Wt)(e:cO)(w':br):Prop:=
 ∃ g b,e=.returned (G (Z ⟨g,0,O⟩))∧w.heap.size≤g∧w'.heap[g]? =Z (T #[b,c] t (0,0))∧Aq w' w.heap.size b l∧Bl w w'∧(∀ a n d,b=Y (Z a) n d→0<n→a.block≠g)
def PC{w b:br}{o:Obj}{e c:bq}{t:ci}{l:List Wt}(f:Hq (b.ownsRow (w.alloc o).drew.heap.size 161 3 e l.length (cellsW l)))(g:Hq (df (w.alloc o).drew.heap.size (w.alloc o).drew b)):
  LG w t c l (.returned (G (Z ⟨b.heap.size,0,O⟩))) (b.alloc (T #[e,c] t)):=by
 have k:(w.alloc o).drew.heap.size=w.heap.size+1:=by simp
 have d:Bl w b:=((bJ _ w).alloc (bH _) o).drew.trans (g.o.mono (by omega));refine⟨b.heap.size,e,rfl,d.size,bL b _,((Aq.Bw f.o).mono (by omega)).alloc _,d.alloc d.size _,fun a n i h j=>?_⟩;subst h;exact dF (f.o.lt a.block rfl).2
def MO(n:Int)(v:bq)(l:List Wt)(w:br)(h:Al w 0 v l)(m:l.length≤100000):
  b9 prog 151 #[.agg #[I J n,v]] w (LG w 248 (I J n) l):=by
 obtain⟨g,cap,rfl,q,r,_⟩:=h.open_;have f:=HH (h.alloc (T #[I J n,Y g l.length cap] 95)).drew;clear h;go_enter func151,ntmps151;go_wp2_with fail
 go_region_with (go_at_call 112;refine(GK _ l _ f.o (by omega)).mono ?_;rintro e i ⟨s,rfl,b,a⟩;obtain⟨j,c1,rfl⟩:=Bq b;have d:=HH b;have c:=HH a;have k:i.cell? ⟨w.heap.size,0,O⟩=Z (I J n):=((a.cell (p:=⟨w.heap.size,0,O⟩) (by simp)).trans (by go_simp));clear b a)
 all_goals
  go_wp2;go_ret;exact PC d c
def Lf(n:Bool)(v:bq)(l:List Wt)(w:br)(h:Al w 0 v l)(m:l.length≤100000):
  b9 prog 156 #[.agg #[.bool n,v]] w (LG w 256 (.bool n) l):=by
 obtain⟨g,cap,rfl,q,r,_⟩:=h.open_;have f:=HH (h.alloc (T #[.bool n,Y g l.length cap] 99)).drew;clear h;go_enter func156,ntmps156;go_wp2_with fail
 go_region_with (go_at_call 112;refine(GK _ l _ f.o (by omega)).mono ?_;rintro e i ⟨s,rfl,b,a⟩;obtain⟨j,c1,rfl⟩:=Bq b;have d:=HH b;have c:=HH a;have k:i.cell? ⟨w.heap.size,0,O⟩=Z (.bool n):=((a.cell (p:=⟨w.heap.size,0,O⟩) (by simp)).trans (by go_simp));clear b a)
 all_goals
  go_wp2;go_ret;exact PC d c
def GL(g:Nat)(n:Int)(a:Option dj)(m c:Nat)(w:br)(b:w.heap[g]? =Z (T #[Y a m c,I J n] 248 (0,0))):
  b9 prog 154 #[G (Z ⟨g,0,O⟩)] w fun e w'=>e=.returned (.agg #[I J n,Y a m c])∧Bl w w':=by
 have f:g<w.heap.size:=(cg.1 b).1;have d:w.cell? ⟨g,0,O⟩=Z (Y a m c):=by rw[bI w _ _ _ _ _ b];rfl
 have c1:w.cell? ⟨g,1,O⟩=Z (I J n):=by rw[bI w _ _ _ _ _ b];rfl
 clear b;go_enter func154,ntmps154;go_wp2_with fail
 go_region
 all_goals
  go_wp2;refine bK (v:=.agg #[I J n,Y a m c]) (by simp[cb,results154,go_sem]) rfl ⟨rfl,?_⟩;exact((bJ _ w).alloc (bH _) _).drew
def Is(g:Nat)(n:Bool)(a:Option dj)(m c:Nat)(w:br)(b:w.heap[g]? =Z (T #[Y a m c,.bool n] 256 (0,0))):
  b9 prog 158 #[G (Z ⟨g,0,O⟩)] w fun e w'=>e=.returned (.agg #[.bool n,Y a m c])∧Bl w w':=by
 have f:g<w.heap.size:=(cg.1 b).1;have d:w.cell? ⟨g,0,O⟩=Z (Y a m c):=by rw[bI w _ _ _ _ _ b];rfl
 have c1:w.cell? ⟨g,1,O⟩=Z (.bool n):=by rw[bI w _ _ _ _ _ b];rfl
 clear b;go_enter func158,ntmps158;go_wp2_with fail
 go_region
 all_goals
  go_wp2;refine bK (v:=.agg #[.bool n,Y a m c]) (by simp[cb,results158,go_sem]) rfl ⟨rfl,?_⟩;exact((bJ _ w).alloc (bH _) _).drew
def JO{B:Nat}{a w:br}(h:df B a w)(n:Nat):df B a (w.drewN n):=⟨h.os,h.tape,h.output,h.size,h.block⟩
def Dq(n:Int)(l:List Wt):Bool:=decide (0≤n) && decide (n≤255) && G5 l (n==0)
def Ih(n:Int)(v:bq)(l:List Wt)(w:br)(h:Al w 0 v l)(z:Ck l)(x:l.length≤100000):
  b9 prog 152 #[.agg #[I J n,v]] w fun e w'=>e=.returned (.bool (Dq n l))∧Bl w w':=by
 obtain⟨f,cap,rfl,N,P,_⟩:=h.open_;have c:=HH (h.alloc (T #[I J n,Y f l.length cap] 95)).drew;have d:=HH z;clear h z;by_cases b:0≤n
 ·by_cases i:n≤255
  ·have a:Hq (Dq n l=G5 l (n==0)):=by show _=_;simp[Dq,b,i]
   rw[a.o];clear a;have d0:decide (0≤n)=true:=decide_eq_true b;have d1:decide (n≤255)=true:=decide_eq_true i;have E:Hq (Bl w (w.alloc (T #[I J n,Y f l.length cap] 95)).drew):=((bJ _ w).alloc (bH _) _).drew;have F:Hq (w.heap.size≤(w.alloc (T #[I J n,Y f l.length cap] 95)).drew.heap.size):=by show _≤_;simp
   generalize y:G5 l (n==0)=q;have D:=HH y;clear y;go_enter func152,ntmps152;go_wp2_with fail
   go_region_with (first
    |(go_at_call 151;refine(MO n _ l _ c.o x).mono ?_;rintro e L ⟨g,K,rfl,H,u,t,j,_⟩;have C:=HH u;have B:=HH t;have r:=HH (E.o.trans (j.mono F.o));have M:L.cell? ⟨w.heap.size,0,O⟩=Z (I J n):=((j.cell (p:=⟨w.heap.size,0,O⟩) (by simp)).trans (by go_simp));clear H u t j)
    |(go_at_call 184;refine(QK g 0 K l (n==0) _ (by rw[bI _ _ _ _ _ _ C.o];rfl) B.o.rd d.o x).mono ?_;rintro e Q ⟨rfl,s⟩;rw[D.o];have A:=HH (r.o.trans (s.mono r.o.size));clear s))
   all_goals
    go_wp2;go_ret;exact⟨rfl,A.o⟩
  ·have a:Hq (Dq n l=false):=by show _=_;simp[Dq];omega
   rw[a.o];clear a c d;have d0:decide (0≤n)=true:=decide_eq_true b;have d1:decide (n≤255)=false:=decide_eq_false i;go_enter func152,ntmps152;go_wp2_with fail;refine cy (by kernel_rfl) (by kernel_rfl) ?_
   iterate 19 (first|go_big_quiet_step (fail)|quiet_step (fail))
   refine db ?_;intro _ k;obtain⟨nq,m⟩:=k;subst m;go_wp2;go_ret;exact⟨rfl,JO ((bJ _ w).alloc (bH _) _) _⟩
 ·have a:Hq (Dq n l=false):=by show _=_;simp[Dq];omega
  rw[a.o];clear a c d;have d0:decide (0≤n)=false:=decide_eq_false b;go_enter func152,ntmps152;go_wp2_with fail;refine cy (by kernel_rfl) (by kernel_rfl) ?_
  iterate 19 (first|go_big_quiet_step (fail)|quiet_step (fail))
  refine db ?_;intro _ k;obtain⟨nq,m⟩:=k;subst m;go_wp2;go_ret;exact⟨rfl,JO ((bJ _ w).alloc (bH _) _) _⟩
def Ea(a:Bool)(l:List Wt):Bool:=G5 l (!a)
def Ig(n:Bool)(v:bq)(l:List Wt)(w:br)(h:Al w 0 v l)(m:Ck l)(j:l.length≤100000):
  b9 prog 157 #[.agg #[.bool n,v]] w fun e w'=>e=.returned (.bool (Ea n l))∧Bl w w':=by
 obtain⟨a,cap,rfl,F,H,_⟩:=h.open_;have x:=HH (h.alloc (T #[.bool n,Y a l.length cap] 99)).drew;have y:=HH m;clear h m;have z:Hq (Bl w (w.alloc (T #[.bool n,Y a l.length cap] 99)).drew):=((bJ _ w).alloc (bH _) _).drew;have A:Hq (w.heap.size≤(w.alloc (T #[.bool n,Y a l.length cap] 99)).drew.heap.size):=by show _≤_;simp
 generalize k:Ea n l=q;have u:=HH k;clear k;go_enter func157,ntmps157;go_wp2_with fail
 go_region_with (first
  |(go_at_call 156;refine(Lf n _ l _ x.o j).mono ?_;rintro e D ⟨g,C,rfl,B,i,f,b,_⟩;have t:=HH i;have s:=HH f;have c:=HH (z.o.trans (b.mono A.o));have E:D.cell? ⟨w.heap.size,0,O⟩=Z (.bool n):=((b.cell (p:=⟨w.heap.size,0,O⟩) (by simp)).trans (by go_simp));clear B i f b)
  |(go_at_call 184;refine(QK g 0 C l (!n) _ (by rw[bI _ _ _ _ _ _ t.o];rfl) s.o.rd y.o j).mono ?_;rintro e K ⟨rfl,d⟩;rw[show G5 l (!n)=q from u.o];have r:=HH (c.o.trans (d.mono c.o.size));clear d))
 all_goals
  go_wp2;go_ret;exact⟨rfl,r.o⟩
def OV:(prog.info? 3).map (fun i=>(i.zero,i.size,i.bytes))=Z (Z (I J 0),1,8):=by kernel_rfl
def OwnI(w:br)(B:Nat)(v:bq)(l:List Int):Prop:=w.ownsRow B 3 1 v l.length (l.map (cY J))
def Ri(w:br)(l:List Int)(e:cO)(w':br):Prop:=∃ v,e=.returned v∧OwnI w' w.heap.size v l∧Bl w w'
def Yf(b o:Nat)(v:bq)(l:List Wt)(w:br)(E:w.cell? ⟨b,o,O⟩=Z v)(h:Al w 0 v l)(X:l.length≤100000):
  b9 prog 159 #[G (Z ⟨b,o,O⟩)] w (Ri w (l.map (·.proc))):=by
 obtain⟨S,d,rfl,V,aa,t⟩:=h.open_;obtain⟨P,F,L,M,N⟩:=cB OV;clear h;go_enter func159,ntmps159;go_wp2;clear E
 go_loopg [3,5,11] l.length (fun C R _ Q wr=>∃ k:Nat,k≤l.length∧l.length-k≤C∧Q=I J k∧Hq (Bl w wr∧OwnI wr w.heap.size R ((l.take k).map (·.proc))))
 case atStart=>exact⟨0,ch _,by omega,rfl,bJ _ w,cn _ _ _ _⟩
 case round=>
  obtain⟨k,W,i,rfl,A⟩:=hrel;by_cases q:k<l.length
  ·have H:(k:Int)<(l.length:Int):=by omega
   obtain⟨z,ab,rfl,_,D,d⟩:=t (by omega);obtain⟨B,c1,c2⟩:=d k q;rw[←A.o.1.cell (p:=⟨z,_,O⟩) D] at B c1 c2;clear t d;have n:((l.take k).map (·.proc)).length=k:=by simp;omega
   have e:=HH n;clear n;have c:=A.o.2;unfold OwnI at c;rw[e.o] at c;have f:=HH c;have K:w.heap.size≤wr.heap.size:=A.o.1.size;clear c;go_wp2_with (at_builtin;refine cD _ rfl _ _ 22 rfl w.heap.size 3 P (I J 0) 1 8 underlying22 F L M N rfl (by decide) _ _ _ rfl ((f.o.alloc _).alloc _) ⟨wr.heap.size+1,0,O⟩ 1 1 [I J l[k].proc] rfl rfl ?c1 ?c2 ?c3 ?c4 ?c5 ?_)
   case c1=>
    intro j u a
    match j,a with
    |0,a=>simp at a;subst a;rw[Cu];go_simp
   case c2=>intro u s;simp at s;subst s;rfl
   case c3=>unfold cM;omega
   case c4=>omega
   case c5=>simp;omega
   intro v' w1 r m _;obtain⟨y,x⟩:=H2 r m;clear r m;go_wp2
   go_roundg (l.length-(k+1))
   case measure=>omega
   case rel=>
    refine⟨k+1,by omega,by omega,by go_num,((A.o.1.alloc K _).alloc (by simp;omega) _).grown x.o (by simp;omega) (fun g i=>(f.o.lt g i).1),?_⟩;unfold OwnI;rw[cd q,cJ,b0,e.o,cJ];simpa[eC] using y.o
  ·have H:¬(k:Int)<(l.length:Int):=by omega
   go_wp2;go_ret;refine⟨_,rfl,?_,A.o.1⟩;have:=A.o.2;rwa [cH (by omega)] at this
def AJ{W:br}{g:Nat}{x y:bq}{t:ci}(h:W.heap[g]? =Z (T #[x,y] t (0,0))):
  W.cell? ⟨g,0,O⟩=Z x∧W.cell? ⟨g,1,O⟩=Z y∧W.frozen? ⟨g,0,O⟩=false∧W.frozen? ⟨g,1,O⟩=false:=
 ⟨by rw[bI W _ _ _ _ _ h];rfl,by rw[bI W _ _ _ _ _ h];rfl,by simp[b6,h],by simp[b6,h]⟩
structure BI(w W:br)(t t':ci)(c z v0:bq)(g:Nat)(v1 c1:bq)(l:List Wt):Prop where
 arg:W.heap[w.heap.size]? =Z (T #[c,v0] t (0,0))
 res:W.heap[w.heap.size+1]? =Z (T #[z,Y O 0 0] t (0,0))
 ge:w.heap.size+2≤g
 obj:W.heap[g]? =Z (T #[v1,c1] t' (0,0))
 fr:Aq W (w.heap.size+2) v1 l
 below:Bl w W
 apart:∀ a n cc,v1=Y (Z a) n cc→0<n→a.block≠g
section
variable {w W W':br} {t t':ci} {c z v0:bq} {g:Nat} {v1 c1:bq} {l:List Wt}
def Aa{W:br}{g:Nat}{o:Obj}(h:W.heap[g]? =Z o):g<W.heap.size:=(cg.1 h).1
def BI.next(h:BI w W t t' c z v0 g v1 c1 l)(a:Bl W W'):BI w W' t t' c z v0 g v1 c1 l:=
 ⟨(a.block _ (Aa h.arg)).trans h.arg,(a.block _ (Aa h.res)).trans h.res,h.ge,(a.block _ (Aa h.obj)).trans h.obj,h.fr.below a,h.below.trans (a.mono h.below.size),h.apart⟩
def BI.open_{b:br}{e:bq}(d:b=((w.alloc (T #[c,e] t)).alloc (T #[z,Y O 0 0] t)))(q:b.heap.size≤g)(p:W.heap[g]? =Z (T #[v1,c1] t' (0,0)))(o:Aq W b.heap.size v1 l)(f:Bl b W)
  (k:∀ a n h,v1=Y (Z a) n h→0<n→a.block≠g):BI w W t t' c z e g v1 c1 l:=by
 have r:b.heap.size=w.heap.size+2:=by subst d;simp
 have i:b.heap[w.heap.size]? =Z (T #[c,e] t (0,0)):=by subst d;rw[b4 _ _ _ (by simp)];exact bL w _
 have j:b.heap[w.heap.size+1]? =Z (T #[z,Y O 0 0] t (0,0)):=by
  subst d;have:=bL (w.alloc (T #[c,e] t)) (T #[z,Y O 0 0] t);simpa using this
 have m:Bl w b:=by subst d;exact((bJ _ w).alloc (bH _) _).alloc (by simp) _
 exact⟨(f.block _ (by omega)).trans i,(f.block _ (by omega)).trans j,by omega,p,o.mono (by omega),m.trans (f.mono (by omega)),k⟩
def Aq.low{w:br}{B:Nat}{v:bq}{l:List Wt}{g o:Nat}{u:bq}(h:Aq w B v l)(s:g<B):Aq (w.setCell ⟨g,o,O⟩ u) B v l:=by
 refine h.JW (g:=g) ⟨rfl,rfl,rfl,by simp[cm],fun k _ j=>bR _ _ _ _ (fun e=>j (by rw[e]))⟩ (fun a n c p x=>?_);obtain⟨q,cap,f,_,_,_,m⟩:=h.1;subst p;simp only[b5] at f;obtain⟨d,y,_⟩:=f;obtain⟨b,A,i,r,_,_⟩:=m (by omega);rw[i] at d;simp only[bM] at d;subst d;show b≠g;omega
def BI.Hy(h:BI w W t t' c z v0 g v1 c1 l)(u:bq):BI w (W.setCell ⟨g,1,O⟩ u) t t' c z v0 g v1 u l:=by
 have b:=h.ge;refine⟨(bR _ _ _ _ (by show _≠g;omega)).trans h.arg,(bR _ _ _ _ (by show _≠g;omega)).trans h.res,h.ge,?_,?_,h.below.setCell (p:=⟨g,1,O⟩) (by show _≤g;omega) _,h.apart⟩
 ·have:=b8 W g 1 _ _ u h.obj;simpa using this
 ·exact h.fr.JW (g:=g) ⟨rfl,rfl,rfl,by simp[cm],fun k _ a=>bR _ _ _ _ (fun e=>a (by rw[e]))⟩ h.apart
def BI.MY(h:BI w W t t' c z v0 g v1 c1 l)(u:bq){m:List Wt}(i:Aq W (w.heap.size+2) u m)(b:∀ a n d,u=Y (Z a) n d→0<n→a.block≠g):BI w (W.setCell ⟨g,0,O⟩ u) t t' c z v0 g u c1 m:=by
 have j:=h.ge;refine⟨(bR _ _ _ _ (by show _≠g;omega)).trans h.arg,(bR _ _ _ _ (by show _≠g;omega)).trans h.res,h.ge,?_,?_,h.below.setCell (p:=⟨g,0,O⟩) (by show _≤g;omega) _,b⟩
 ·have:=b8 W g 0 _ _ u h.obj;simpa using this
 ·exact i.JW (g:=g) ⟨rfl,rfl,rfl,by simp[cm],fun k _ f=>bR _ _ _ _ (fun e=>f (by rw[e]))⟩ b
def BI.last(h:BI w W t t' c z v0 g v1 c1 l)(x y:bq):Aq ((W.setCell ⟨w.heap.size+1,0,O⟩ x).setCell ⟨w.heap.size+1,1,O⟩ y) w.heap.size v1 l∧Bl w ((W.setCell ⟨w.heap.size+1,0,O⟩ x).setCell ⟨w.heap.size+1,1,O⟩ y):=
 ⟨((h.fr.low (by omega)).low (by omega)).mono (by omega),(h.below.setCell (p:=⟨w.heap.size+1,0,O⟩) (by simp) _).setCell (p:=⟨w.heap.size+1,1,O⟩) (by simp) _⟩
def BI.enter(h:BI w W t t' c z v0 g v1 c1 l){m:List Wt}{f:bq}(q:W'.heap[g]? =Z (T #[f,c1] t' (0,0)))(i:Aq W' W.heap.size f m)(e:W.grownBy W' (Z g)):BI w W' t t' c z v0 g f c1 m:=by
 have y:=h.ge;have A:=Aa h.obj;refine⟨(e.block _ (Aa h.arg) (by simp;omega)).trans h.arg,(e.block _ (Aa h.res) (by simp;omega)).trans h.res,h.ge,q,i.mono (by omega),?_,?_⟩
 ·exact h.below.grown e h.below.size (fun k p=>by simp at p;omega)
 ·intro a n v s B;obtain⟨u,cap,j,_,_,_,r⟩:=i.1;subst s;simp only[b5] at j;obtain⟨d,C,_⟩:=j;obtain⟨b,D,o,x,_,_⟩:=r (by omega);rw[o] at d;simp only[bM] at d;subst d;show b≠g;omega
end
def IK(w:br)(c:bq)(l:List Wt)(x y:bq)(e:cO)(w':br):Prop:=∃ v,e=.returned (.tuple #[.agg #[c,v],x,y])∧Aq w' w.heap.size v l∧Bl w w'
def NL(w:br)(c:bq)(l:List Wt)(y:bq)(e:cO)(w':br):Prop:=∃ v,e=.returned (.tuple #[.agg #[c,v],y])∧Aq w' w.heap.size v l∧Bl w w'
def Bc{w:br}{B:Nat}{v:bq}{l:List Wt}(h:Aq w B v l):∃ a c,v=Y a l.length c:=by
 obtain⟨⟨a,c,b,_⟩,_⟩:=h;exact⟨a,c,b⟩
def Eb(n:Int)(l:List Wt)(p r:Int):Int×List Wt×Bool×Int:=
 if Dq n l=false∨Cw l p=false then(n,l,false,2) else if 0<n then(n-1,l,true,0) else(n,Cl l ⟨p,r,0⟩,false,0)
def Iz(n:Bool)(l:List Wt):Bool×Int:=if Ea n l=false then(n,2) else(false,0)
def Es(n:Bool)(l:List Wt)(p r:Int):List Wt×Bool×Int:=
 if Ea n l=false∨Cw l p=false then(l,false,2) else if n=true then(l,true,0) else(Cl l ⟨p,r,0⟩,false,0)
def DC(n:Bool)(l:List Wt):Bool×List Wt×List Int×Int:=if Ea n l=false then(n,l,[],2) else(true,[],l.map (·.proc),0)
def Nz{n:Int}{l:List Wt}(h:Dq n l=true):0≤n∧n≤255:=by
 simp only[Dq,ey,decide_eq_true_eq] at h;exact⟨h.1.1,h.1.2⟩
def Z2(n:Int)(p r:Int)(v:bq)(l:List Wt)(w:br)(h:Al w 0 v l)(au:Ck l)(hl:l.length≤90000):
  b9 prog 118 #[.agg #[I J n,v],I J p,I J r] w (IK w (I J (Eb n l p r).1) (Eb n l p r).2.1 (.bool (Eb n l p r).2.2.1) (I J (Eb n l p r).2.2.2)):=by
 obtain⟨ao,cap,rfl,aE,aF,_⟩:=h.open_;obtain⟨W0,ae⟩:=ex ((w.alloc (T #[I J n,Y ao l.length cap] 95)).alloc (T #[I J 0,Y O 0 0] 95));have ad:Al W0 0 (Y ao l.length cap) l:=by subst ae;exact(h.alloc _).alloc _
 obtain⟨H,s,K,L⟩:=H4 (MO n _ l W0 ad (by omega)) ae ad au;clear h ae ad au;have ay:(Dq n l=false∧Eb n l p r=(n,l,false,2))∨(Dq n l=true∧Cw l p=false∧Eb n l p r=(n,l,false,2))∨(Dq n l=true∧Cw l p=true∧0<n∧Eb n l p r=(n-1,l,true,0))∨
   (Dq n l=true∧Cw l p=true∧n=0∧Eb n l p r=(n,Cl l ⟨p,r,0⟩,false,0)):=by
  unfold Eb;cases h1:Dq n l
  ·simp
  ·have hn:=Nz h1;cases h2:Cw l p
   ·simp
   ·by_cases h3:0<n
    ·simp[h3]
    ·have:n=0:=by omega
     simp[this]
 rcases ay with ⟨D,E⟩|⟨D,E,k3⟩|⟨D,E,k3,k4⟩|⟨D,E,rfl,k4⟩
 ·rw[E];clear E;have M:=HH D;clear D;go_enter func118,ntmps118;go_wp2_with fail;rw[←s.o];refine H.o.mono ?_;rintro e N ⟨g,v1,rfl,A,B,i,f,x⟩;have d:=HH (BI.open_ s.o A B i f x);obtain⟨F,d1,rfl⟩:=Bc i;have t:=HH (K.o.below f);obtain⟨P,Q,_,_⟩:=AJ d.o.arg;clear A B i f x H K s;go_wp2_with fail;have j:=Ih n _ l N t.o L.o (by omega);rw[M.o] at j;refine j.mono ?_;clear j;rintro e V ⟨rfl,y⟩;have a:=HH (d.o.next y);obtain⟨b,k,m,q⟩:=AJ a.o.obj;have os:=Aa a.o.obj;clear y d P Q t L;go_wp2_with fail;refine(GL g n F _ d1 _ (a.o).obj).mono ?_;rintro e w3 ⟨rfl,z⟩;have c:=HH ((a.o).next z);obtain⟨R,S,y2,y3⟩:=AJ c.o.res;have ys:=Aa c.o.res;clear z b k m q;go_wp2_with fail;refine bK (v:=.tuple #[.agg #[I J n,Y F l.length d1],.bool false,I J 2]) (by simp[cb,results118,go_sem,R,S]) rfl ?_;exact⟨_,rfl,c.o.last _ _⟩
 ·rw[k3];clear k3;obtain⟨M,W⟩:=H2 D E;clear D E;go_enter func118,ntmps118;go_wp2_with fail;rw[←s.o];refine H.o.mono ?_;rintro e N ⟨g,v1,rfl,A,B,i,f,x⟩;have d:=HH (BI.open_ s.o A B i f x);obtain⟨F,d1,rfl⟩:=Bc i;have t:=HH (K.o.below f);obtain⟨P,Q,_,_⟩:=AJ d.o.arg;clear A B i f x H K s;go_wp2_with fail;have j:=Ih n _ l N t.o L.o (by omega);rw[M.o] at j;refine j.mono ?_;clear j;rintro e V ⟨rfl,y⟩;have a:=HH (d.o.next y);obtain⟨b,k,m,q⟩:=AJ a.o.obj;have os:=Aa a.o.obj;clear y d P Q t L;go_wp2_with fail;have C:=Jf g 0 _ l p V b a.o.fr.rd (by omega);rw[W.o] at C;refine C.mono ?_;clear C b k m q;rintro e w3 ⟨rfl,z⟩;have c:=HH (a.o.next z);obtain⟨b,k,m,q⟩:=AJ c.o.obj;clear z a;go_wp2_with fail;refine(GL g n F _ d1 _ (c.o).obj).mono ?_;rintro e w4 ⟨rfl,X⟩;have u:=HH ((c.o).next X);obtain⟨R,S,y2,y3⟩:=AJ u.o.res;have ys:=Aa u.o.res;clear X b k m q;go_wp2_with fail;refine bK (v:=.tuple #[.agg #[I J n,Y F l.length d1],.bool false,I J 2]) (by simp[cb,results118,go_sem,R,S]) rfl ?_;exact⟨_,rfl,u.o.last _ _⟩
 ·rw[k4];clear k4;obtain⟨M,W⟩:=H2 D E;clear D E;have ag:=Nz M.o;have aC:0≤n:=ag.1;have aD:n≤255:=ag.2;clear ag;go_enter func118,ntmps118;go_wp2_with fail;rw[←s.o];refine H.o.mono ?_;rintro e N ⟨g,v1,rfl,A,B,i,f,x⟩;have d:=HH (BI.open_ s.o A B i f x);obtain⟨F,d1,rfl⟩:=Bc i;have t:=HH (K.o.below f);obtain⟨P,Q,_,_⟩:=AJ d.o.arg;clear A B i f x H K s;go_wp2_with fail;have j:=Ih n _ l N t.o L.o (by omega);rw[M.o] at j;refine j.mono ?_;clear j;rintro e V ⟨rfl,y⟩;have a:=HH (d.o.next y);obtain⟨b,k,m,q⟩:=AJ a.o.obj;have os:=Aa a.o.obj;clear y d P Q t L;go_wp2_with fail;have C:=Jf g 0 _ l p V b a.o.fr.rd (by omega);rw[W.o] at C;refine C.mono ?_;clear C b k m q;rintro e w3 ⟨rfl,z⟩;have c:=HH (a.o.next z);obtain⟨b,k,m,q⟩:=AJ c.o.obj;clear z a;go_wp2_with fail;refine(GL g (n-1) F _ d1 _ (c.o.Hy (I J (n-1))).obj).mono ?_;rintro e w4 ⟨rfl,X⟩;have u:=HH ((c.o.Hy (I J (n-1))).next X);obtain⟨R,S,y2,y3⟩:=AJ u.o.res;have ys:=Aa u.o.res;clear X b k m q;go_wp2_with fail;refine bK (v:=.tuple #[.agg #[I J (n-1),Y F l.length d1],.bool true,I J 0]) (by simp[cb,results118,go_sem,R,S]) rfl ?_;exact⟨_,rfl,u.o.last _ _⟩
 ·rw[k4];clear k4;obtain⟨M,W⟩:=H2 D E;clear D E;go_enter func118,ntmps118;go_wp2_with fail;rw[←s.o];refine H.o.mono ?_;rintro e N ⟨g,v1,rfl,A,B,i,f,x⟩;have d:=HH (BI.open_ s.o A B i f x);obtain⟨F,d1,rfl⟩:=Bc i;have t:=HH (K.o.below f);obtain⟨P,Q,_,_⟩:=AJ d.o.arg;clear A B i f x H K s;go_wp2_with fail;have j:=Ih 0 _ l N t.o L.o (by omega);rw[M.o] at j;refine j.mono ?_;clear j;rintro e V ⟨rfl,y⟩;have a:=HH (d.o.next y);obtain⟨b,k,m,q⟩:=AJ a.o.obj;have os:=Aa a.o.obj;clear y d P Q t L;go_wp2_with fail;have C:=Jf g 0 _ l p V b a.o.fr.rd (by omega);rw[W.o] at C;refine C.mono ?_;clear C b k m q;rintro e w3 ⟨rfl,z⟩;have c:=HH (a.o.next z);obtain⟨b,k,m,q⟩:=AJ c.o.obj;clear z a;go_wp2_with fail;refine(O3 g 248 _ (I J 0) l p r w3 c.o.obj c.o.fr.rd (by omega)).mono ?_;clear b k m q;rintro e w4 ⟨v4,rfl,ar,af,aq⟩;obtain⟨a4,d4,rfl⟩:=Bc af;have u:=HH (c.o.enter ar af aq);obtain⟨b,k,m,q⟩:=AJ u.o.obj;clear ar af aq c;go_wp2_with fail;refine(GL g 0 a4 _ d4 _ (u.o).obj).mono ?_;rintro e w5 ⟨rfl,ap⟩;have M5:=HH ((u.o).next ap);obtain⟨R,S,y2,y3⟩:=AJ M5.o.res;have ys:=Aa M5.o.res;clear ap b k m q;go_wp2_with fail;refine bK (v:=.tuple #[.agg #[I J 0,Y a4 (Cl l ⟨p,r,0⟩).length d4],.bool false,I J 0]) (by simp[cb,results118,go_sem,R,S]) rfl ?_;exact⟨_,rfl,M5.o.last _ _⟩
def Zf(n:Bool)(p r:Int)(v:bq)(l:List Wt)(w:br)(h:Al w 0 v l)(aq:Ck l)(hl:l.length≤90000):
  b9 prog 122 #[.agg #[.bool n,v],I J p,I J r] w (IK w (.bool n) (Es n l p r).1 (.bool (Es n l p r).2.1) (I J (Es n l p r).2.2)):=by
 obtain⟨ao,cap,rfl,az,aA,_⟩:=h.open_;obtain⟨W0,ae⟩:=ex ((w.alloc (T #[.bool n,Y ao l.length cap] 99)).alloc (T #[.bool false,Y O 0 0] 99));have ad:Al W0 0 (Y ao l.length cap) l:=by subst ae;exact(h.alloc _).alloc _
 obtain⟨H,s,K,L⟩:=H4 (Lf n _ l W0 ad (by omega)) ae ad aq;clear h ae ad aq;have av:(Ea n l=false∧Es n l p r=(l,false,2))∨(Ea n l=true∧Cw l p=false∧Es n l p r=(l,false,2))∨(Ea n l=true∧Cw l p=true∧n=true∧Es n l p r=(l,true,0))∨
   (Ea n l=true∧Cw l p=true∧n=false∧Es n l p r=(Cl l ⟨p,r,0⟩,false,0)):=by
  unfold Es;cases h1:Ea n l
  ·simp
  ·cases h2:Cw l p
   ·simp
   ·cases n<;>simp
 rcases av with ⟨D,E⟩|⟨D,E,k3⟩|⟨D,E,rfl,k4⟩|⟨D,E,rfl,k4⟩
 ·rw[E];clear E;have M:=HH D;clear D;go_enter func122,ntmps122;go_wp2_with fail;rw[←s.o];refine H.o.mono ?_;rintro e N ⟨g,v1,rfl,A,B,i,f,x⟩;have d:=HH (BI.open_ s.o A B i f x);obtain⟨F,d1,rfl⟩:=Bc i;have t:=HH (K.o.below f);obtain⟨P,Q,_,_⟩:=AJ d.o.arg;clear A B i f x H K s;go_wp2_with fail;have j:=Ig n _ l N t.o L.o (by omega);rw[M.o] at j;refine j.mono ?_;clear j;rintro e V ⟨rfl,y⟩;have a:=HH (d.o.next y);obtain⟨b,k,m,q⟩:=AJ a.o.obj;have os:=Aa a.o.obj;clear y d P Q t L;go_wp2_with fail;refine(Is g n F _ d1 _ (a.o).obj).mono ?_;rintro e w3 ⟨rfl,z⟩;have c:=HH ((a.o).next z);obtain⟨R,S,y2,y3⟩:=AJ c.o.res;have ys:=Aa c.o.res;clear z b k m q;go_wp2_with fail;refine bK (v:=.tuple #[.agg #[.bool n,Y F l.length d1],.bool false,I J 2]) (by simp[cb,results122,go_sem,R,S]) rfl ?_;exact⟨_,rfl,c.o.last _ _⟩
 ·rw[k3];clear k3;obtain⟨M,W⟩:=H2 D E;clear D E;go_enter func122,ntmps122;go_wp2_with fail;rw[←s.o];refine H.o.mono ?_;rintro e N ⟨g,v1,rfl,A,B,i,f,x⟩;have d:=HH (BI.open_ s.o A B i f x);obtain⟨F,d1,rfl⟩:=Bc i;have t:=HH (K.o.below f);obtain⟨P,Q,_,_⟩:=AJ d.o.arg;clear A B i f x H K s;go_wp2_with fail;have j:=Ig n _ l N t.o L.o (by omega);rw[M.o] at j;refine j.mono ?_;clear j;rintro e V ⟨rfl,y⟩;have a:=HH (d.o.next y);obtain⟨b,k,m,q⟩:=AJ a.o.obj;have os:=Aa a.o.obj;clear y d P Q t L;go_wp2_with fail;have C:=Jf g 0 _ l p V b a.o.fr.rd (by omega);rw[W.o] at C;refine C.mono ?_;clear C b k m q;rintro e w3 ⟨rfl,z⟩;have c:=HH (a.o.next z);obtain⟨b,k,m,q⟩:=AJ c.o.obj;clear z a;go_wp2_with fail;refine(Is g n F _ d1 _ (c.o).obj).mono ?_;rintro e w4 ⟨rfl,X⟩;have u:=HH ((c.o).next X);obtain⟨R,S,y2,y3⟩:=AJ u.o.res;have ys:=Aa u.o.res;clear X b k m q;go_wp2_with fail;refine bK (v:=.tuple #[.agg #[.bool n,Y F l.length d1],.bool false,I J 2]) (by simp[cb,results122,go_sem,R,S]) rfl ?_;exact⟨_,rfl,u.o.last _ _⟩
 ·rw[k4];clear k4;obtain⟨M,W⟩:=H2 D E;clear D E;go_enter func122,ntmps122;go_wp2_with fail;rw[←s.o];refine H.o.mono ?_;rintro e N ⟨g,v1,rfl,A,B,i,f,x⟩;have d:=HH (BI.open_ s.o A B i f x);obtain⟨F,d1,rfl⟩:=Bc i;have t:=HH (K.o.below f);obtain⟨P,Q,_,_⟩:=AJ d.o.arg;clear A B i f x H K s;go_wp2_with fail;have j:=Ig true _ l N t.o L.o (by omega);rw[M.o] at j;refine j.mono ?_;clear j;rintro e V ⟨rfl,y⟩;have a:=HH (d.o.next y);obtain⟨b,k,m,q⟩:=AJ a.o.obj;have os:=Aa a.o.obj;clear y d P Q t L;go_wp2_with fail;have C:=Jf g 0 _ l p V b a.o.fr.rd (by omega);rw[W.o] at C;refine C.mono ?_;clear C b k m q;rintro e w3 ⟨rfl,z⟩;have c:=HH (a.o.next z);obtain⟨b,k,m,q⟩:=AJ c.o.obj;clear z a;go_wp2_with fail;refine(Is g true F _ d1 _ (c.o).obj).mono ?_;rintro e w4 ⟨rfl,X⟩;have u:=HH ((c.o).next X);obtain⟨R,S,y2,y3⟩:=AJ u.o.res;have ys:=Aa u.o.res;clear X b k m q;go_wp2_with fail;refine bK (v:=.tuple #[.agg #[.bool true,Y F l.length d1],.bool true,I J 0]) (by simp[cb,results122,go_sem,R,S]) rfl ?_;exact⟨_,rfl,u.o.last _ _⟩
 ·rw[k4];clear k4;obtain⟨M,W⟩:=H2 D E;clear D E;go_enter func122,ntmps122;go_wp2_with fail;rw[←s.o];refine H.o.mono ?_;rintro e N ⟨g,v1,rfl,A,B,i,f,x⟩;have d:=HH (BI.open_ s.o A B i f x);obtain⟨F,d1,rfl⟩:=Bc i;have t:=HH (K.o.below f);obtain⟨P,Q,_,_⟩:=AJ d.o.arg;clear A B i f x H K s;go_wp2_with fail;have j:=Ig false _ l N t.o L.o (by omega);rw[M.o] at j;refine j.mono ?_;clear j;rintro e V ⟨rfl,y⟩;have a:=HH (d.o.next y);obtain⟨b,k,m,q⟩:=AJ a.o.obj;have os:=Aa a.o.obj;clear y d P Q t L;go_wp2_with fail;have C:=Jf g 0 _ l p V b a.o.fr.rd (by omega);rw[W.o] at C;refine C.mono ?_;clear C b k m q;rintro e w3 ⟨rfl,z⟩;have c:=HH (a.o.next z);obtain⟨b,k,m,q⟩:=AJ c.o.obj;clear z a;go_wp2_with fail;refine(O3 g 256 _ (.bool false) l p r w3 c.o.obj c.o.fr.rd (by omega)).mono ?_;clear b k m q;rintro e w4 ⟨v4,rfl,ap,af,an⟩;obtain⟨a4,d4,rfl⟩:=Bc af;have u:=HH (c.o.enter ap af an);obtain⟨b,k,m,q⟩:=AJ u.o.obj;clear ap af an c;go_wp2_with fail;refine(Is g false a4 _ d4 _ (u.o).obj).mono ?_;rintro e w5 ⟨rfl,am⟩;have M5:=HH ((u.o).next am);obtain⟨R,S,y2,y3⟩:=AJ M5.o.res;have ys:=Aa M5.o.res;clear am b k m q;go_wp2_with fail;refine bK (v:=.tuple #[.agg #[.bool false,Y a4 (Cl l ⟨p,r,0⟩).length d4],.bool false,I J 0]) (by simp[cb,results122,go_sem,R,S]) rfl ?_;exact⟨_,rfl,M5.o.last _ _⟩
def Xk(n:Bool)(v:bq)(l:List Wt)(w:br)(h:Al w 0 v l)(V:Ck l)(hl:l.length≤90000):
  b9 prog 121 #[.agg #[.bool n,v]] w (NL w (.bool (Iz n l).1) l (I J (Iz n l).2)):=by
 obtain⟨S,cap,rfl,ag,ah,_⟩:=h.open_;obtain⟨R,D⟩:=ex ((w.alloc (T #[.bool n,Y S l.length cap] 99)).alloc (T #[.bool false,Y O 0 0] 99));have C:Al R 0 (Y S l.length cap) l:=by subst D;exact(h.alloc _).alloc _
 obtain⟨y,j,z,A⟩:=H4 (Lf n _ l R C (by omega)) D C V;clear h D C V;have W:(Ea n l=false∧Iz n l=(n,2))∨(Ea n l=true∧Iz n l=(false,0)):=by
  unfold Iz;cases h1:Ea n l<;>simp
 rcases W with ⟨u,x⟩|⟨u,x⟩
 ·rw[x];clear x;have B:=HH u;clear u;go_enter func121,ntmps121;go_wp2_with fail;rw[←j.o];refine y.o.mono ?_;rintro e L ⟨g,X,rfl,s,t,f,d,p⟩;have b:=HH (BI.open_ j.o s t f d p);obtain⟨m,d1,rfl⟩:=Bc f;have k:=HH (z.o.below d);obtain⟨M,N,_,_⟩:=AJ b.o.arg;clear s t f d p y z j;go_wp2_with fail;have i:=Ig n _ l L k.o A.o (by omega);rw[B.o] at i;refine i.mono ?_;clear i;rintro e w2 ⟨rfl,q⟩;have a:=HH (b.o.next q);obtain⟨E,F,H,K⟩:=AJ a.o.obj;have os:=Aa a.o.obj;clear q b M N k A;go_wp2_with fail;refine(Is g n m _ d1 _ (a.o).obj).mono ?_;rintro e w3 ⟨rfl,r⟩;have c:=HH ((a.o).next r);obtain⟨P,Q,y2,y3⟩:=AJ c.o.res;have ys:=Aa c.o.res;clear r E F H K;go_wp2_with fail;refine bK (v:=.tuple #[.agg #[.bool n,Y m l.length d1],I J 2]) (by simp[cb,results121,go_sem,P,Q]) rfl ?_;exact⟨_,rfl,c.o.last _ _⟩
 ·rw[x];clear x;have B:=HH u;clear u;go_enter func121,ntmps121;go_wp2_with fail;rw[←j.o];refine y.o.mono ?_;rintro e L ⟨g,X,rfl,s,t,f,d,p⟩;have b:=HH (BI.open_ j.o s t f d p);obtain⟨m,d1,rfl⟩:=Bc f;have k:=HH (z.o.below d);obtain⟨M,N,_,_⟩:=AJ b.o.arg;clear s t f d p y z j;go_wp2_with fail;have i:=Ig n _ l L k.o A.o (by omega);rw[B.o] at i;refine i.mono ?_;clear i;rintro e w2 ⟨rfl,q⟩;have a:=HH (b.o.next q);obtain⟨E,F,H,K⟩:=AJ a.o.obj;have os:=Aa a.o.obj;clear q b M N k A;go_wp2_with fail;refine(Is g false m _ d1 _ (a.o.Hy (.bool false)).obj).mono ?_;rintro e w3 ⟨rfl,r⟩;have c:=HH ((a.o.Hy (.bool false)).next r);obtain⟨P,Q,y2,y3⟩:=AJ c.o.res;have ys:=Aa c.o.res;clear r E F H K;go_wp2_with fail;refine bK (v:=.tuple #[.agg #[.bool false,Y m l.length d1],I J 0]) (by simp[cb,results121,go_sem,P,Q]) rfl ?_;exact⟨_,rfl,c.o.last _ _⟩
def NO(w:br)(c:bq)(l:List Wt)(m:List Int)(y:bq)(e:cO)(w':br):Prop:=∃ v u,e=.returned (.tuple #[.agg #[c,v],u,y])∧Aq w' w.heap.size v l∧OwnI w' w.heap.size u m∧Bl w w'
def Xo{w W b:br}{t i:ci}{c z j:bq}{g:Nat}{k c1:bq}{l:List Wt}{m:List Int}{u:bq}(h:BI w W t i c z j g k c1 l)(f:OwnI b W.heap.size u m)(e:Bl W b)(x y:bq):
  Aq ((b.setCell ⟨w.heap.size+1,0,O⟩ x).setCell ⟨w.heap.size+1,1,O⟩ y) w.heap.size (Y O 0 0) []∧OwnI ((b.setCell ⟨w.heap.size+1,0,O⟩ x).setCell ⟨w.heap.size+1,1,O⟩ y) w.heap.size u m∧Bl w ((b.setCell ⟨w.heap.size+1,0,O⟩ x).setCell ⟨w.heap.size+1,1,O⟩ y):=by
 have d:=Aa h.res;exact⟨Aq.nil _ _,Cx (eq (eq f (a:=⟨w.heap.size+1,0,O⟩) d _) (a:=⟨w.heap.size+1,1,O⟩) d _) (by omega),((h.next e).last x y).2⟩
def Yp(n:Bool)(v:bq)(l:List Wt)(w:br)(h:Al w 0 v l)(W:Ck l)(hl:l.length≤90000):
  b9 prog 120 #[.agg #[.bool n,v]] w (NO w (.bool (DC n l).1) (DC n l).2.1 (DC n l).2.2.1 (I J (DC n l).2.2.2)):=by
 obtain⟨V,cap,rfl,aj,ak,_⟩:=h.open_;obtain⟨S,E⟩:=ex ((w.alloc (T #[.bool n,Y V l.length cap] 99)).alloc (T #[.bool false,Y O 0 0] 99));have D:Al S 0 (Y V l.length cap) l:=by subst E;exact(h.alloc _).alloc _
 obtain⟨u,j,x,y⟩:=H4 (Lf n _ l S D (by omega)) E D W;clear h E D W;have ac:(Ea n l=false∧DC n l=(n,l,[],2))∨(Ea n l=true∧DC n l=(true,[],l.map (·.proc),0)):=by
  unfold DC;cases h1:Ea n l<;>simp
 rcases ac with ⟨s,t⟩|⟨s,t⟩
 ·rw[t];clear t;have B:=HH s;clear s;go_enter func120,ntmps120;go_wp2_with fail;rw[←j.o];refine u.o.mono ?_;rintro e M ⟨g,v1,rfl,q,r,f,c,m⟩;have b:=HH (BI.open_ j.o q r f c m);obtain⟨C,d1,rfl⟩:=Bc f;have k:=HH (x.o.below c);obtain⟨N,P,_,_⟩:=AJ b.o.arg;clear q r f c m u x j;go_wp2_with fail;have i:=Ig n _ l M k.o y.o (by omega);rw[B.o] at i;refine i.mono ?_;clear i;rintro e X ⟨rfl,p⟩;have a:=HH (b.o.next p);obtain⟨A,H,K,L⟩:=AJ a.o.obj;have os:=Aa a.o.obj;clear p b N P k y;go_wp2_with fail;refine(Is g n C _ d1 _ (a.o).obj).mono ?_;rintro e w3 ⟨rfl,d⟩;have z:=HH ((a.o).next d);obtain⟨Q,R,y2,y3⟩:=AJ z.o.res;have ys:=Aa z.o.res;clear d A H K L;go_wp2_with fail;refine bK (v:=.tuple #[.agg #[.bool n,Y C l.length d1],Y O 0 0,I J 2]) (by simp[cb,results120,go_sem,Q,R]) rfl ?_;exact⟨_,_,rfl,(z.o.last _ _).1,cn _ _ _ _,(z.o.last _ _).2⟩
 ·rw[t];clear t;have B:=HH s;clear s;go_enter func120,ntmps120;go_wp2_with fail;rw[←j.o];refine u.o.mono ?_;rintro e M ⟨g,v1,rfl,q,r,f,c,m⟩;have b:=HH (BI.open_ j.o q r f c m);obtain⟨C,d1,rfl⟩:=Bc f;have k:=HH (x.o.below c);obtain⟨N,P,_,_⟩:=AJ b.o.arg;clear q r f c m u x j;go_wp2_with fail;have i:=Ig n _ l M k.o y.o (by omega);rw[B.o] at i;refine i.mono ?_;clear i;rintro e X ⟨rfl,p⟩;have a:=HH (b.o.next p);obtain⟨A,H,K,L⟩:=AJ a.o.obj;have os:=Aa a.o.obj;clear p b N P k y;go_wp2_with fail;refine(Yf g 0 _ l X A a.o.fr.rd (by omega)).mono ?_;rintro e w3 ⟨u3,rfl,F,d⟩;obtain⟨a3,d3,rfl⟩:=Bq F;have HF:=HH (Xo a.o F d (.bool true) (Y O 0 0));clear A H K L;obtain⟨Q,R,y2,y3⟩:=AJ (a.o.next d).res;have ys:=Aa (a.o.next d).res;clear F d a;go_wp2_with fail;refine bK (v:=.tuple #[.agg #[.bool true,Y O 0 0],Y a3 (l.map (·.proc)).length d3,I J 0]) (by simp[cb,results120,go_sem,Q,R]) rfl ?_;exact⟨_,_,rfl,HF.o⟩
def Dm(n:Int)(l:List Wt):Int×List Wt×Int×Int:=
 if Dq n l=false then(n,l,-1,2) else match l with
  |x::m=>(n,m,x.proc,0)
  | []=>if n=255 then(n,[],-1,4) else(n+1,[],-1,0)
def Aq.tail{w:br}{B b f m d:Nat}{x:Wt}{l k:List Wt}(h:Aq w B (Y (Z ⟨b,f,O⟩) m d) k)(y:k=x::l):Aq w B (Y (if d=1 then Z ⟨b,f,O⟩ else Z ⟨b,f+3,O⟩) (m-1) (d-1)) l:=by
 subst y;obtain⟨⟨A,cap,e,q,E,r,p⟩,o⟩:=h;simp only[b5,cj] at e;obtain⟨rfl,rfl,rfl⟩:=e;simp only[cj] at q r p o;obtain⟨C,L,i,s,t,v⟩:=p (by omega);simp only[bM,de,and_true] at i;obtain⟨rfl,rfl⟩:=i;rw[ej];refine⟨⟨_,_,rfl,by omega,?_,DI l,fun D=>?_⟩,?_⟩
 ·intro h;split at h<;>cases h
 ·rw[if_neg (by omega)];refine⟨b,f+3,rfl,s,t,fun j u z=>?_⟩;have:=v (3+j) u (by rw[Gi,dd (by rw[JU];omega),JU];simpa using z);rwa [←eF] at this
 ·intro a n c e K j;simp only[b5] at e;obtain⟨g,F,H⟩:=e;have:a.block=b:=by split at g<;>(simp only[bM] at g;subst g;rfl)
  rw[this];exact o ⟨b,f,O⟩ _ _ rfl (by omega) j
def Aq.head{w:br}{B m d:Nat}{a:Option dj}{x:Wt}{l k:List Wt}(h:Aq w B (Y a m d) k)(p:k=x::l):m=l.length+1∧1≤d∧∃ b c,a=Z ⟨b,c,O⟩∧B≤b∧b<w.heap.size∧
  w.cell? ⟨b,c,O⟩=Z (I J x.proc)∧w.cell? ⟨b,c+1,O⟩=Z (I J x.prio)∧w.cell? ⟨b,c+2,O⟩=Z (I U x.val):=by
 subst p;obtain⟨⟨r,cap,g,j,s,t,f⟩,u⟩:=h;simp only[b5,cj] at g;obtain⟨rfl,rfl,rfl⟩:=g;simp only[cj] at j f;obtain⟨i,q,rfl,n,o,e⟩:=f (by omega);exact⟨rfl,by omega,i,q,rfl,n,o,e 0 _ rfl,e 1 _ rfl,e 2 _ rfl⟩
def YS(n:Int)(v:bq)(l:List Wt)(w:br)(h:Al w 0 v l)(ax:Ck l)(hl:l.length≤90000):
  b9 prog 119 #[.agg #[I J n,v]] w (IK w (I J (Dm n l).1) (Dm n l).2.1 (I J (Dm n l).2.2.1) (I J (Dm n l).2.2.2)):=by
 obtain⟨ao,cap,rfl,aQ,aT,_⟩:=h.open_;obtain⟨W0,am⟩:=ex ((w.alloc (T #[I J n,Y ao l.length cap] 95)).alloc (T #[I J 0,Y O 0 0] 95));have al:Al W0 0 (Y ao l.length cap) l:=by subst am;exact(h.alloc _).alloc _
 obtain⟨L,r,M,N⟩:=H4 (MO n _ l W0 al (by omega)) am al ax;clear h am al ax;have aF:(Dq n l=false∧Dm n l=(n,l,-1,2))∨(Dq n l=true∧∃ x m,l=x::m∧Dm n l=(n,m,x.proc,0))∨(Dq n l=true∧l=[]∧n=255∧Dm n l=(n,l,-1,4))∨
   (Dq n l=true∧l=[]∧n≠255∧Dm n l=(n+1,l,-1,0)):=by
  unfold Dm;cases Q:Dq n l
  ·simp
  ·cases l with
   |cons x m=>exact .inr (.inl ⟨rfl,x,m,rfl,rfl⟩)
   |nil=>by_cases h3:n=255<;>simp[h3]
 rcases aF with ⟨A,B⟩|⟨A,x,m,E,B⟩|⟨A,E,rfl,B⟩|⟨A,E,k3,B⟩
 ·rw[B];clear B;have P:=HH A;clear A;go_enter func119,ntmps119;go_wp2_with fail;rw[←r.o];refine L.o.mono ?_;rintro e S ⟨g,v1,rfl,y,z,p,k,t⟩;have j:=HH (BI.open_ r.o y z p k t);obtain⟨D,d1,rfl⟩:=Bc p;have s:=HH (M.o.below k);obtain⟨V,W,_,_⟩:=AJ j.o.arg;clear y z p k t L M r;go_wp2_with fail;have d:=Ih n _ l S s.o N.o (by omega);rw[P.o] at d;refine d.mono ?_;clear d;rintro e q ⟨rfl,u⟩;have c:=HH (j.o.next u);obtain⟨X,o1,o2,o3⟩:=AJ c.o.obj;have os:=Aa c.o.obj;clear u j V W s N;go_wp2_with fail;refine(GL g n D _ d1 _ (c.o).obj).mono ?_;rintro e R ⟨rfl,i⟩;have f:=HH ((c.o).next i);obtain⟨H,K,y2,y3⟩:=AJ f.o.res;have ys:=Aa f.o.res;clear i X o1 o2 o3;go_wp2_with fail;refine bK (v:=.tuple #[.agg #[I J n,Y D l.length d1],I J (-1),I J 2]) (by simp[cb,results119,go_sem,H,K]) rfl ?_;exact⟨_,rfl,f.o.last _ _⟩
 ·rw[B];clear B;have P:=HH A;clear A;have KL:=HH E;have aU:0<l.length:=by rw[E];simp
  have aV:(0:Int)<(l.length:Int):=by omega
  clear E;go_enter func119,ntmps119;go_wp2_with fail;rw[←r.o];refine L.o.mono ?_;rintro e S ⟨g,v1,rfl,y,z,p,k,t⟩;have j:=HH (BI.open_ r.o y z p k t);obtain⟨D,d1,rfl⟩:=Bc p;have s:=HH (M.o.below k);obtain⟨V,W,_,_⟩:=AJ j.o.arg;clear y z p k t L M r;go_wp2_with fail;have d:=Ih n _ l S s.o N.o (by omega);rw[P.o] at d;refine d.mono ?_;clear d;rintro e q ⟨rfl,u⟩;have c:=HH (j.o.next u);obtain⟨X,o1,o2,o3⟩:=AJ c.o.obj;have os:=Aa c.o.obj;clear u j V W s N;obtain⟨aD,aL,b,ag,rfl,aJ,aK,c0,c1,c2⟩:=c.o.fr.head KL.o;have au:=c.o.apart _ _ _ rfl (by omega);have aw:Hq (b≠g):=au;clear au aD;have T2:=HH (c.o.fr.tail KL.o);have af:Hq (∀ (F:bq),Aq q (w.heap.size+2) F m→(∀ a n cc,F=Y (Z a) n cc→0<n→a.block≠g)→BI w (((q.setCell ⟨g,0,O⟩ F).alloc (T #[I J x.proc,I J x.prio,I U x.val] 161)).drew) 95 248 (I J n) (I J 0) (Y ao l.length cap) g F (I J n) m∧
    ((q.setCell ⟨g,0,O⟩ F).alloc (T #[I J x.proc,I J x.prio,I U x.val] 161)).drew.heap[q.heap.size]? =Z (T #[I J x.proc,I J x.prio,I U x.val] 161 (0,0))):=by
   intro F hf ha;have Q:=(c.o.MY F hf ha).next ((bJ _ _).alloc (bH _) (T #[I J x.proc,I J x.prio,I U x.val] 161));refine⟨⟨Q.arg,Q.res,Q.ge,Q.obj,Q.fr,Q.below.drew,Q.apart⟩,?_⟩;have:=bL (q.setCell ⟨g,0,O⟩ F) (T #[I J x.proc,I J x.prio,I U x.val] 161);rw[show (q.setCell ⟨g,0,O⟩ F).heap.size=q.heap.size by simp[cm]] at this;exact this
  have aE:¬(q.heap.size=w.heap.size+1):=by have:=Aa c.o.res;omega
  have aS:¬(w.heap.size+1=q.heap.size):=fun e=>aE e.symm
  by_cases hd:d1=1
  ·subst hd;have C:=HH (af.o (Y (Z ⟨b,ag,O⟩) (l.length-1) 0) (by have:=T2.o;rwa [if_pos rfl] at this) (by intro a n cc d _;simp only[b5,bM] at d;rw[←d.1];exact aw.o));clear af T2 c;go_wp2_with fail
   go_region_with (go_at_call 154;refine(GL g n _ _ _ _ C.o.1.obj).mono ?_;rintro e R ⟨rfl,i⟩;have f:=HH (C.o.1.next i);obtain⟨H,K,y2,y3⟩:=AJ f.o.res;have ys:=Aa f.o.res;have hX:=(i.block _ (Aa C.o.2)).trans C.o.2;have e0:R.cell? ⟨q.heap.size,0,O⟩=Z (I J x.proc):=(by rw[bI R _ _ _ _ _ hX];rfl);clear i hX)
   all_goals
    go_wp2_with fail;refine bK (v:=.tuple #[.agg #[I J n,Y (Z ⟨b,ag,O⟩) (l.length-1) 0],I J x.proc,I J 0]) (by simp[cb,results119,go_sem,H,K]) rfl ?_;exact⟨_,rfl,f.o.last _ _⟩
  ·skip;have C:=HH (af.o (Y (Z ⟨b,ag+3,O⟩) (l.length-1) (d1-1)) (by have:=T2.o;rwa [if_neg hd] at this) (by intro a n cc d _;simp only[b5,bM] at d;rw[←d.1];exact aw.o));clear af T2 c;go_wp2_with fail
   go_region_with (go_at_call 154;refine(GL g n _ _ _ _ C.o.1.obj).mono ?_;rintro e R ⟨rfl,i⟩;have f:=HH (C.o.1.next i);obtain⟨H,K,y2,y3⟩:=AJ f.o.res;have ys:=Aa f.o.res;have hX:=(i.block _ (Aa C.o.2)).trans C.o.2;have e0:R.cell? ⟨q.heap.size,0,O⟩=Z (I J x.proc):=(by rw[bI R _ _ _ _ _ hX];rfl);clear i hX)
   all_goals
    go_wp2_with fail;refine bK (v:=.tuple #[.agg #[I J n,Y (Z ⟨b,ag+3,O⟩) (l.length-1) (d1-1)],I J x.proc,I J 0]) (by simp[cb,results119,go_sem,H,K]) rfl ?_;exact⟨_,rfl,f.o.last _ _⟩
 ·rw[B];clear B;have P:=HH A;clear A;have hz:¬(0<l.length):=by rw[E];simp
  have aH:¬((0:Int)<(l.length:Int)):=by omega
  clear E;go_enter func119,ntmps119;go_wp2_with fail;rw[←r.o];refine L.o.mono ?_;rintro e S ⟨g,v1,rfl,y,z,p,k,t⟩;have j:=HH (BI.open_ r.o y z p k t);obtain⟨D,d1,rfl⟩:=Bc p;have s:=HH (M.o.below k);obtain⟨V,W,_,_⟩:=AJ j.o.arg;clear y z p k t L M r;go_wp2_with fail;have d:=Ih 255 _ l S s.o N.o (by omega);rw[P.o] at d;refine d.mono ?_;clear d;rintro e q ⟨rfl,u⟩;have c:=HH (j.o.next u);obtain⟨X,o1,o2,o3⟩:=AJ c.o.obj;have os:=Aa c.o.obj;clear u j V W s N;go_wp2_with fail;refine(GL g 255 D _ d1 _ (c.o).obj).mono ?_;rintro e R ⟨rfl,i⟩;have f:=HH ((c.o).next i);obtain⟨H,K,y2,y3⟩:=AJ f.o.res;have ys:=Aa f.o.res;clear i X o1 o2 o3;go_wp2_with fail;refine bK (v:=.tuple #[.agg #[I J 255,Y D l.length d1],I J (-1),I J 4]) (by simp[cb,results119,go_sem,H,K]) rfl ?_;exact⟨_,rfl,f.o.last _ _⟩
 ·rw[B];clear B;have P:=HH A;clear A;have an:=Nz P.o;have aO:0≤n:=an.1;have aP:n≤255:=an.2;clear an;have aR:(n==255)=false:=by simp;exact k3
  have aN:n<255:=by omega
  clear k3;have hz:¬(0<l.length):=by rw[E];simp
  have aH:¬((0:Int)<(l.length:Int)):=by omega
  clear E;go_enter func119,ntmps119;go_wp2_with fail;rw[←r.o];refine L.o.mono ?_;rintro e S ⟨g,v1,rfl,y,z,p,k,t⟩;have j:=HH (BI.open_ r.o y z p k t);obtain⟨D,d1,rfl⟩:=Bc p;have s:=HH (M.o.below k);obtain⟨V,W,_,_⟩:=AJ j.o.arg;clear y z p k t L M r;go_wp2_with fail;have d:=Ih n _ l S s.o N.o (by omega);rw[P.o] at d;refine d.mono ?_;clear d;rintro e q ⟨rfl,u⟩;have c:=HH (j.o.next u);obtain⟨X,o1,o2,o3⟩:=AJ c.o.obj;have os:=Aa c.o.obj;clear u j V W s N;go_wp2_with fail;refine(GL g (n+1) D _ d1 _ (c.o.Hy (I J (n+1))).obj).mono ?_;rintro e R ⟨rfl,i⟩;have f:=HH ((c.o.Hy (I J (n+1))).next i);obtain⟨H,K,y2,y3⟩:=AJ f.o.res;have ys:=Aa f.o.res;clear i X o1 o2 o3;go_wp2_with fail;refine bK (v:=.tuple #[.agg #[I J (n+1),Y D l.length d1],I J (-1),I J 0]) (by simp[cb,results119,go_sem,H,K]) rfl ?_;exact⟨_,rfl,f.o.last _ _⟩
structure LS(W:br)(B g:Nat)(t:ci)(x y:bq)(l:List Wt):Prop where
 blk:W.heap[g]? =Z (T #[x,y] t (0,0))
 lt:g<B
 fr:Aq W B y l
section
variable {W W':br} {B g g' o:Nat} {t:ci} {x y x' y' u:bq} {l l':List Wt}
def LS.next(h:LS W B g t x y l)(a:Bl W W'):LS W' B g t x y l:=⟨(a.block _ (Aa h.blk)).trans h.blk,h.lt,h.fr.below a⟩
def LS.drew(h:LS W B g t x y l):LS W.drew B g t x y l:=⟨h.blk,h.lt,h.fr⟩
def LS.drewN(h:LS W B g t x y l)(n:Nat):LS (W.drewN n) B g t x y l:=⟨h.blk,h.lt,h.fr⟩
def LS.alloc(h:LS W B g t x y l)(a:Obj):LS (W.alloc a) B g t x y l:=h.next ((bJ _ _).alloc (bH _) _)
def LS.oth(h:LS W B g t x y l)(b:g'≠g)(a:g'<B):LS (W.setCell ⟨g',o,O⟩ u) B g t x y l:=
 ⟨(bR _ _ _ _ (by exact fun e=>b e.symm)).trans h.blk,h.lt,h.fr.low a⟩
def LS.put(h:LS W B g t x y l)(c:Aq W B y' l'):LS ((W.setCell ⟨g,0,O⟩ x').setCell ⟨g,1,O⟩ y') B g t x' y' l':=by
 refine⟨?_,h.lt,(c.low h.lt).low h.lt⟩;have a:=b8 W g 0 _ _ x' h.blk;have b:=b8 _ g 1 _ _ y' a;simpa using b
def LS.cells(h:LS W B g t x y l):W.cell? ⟨g,0,O⟩=Z x∧W.cell? ⟨g,1,O⟩=Z y∧W.frozen? ⟨g,0,O⟩=false∧W.frozen? ⟨g,1,O⟩=false:=AJ h.blk
end
structure LV(W:br)(g:Nat)(t:ci)(x y:bq)(l:List Wt):Prop where
 blk:W.heap[g]? =Z (T #[x,y] t (0,0))
 fr:Aq W 0 y l
 ap:∀ a n c,y=Y (Z a) n c→0<n→a.block≠g
def Mp{W:br}{B:Nat}{y:bq}{l:List Wt}(h:Aq W B y l){a:dj}{n c:Nat}(k:y=Y (Z a) n c)(o:0<n):B≤a.block∧a.block<W.heap.size:=by
 obtain⟨m,cap,e,_,_,_,j⟩:=h.1;subst k;simp only[b5] at e;obtain⟨d,p,_⟩:=e;obtain⟨b,q,g,f,i,_⟩:=j (by omega);rw[g] at d;simp only[bM] at d;subst d;exact⟨f,i⟩
section
variable {W W':br} {B g:Nat} {t:ci} {x y x' y':bq} {l l':List Wt}
def LV.next(h:LV W g t x y l)(a:Bl W W'):LV W' g t x y l:=⟨(a.block _ (Aa h.blk)).trans h.blk,h.fr.below a,h.ap⟩
def LV.drewN(h:LV W g t x y l)(n:Nat):LV (W.drewN n) g t x y l:=⟨h.blk,h.fr,h.ap⟩
def LV.new(a:Aq W B y l):LV (W.alloc (T #[x,y] t)) W.heap.size t x y l:=
 ⟨bL W _,(a.mono (ch _)).alloc _,fun _ _ _ c b=>dF (Mp a c b).2⟩
def LV.put(h:LV W g t x y l)(b:Aq W B y' l')(a:g<B)(x':bq):LV ((W.setCell ⟨g,0,O⟩ x').setCell ⟨g,1,O⟩ y') g t x' y' l':=by
 refine⟨?_,((b.low a).low a).mono (ch _),fun _ _ _ f e=>?_⟩
 ·have c:=b8 W g 0 _ _ x' h.blk;have d:=b8 _ g 1 _ _ y' c;simpa using d
 ·have:=(Mp b f e).1;omega
def LV.cells(h:LV W g t x y l):W.cell? ⟨g,0,O⟩=Z x∧W.cell? ⟨g,1,O⟩=Z y∧W.frozen? ⟨g,0,O⟩=false∧W.frozen? ⟨g,1,O⟩=false:=AJ h.blk
end
def MS{w:br}{B:Nat}{v:bq}{l:List Int}(h:OwnI w B v l):∃ a m c,v=Y a m c∧m=l.length:=by
 obtain⟨a,c,b⟩:=Bq h;exact⟨a,_,c,b,rfl⟩
def Af(k:cK)(w:br)(B:Nat)(v:bq)(l:List Int):Prop:=Sl w B 1 v l.length (l.map (cY k))
def Af.below{k:cK}{w w':br}{B:Nat}{v:bq}{l:List Int}(h:Af k w B v l)(a:Bl w w'):Af k w' B v l:=Sl.below h a
def Af.open_{k:cK}{w:br}{B:Nat}{v:bq}{l:List Int}(h:Af k w B v l):∃ (a:Option dj) (cap:Nat),v=Y a l.length cap∧l.length≤cap∧(a=O→cap=0)∧
  (0<l.length→∃ b c,a=Z ⟨b,c,O⟩∧B≤b∧b<w.heap.size∧∀ j (d:j<l.length),w.cell? ⟨b,c+j,O⟩=Z (I k l[j])):=by
 obtain⟨a,cap,q,n,o,_,p⟩:=h;refine⟨a,cap,q,n,o,fun e=>?_⟩;obtain⟨b,c,g,f,i,m⟩:=p e;exact⟨b,c,g,f,i,fun j d=>m j _ (by simp[d])⟩
def NW{w:br}{x:dj}{v:bq}(h:w.cell? x=Z v):x=⟨x.block,x.off,O⟩:=by
 obtain⟨b,o,s⟩:=x;unfold cp at h;split at h
 ·split at h
  ·cases h
  ·rename_i a;cases s with
   |none=>rfl
   |some q=>simp at a
 ·cases h
def Af.nil(k:cK)(w:br)(B:Nat):Af k w B (Y O 0 0) []:=Sl.nil w B 1
def OwnI.rd{w:br}{B:Nat}{v:bq}{l:List Int}(h:OwnI w B v l):Af J w B v l:=by
 have:=Sl.Bw h;exact this
def Af.mono{k:cK}{w:br}{B a:Nat}{v:bq}{l:List Int}(h:Af k w B v l)(b:a≤B):Af k w a v l:=Sl.mono h b
def Af.low{k:cK}{w:br}{B g o:Nat}{v u:bq}{l:List Int}(h:Af k w B v l)(x:g<B):Af k (w.setCell ⟨g,o,O⟩ u) B v l:=by
 obtain⟨a,cap,s,n,p,m,q⟩:=h;refine⟨a,cap,s,n,p,m,fun c=>?_⟩;obtain⟨b,t,e,d,f,i⟩:=q c;exact⟨b,t,e,d,by simpa[cm] using f,fun j u r=>(dX (bR _ _ _ _ (by show b≠g;omega))).trans (i j u r)⟩
def Af.drewN{k:cK}{w:br}{B:Nat}{v:bq}{l:List Int}(h:Af k w B v l)(n:Nat):Af k (w.drewN n) B v l:=h
def Af.alloc{k:cK}{w:br}{B:Nat}{v:bq}{l:List Int}(h:Af k w B v l)(o:Obj):Af k (w.alloc o) B v l:=Sl.alloc h o
def Af.one{k:cK}(w:br)(t:ci)(n:Int):Af k (w.alloc (T #[I k n] t)) 0 (Y (Z ⟨w.heap.size,0,O⟩) 1 1) [n]:=by
 refine⟨_,_,rfl,bH _,(by intro h;cases h),rfl,fun _=>⟨_,_,rfl,ch _,by simp,fun j u a=>?_⟩⟩;rw[bI _ _ _ _ _ _ (bL w _)];simpa using a
def Mz:(prog.info? 34).map (fun i=>(i.zero,i.size,i.bytes))=Z (Z (Y O 0 0),1,24):=by kernel_rfl
def C5(w:br)(B:Nat)(v:bq)(l:List Int):Prop:=w.ownsRow B 5 1 v l.length (l.map (cY U))
def A6(w:br)(B:Nat)(v:bq)(q:List (List Int)):Prop:=
 ∃ vs:List bq,Sl w B 1 v q.length vs∧∀ (i:Nat) u x,vs[i]? =Z u→q[i]? =Z x→Af U w B u x
def Bk(w:br)(B:Nat)(v:bq)(q:List (List Int)):Prop:=
 ∃ vs:List bq,w.ownsRow B 34 1 v q.length vs∧∀ (i:Nat) u x,vs[i]? =Z u→q[i]? =Z x→C5 w B u x
def PH{w:br}{B f e c s m n l:Nat}{v b:bq}{o p:List bq}(h:w.ownsRow B e s v n o)(i:w.ownsRow f c m b l p)(k:e≠c):b.ownBlock=O∨b.ownBlock≠v.ownBlock:=by
 rcases i.2 with ⟨rfl,_⟩|⟨t,q,r,rfl,_,a,_⟩
 ·exact .inl rfl
 ·right;rcases h.2 with ⟨rfl,_⟩|⟨g,cap,cur,rfl,_,j,_⟩
  ·simp[cF]
  ·intro d;simp only[cF,bM] at d;subst d;rw[j] at a;simp only[bM,cG] at a;exact k a.2.1
def UM{w w':br}(h:Bl w w'):w.grownBy w' O:=⟨h.os,h.tape,h.output,h.size,fun k a _=>h.block k a⟩
def CA{w w':br}{B e s n:Nat}{v:bq}{a:List bq}(h:w.ownsRow B e s v n a)(b:Bl w w'):w'.ownsRow B e s v n a:=by
 refine h.kept (UM b) ?_;cases c:v.ownBlock with
 |none=>exact .inl rfl
 |some k=>exact .inr (by simp)
section
variable {w w':br} {B B':Nat} {v:bq} {q:List (List Int)} {l:List Int}
def C5.rd(h:C5 w B v l):Af U w B v l:=Sl.Bw h
def C5.below(h:C5 w B v l)(a:Bl w w'):C5 w' B v l:=CA h a
def C5.mono(h:C5 w B v l)(a:B'≤B):C5 w B' v l:=Cx h a
def A6.below(h:A6 w B v q)(a:Bl w w'):A6 w' B v q:=by
 obtain⟨vs,b,c⟩:=h;exact⟨vs,b.below a,fun i u x d e=>(c i u x d e).below a⟩
def A6.mono(h:A6 w B v q)(a:B'≤B):A6 w B' v q:=by
 obtain⟨vs,b,c⟩:=h;exact⟨vs,b.mono a,fun i u x d e=>(c i u x d e).mono a⟩
def A6.drew(h:A6 w B v q):A6 w.drew B v q:=h
def A6.drewN(h:A6 w B v q)(k:Nat):A6 (w.drewN k) B v q:=h
def A6.alloc(h:A6 w B v q)(o:Obj):A6 (w.alloc o) B v q:=h.below ((bJ _ _).alloc (bH _) _)
def A6.nil(w:br)(B:Nat):A6 w B (Y O 0 0) []:=⟨[],Sl.nil w B 1,fun i u x a=>by simp at a⟩
def A6.shape(h:A6 w B v q):∃ a m c,v=Y a m c∧m=q.length:=by
 obtain⟨vs,⟨b,cap,d,_⟩,_⟩:=h;exact⟨b,_,cap,d,rfl⟩
def Bk.rd(h:Bk w B v q):A6 w B v q:=by
 obtain⟨vs,a,b⟩:=h;exact⟨vs,Sl.Bw a,fun i u x c d=>(b i u x c d).rd⟩
def Bk.below(h:Bk w B v q)(a:Bl w w'):Bk w' B v q:=by
 obtain⟨vs,b,c⟩:=h;exact⟨vs,CA b a,fun i u x d e=>(c i u x d e).below a⟩
def Bk.mono(h:Bk w B v q)(a:B'≤B):Bk w B' v q:=by
 obtain⟨vs,b,c⟩:=h;exact⟨vs,Cx b a,fun i u x d e=>(c i u x d e).mono a⟩
def Bk.nil(w:br)(B:Nat):Bk w B (Y O 0 0) []:=⟨[],cn _ _ _ _,fun i u x a=>by simp at a⟩
def Bk.snoc{vs:List bq}{u g:bq}{x:List Int}(h:w.ownsRow B 34 1 v q.length vs)(d:∀ (i:Nat) u x,vs[i]? =Z u→q[i]? =Z x→C5 w B u x)(e:C5 w B u x)
  (c:w.grownBy w' v.ownBlock) (k:w'.ownsRow B 34 1 g (q.length+1) (vs++ [u])):Bk w' B g (q++ [x]):=by
 have n:vs.length=q.length:=by have:=h.1;omega
 refine⟨vs++ [u],by simpa using k,fun i f j a b=>?_⟩;by_cases o:i<q.length
 ·rw[cA (by omega)] at a b;exact dM (d i f j a b) c (PH h (d i f j a b) (by decide))
 ·rw[dd (by omega)] at a b;have m:i=q.length:=by
   have:=(ck.1 b).1;simp at this;omega
  subst m;rw[n] at a;simp only[Nat.sub_self,List.getElem?_cons_zero,bM] at a b;subst a b;exact dM e c (PH h e (by decide))
end
def LB(w:br)(l:List Int)(e:cO)(w':br):Prop:=∃ v,e=.returned v∧C5 w' w.heap.size v l∧Bl w w'
def Gj(v:bq)(l:List Int)(w:br)(h:Af U w 0 v l)(Q:l.length≤1000000):
  b9 prog 27 #[v] w (LB w l):=by
 obtain⟨s,cap,rfl,R,f,r,g⟩:=h;obtain⟨N,C,K,L,M⟩:=cB OT;have q:∀ (w:br) (a:Option dj) (n c i e:Nat),(binOp .eql 34 (Y a n c) (Y O i e)).run prog w=.ok (.bool a.isNone) w:=fun w a n c i e=>dZ w _ _ a n c i e underlying34
 have H:=HH r;clear r;cases s with
 |none=>
  have t:l=[]:=cs (by have:=f rfl;omega);subst t;clear g f;go_enter func27,ntmps27;go_wp2;go_ret;exact⟨_,rfl,cn _ _ _ _,bJ _ _⟩
 |some m=>
  have A:Hq (∀ j u,(l.map (cY U))[j]? =Z u→w.cell? (m.add j)=Z u):=by
   intro j u d;have E:=(ck.1 d).1;obtain⟨b,V,x,_,_,y⟩:=g (by rw[List.length_map] at E;omega);cases x;rw[Cu];exact y j u d
  clear g f;go_enter func27,ntmps27;go_wp2_with (at_builtin;refine cD _ rfl _ _ 34 rfl w.heap.size 5 N (I U 0) 1 1 underlying34 C K L M rfl (by decide) _ _ _ rfl (dy w #[] 0 (bH _) (ch _) (by simp)) m l.length cap (l.map (cY U)) rfl ?qc1 ?qc2 ?qc3 ?qc4 ?qc5 ?qc6 ?_)
  case qc1=>exact H.o
  case qc2=>
   intro j u p;exact(dp _ _ _ (cE _ _ (A.o j u p))).trans (A.o j u p)
  case qc3=>intro u d;rw[eG] at d;obtain⟨z,_,rfl⟩:=d;rfl
  case qc4=>unfold cM;omega
  case qc5=>omega
  case qc6=>simp
  intro P W F B S;go_wp2;go_ret;exact⟨P,rfl,by simpa[C5] using F,((bJ _ w).alloc (bH _) _).grown B (by simp) (by intro k D;simp[cF] at D;omega)⟩
def QX(w:br)(q:List (List Int))(e:cO)(w':br):Prop:=∃ v,e=.returned v∧Bk w' w.heap.size v q∧Bl w w'
def SW(v:bq)(q:List (List Int))(w:br)(h:A6 w 0 v q)(hl:q.length≤100000)(M:∀ x∈q,x.length≤1000000):
  b9 prog 129 #[v,.func (.func 27) #[] #[]] w (QX w q):=by
 obtain⟨vs,⟨ao,l,rfl,aG,aJ,V,pa⟩,L⟩:=h;obtain⟨i0,hi,av,aw,ax⟩:=cB Mz;obtain⟨ag,ad,ah,HM⟩:=H4 pa L V M;clear pa L V M;go_enter func129,ntmps129;go_wp2
 go_loopg [5,7,10] q.length (fun gg s5 _ az wr=>∃ k:Nat,k≤q.length∧q.length-k≤gg∧az=I J k∧Hq (Bl w wr∧Bk wr w.heap.size s5 (q.take k)))
 case atStart=>exact⟨0,ch _,by omega,rfl,bJ _ w,Bk.nil _ _⟩
 case round=>
  obtain⟨k,hk,H,rfl,A⟩:=hrel;by_cases s:k<q.length
  ·have an:(k:Int)<(q.length:Int):=by omega
   obtain⟨b,aL,rfl,_,F,l⟩:=ag.o (by omega);have al:k<vs.length:=by have:=ah.o;omega
   have a:vs[k]? =Z vs[k]:=cf al;have P:q[k]? =Z q[k]:=cf s;have f:=l k _ a;have R:=(ad.o k _ _ a P).below (A.o.1.mono (by omega:w.heap.size≤w.heap.size));rw[←A.o.1.cell (p:=⟨b,_,O⟩) F] at f;obtain⟨au,mu,S,_,_,_⟩:=R.open_;rw[S] at f R;obtain⟨C,am⟩:=H2 R (HM.o _ (di s));have aF:b<wr.heap.size:=ce F A.o.1.size;clear l a P S R;generalize ap:q[k].length=nq at f C;clear ap;go_wp2_with fail;refine(Gj _ q[k] _ C.o am.o).mono ?_;rintro e w2 ⟨u2,rfl,y,n⟩;obtain⟨E,c2,rfl⟩:=Bq y;have m:=A.o.1.trans (n.mono A.o.1.size);obtain⟨ws,t,W⟩:=A.o.2.below n;have r:(q.take k).length=k:=by simp;omega
   rw[r] at t;obtain⟨d,HW,D,ac⟩:=H4 t W (y.mono A.o.1.size) m;have aq:w.heap.size≤w2.heap.size:=m.size;have B:=HH r;generalize Q:q[k].length=X at D ⊢;have aC:=HH Q;clear t W y n m r Q;go_wp2_with (at_builtin;refine cD _ rfl _ _ 35 rfl w.heap.size 34 i0 (Y O 0 0) 1 24 underlying35 hi av aw ax rfl (by decide) _ _ _ rfl (d.o.alloc _) ⟨w2.heap.size,0,O⟩ 1 1 [Y E X c2] rfl rfl ?c1 ?c2 ?c3 ?c4 ?c5 ?_)
   case c1=>
    intro j u c
    match j,c with
    |0,c=>simp at c;subst c;rw[Cu];go_simp
   case c2=>intro u a;simp at a;subst a;rfl
   case c3=>unfold cM;omega
   case c4=>omega
   case c5=>simp;omega
   intro v' w3 N K _;obtain⟨af,z⟩:=H2 N K;clear N K;go_wp2
   go_roundg (q.length-(k+1))
   case measure=>omega
   case rel=>
    refine⟨k+1,by omega,by omega,by go_num,(ac.o.alloc aq _).grown z.o (by simp;omega) (fun g H=>(d.o.lt g H).1),?_⟩;rw[cd s];refine Bk.snoc (q:=q.take k) (vs:=ws) (u:=Y E X c2) ?_ (fun i u x a hx=>(HW.o i u x a hx).below ((bJ _ _).alloc (bH _) _)) (D.o.below ((bJ _ _).alloc (bH _) _)) z.o ?_
    ·rw[B.o];exact d.o.alloc _
    ·rw[B.o];exact af.o
  ·have an:¬(k:Int)<(q.length:Int):=by omega
   go_wp2;go_ret;refine⟨_,rfl,?_,A.o.1⟩;have:=A.o.2;rwa [cH (by omega)] at this
structure Upd(M:List Nat)(w w':br):Prop where
 os:w'.os=w.os
 tape:w'.tape=w.tape
 output:w'.output=w.output
 size:w.heap.size≤w'.heap.size
 block:∀ k,k<w.heap.size→k∉M→w'.heap[k]? =w.heap[k]?
def Upd.refl(M:List Nat)(w:br):Upd M w w:=⟨rfl,rfl,rfl,bH _,fun _ _ _=>rfl⟩
def Upd.trans{M:List Nat}{a b c:br}(h:Upd M a b)(k:Upd M b c):Upd M a c:=
 ⟨k.os.trans h.os,k.tape.trans h.tape,k.output.trans h.output,cC h.size k.size,fun i d e=>(k.block i (ce d h.size) e).trans (h.block i d e)⟩
def Upd.below{M:List Nat}{w w':br}(h:Bl w w'):Upd M w w':=⟨h.os,h.tape,h.output,h.size,fun k a _=>h.block k a⟩
def Upd.set{M:List Nat}{w:br}{b:Nat}(a:b∈M)(o:Nat)(u:bq):Upd M w (w.setCell ⟨b,o,O⟩ u):=
 ⟨rfl,rfl,rfl,by simp[cm],fun k _ c=>bR _ _ _ _ (by rintro rfl;exact c a)⟩
def Upd.drew{M:List Nat}{w w':br}(h:Upd M w w'):Upd M w w'.drew:=⟨h.os,h.tape,h.output,h.size,h.block⟩
def Upd.drewN{M:List Nat}{w w':br}(h:Upd M w w')(n:Nat):Upd M w (w'.drewN n):=⟨h.os,h.tape,h.output,h.size,h.block⟩
section
variable {w:br} {g a b c d e:Nat} {u v x y z:bq}
def Upd.s1:Upd [g] w (w.setCell ⟨g,a,O⟩ u):=.set (by simp) _ _
def Upd.s4:Upd [g] w ((((w.setCell ⟨g,a,O⟩ u).setCell ⟨g,b,O⟩ v).setCell ⟨g,c,O⟩ x).setCell ⟨g,d,O⟩ y):=((Upd.s1.trans .s1).trans .s1).trans .s1
def Upd.s5:Upd [g] w (((((w.setCell ⟨g,a,O⟩ u).setCell ⟨g,b,O⟩ v).setCell ⟨g,c,O⟩ x).setCell ⟨g,d,O⟩ y).setCell ⟨g,e,O⟩ z):=Upd.s4.trans .s1
end
def EX(w:br)(g:Nat)(e d f h r2 r3:Int)(x:Ai)(j:bq)(k a b:Int)(i:bq):Prop:=
 w.heap[g]? =Z (T #[I J e,I J d,I U f,I U h,I U r2,I U r3,I U x.op,I J x.a,I J x.b,I J x.c,j,I U k,I J a,I J b,i] 189 (0,0))
section
variable {w:br} {g:Nat} {pc left r0 r1 r2 r3:Int} {x:Ai} {vm vd:bq} {k a b:Int}
def EX.lt(h:EX w g pc left r0 r1 r2 r3 x vm k a b vd):g<w.heap.size:=Aa h
def EX.cell(h:EX w g pc left r0 r1 r2 r3 x vm k a b vd)(o:Nat):w.cell? ⟨g,o,O⟩=(#[I J pc,I J left,I U r0,I U r1,I U r2,I U r3,I U x.op,I J x.a,I J x.b,I J x.c,vm,I U k,I J a,I J b,vd]:Array bq)[o]?:=bI w _ _ _ _ _ h
def EX.frozen(h:EX w g pc left r0 r1 r2 r3 x vm k a b vd)(o:Nat):w.frozen? ⟨g,o,O⟩=false:=by simp[b6,show w.heap[g]? =_ from h]
end
def CH{w:br}{g:Nat}{a:Array bq}{t:ci}(h:w.heap[g]? =Z (T a t (0,0)))(o:Nat)(v:bq):(w.setCell ⟨g,o,O⟩ v).heap[g]? =Z (T (a.setIfInBounds o v) t (0,0)):=by
 have:=b8 w g o _ _ v h;simpa using this
def D3(w:br)(g:Nat)(i:Int)(a:0≤i)(b:i≤3):
  b9 prog 280 #[G (Z ⟨g,0,O⟩),I J i] w fun e w'=>e=.returned (G (Z ⟨g,2+i.toNat,O⟩))∧w=w':=by
 have c:i<4:=by omega
 go_enter func280,ntmps280;go_wp2;go_ret;exact⟨rfl,rfl⟩
def Ur(w:br)(g:Nat)(i d j l r2 r3:Int)(x:Ai)(m s:bq)(k a b f c:Int)(h:EX w g i d j l r2 r3 x m k a b s)(t:0≤f)(u:f≤255):
  b9 prog 284 #[G (Z ⟨g,0,O⟩),I U f,I J c] w fun e w'=>e=.returned (.tuple #[])∧EX w' g i d j l r2 r3 x m 15 f c (Y O 0 0)∧Upd [g] w w':=by
 have n:=h.cell 11;have p:=h.cell 12;have q:=h.cell 13;have r:=h.cell 14;have f11:=h.frozen 11;have f12:=h.frozen 12;have f13:=h.frozen 13;have f14:=h.frozen 14;have v:=h.lt;simp at n p q r;have H:=HH h;clear h;go_enter func284,ntmps284;go_wp2
 go_end0
 refine⟨rfl,?_,Upd.s4⟩;exact(((CH H.o 11 _).trans rfl|>fun h=>CH h 12 _)|>fun h=>CH h 13 _)|>fun h=>CH h 14 _
def Gk(w:br)(g:Nat)(l j m n r2 r3:Int)(x:Ai)(p v:bq)(k a b:Int)(i:Int)(c:Option dj)(f d:Nat)(h:EX w g l j m n r2 r3 x p k a b v):
  b9 prog 282 #[G (Z ⟨g,0,O⟩),I U i,Y c f d] w fun e w'=>e=.returned (.tuple #[])∧EX w' g l j m n r2 r3 x p i x.a 0 (Y c f d)∧Upd [g] w w':=by
 have u:=h.cell 7;have q:=h.cell 11;have r:=h.cell 12;have s:=h.cell 13;have t:=h.cell 14;have f11:=h.frozen 11;have f12:=h.frozen 12;have f13:=h.frozen 13;have f14:=h.frozen 14;have y:=h.lt;simp at u q r s t;have H:=HH h;clear h;go_enter func282,ntmps282;go_wp2
 go_end0
 exact⟨rfl,(CH ((CH ((CH ((CH (H.o) 11 _)) 12 _)) 13 _)) 14 _),Upd.s4⟩
def Ub(w:br)(g:Nat)(d c f i r2 r3:Int)(x:Ai)(j p:bq)(k a b:Int)(h:EX w g d c f i r2 r3 x j k a b p):
  b9 prog 262 #[G (Z ⟨g,0,O⟩)] w fun e w'=>e=.returned (.tuple #[])∧EX w' g d c f i r2 r3 x j 3 x.a 0 (Y O 0 0)∧Upd [g] w w':=by
 have n:=Gk w g d c f i r2 r3 x j p k a b 3 O 0 0 h;have r:=HH n;clear n h;go_enter func262,ntmps262;go_wp2_with fail;refine r.o.mono ?_;rintro e s ⟨rfl,m,l⟩;have q:=HH (cz m l);clear m l;go_wp2_with fail
 go_end0
 exact⟨rfl,q.o⟩
def Ul(w:br)(g:Nat)(d c f i r2 r3:Int)(x:Ai)(j p:bq)(k a b:Int)(h:EX w g d c f i r2 r3 x j k a b p):
  b9 prog 263 #[G (Z ⟨g,0,O⟩)] w fun e w'=>e=.returned (.tuple #[])∧EX w' g d c f i r2 r3 x j 4 x.a 0 (Y O 0 0)∧Upd [g] w w':=by
 have n:=Gk w g d c f i r2 r3 x j p k a b 4 O 0 0 h;have r:=HH n;clear n h;go_enter func263,ntmps263;go_wp2_with fail;refine r.o.mono ?_;rintro e s ⟨rfl,m,l⟩;have q:=HH (cz m l);clear m l;go_wp2_with fail
 go_end0
 exact⟨rfl,q.o⟩
def Uf(w:br)(g:Nat)(d c f i r2 r3:Int)(x:Ai)(j p:bq)(k a b:Int)(h:EX w g d c f i r2 r3 x j k a b p):
  b9 prog 264 #[G (Z ⟨g,0,O⟩)] w fun e w'=>e=.returned (.tuple #[])∧EX w' g d c f i r2 r3 x j 5 x.a 0 (Y O 0 0)∧Upd [g] w w':=by
 have n:=Gk w g d c f i r2 r3 x j p k a b 5 O 0 0 h;have r:=HH n;clear n h;go_enter func264,ntmps264;go_wp2_with fail;refine r.o.mono ?_;rintro e s ⟨rfl,m,l⟩;have q:=HH (cz m l);clear m l;go_wp2_with fail
 go_end0
 exact⟨rfl,q.o⟩
def Ua(w:br)(g:Nat)(d c f i r2 r3:Int)(x:Ai)(j p:bq)(k a b:Int)(h:EX w g d c f i r2 r3 x j k a b p):
  b9 prog 265 #[G (Z ⟨g,0,O⟩)] w fun e w'=>e=.returned (.tuple #[])∧EX w' g d c f i r2 r3 x j 6 x.a 0 (Y O 0 0)∧Upd [g] w w':=by
 have n:=Gk w g d c f i r2 r3 x j p k a b 6 O 0 0 h;have r:=HH n;clear n h;go_enter func265,ntmps265;go_wp2_with fail;refine r.o.mono ?_;rintro e s ⟨rfl,m,l⟩;have q:=HH (cz m l);clear m l;go_wp2_with fail
 go_end0
 exact⟨rfl,q.o⟩
def TX(w:br)(g:Nat)(d c f i r2 r3:Int)(x:Ai)(j p:bq)(k a b:Int)(h:EX w g d c f i r2 r3 x j k a b p):
  b9 prog 266 #[G (Z ⟨g,0,O⟩)] w fun e w'=>e=.returned (.tuple #[])∧EX w' g d c f i r2 r3 x j 7 x.a 0 (Y O 0 0)∧Upd [g] w w':=by
 have n:=Gk w g d c f i r2 r3 x j p k a b 7 O 0 0 h;have r:=HH n;clear n h;go_enter func266,ntmps266;go_wp2_with fail;refine r.o.mono ?_;rintro e s ⟨rfl,m,l⟩;have q:=HH (cz m l);clear m l;go_wp2_with fail
 go_end0
 exact⟨rfl,q.o⟩
def Uk(w:br)(g:Nat)(d c f i r2 r3:Int)(x:Ai)(j p:bq)(k a b:Int)(h:EX w g d c f i r2 r3 x j k a b p):
  b9 prog 267 #[G (Z ⟨g,0,O⟩)] w fun e w'=>e=.returned (.tuple #[])∧EX w' g d c f i r2 r3 x j 8 x.a 0 (Y O 0 0)∧Upd [g] w w':=by
 have n:=Gk w g d c f i r2 r3 x j p k a b 8 O 0 0 h;have r:=HH n;clear n h;go_enter func267,ntmps267;go_wp2_with fail;refine r.o.mono ?_;rintro e s ⟨rfl,m,l⟩;have q:=HH (cz m l);clear m l;go_wp2_with fail
 go_end0
 exact⟨rfl,q.o⟩
def TP(w:br)(g:Nat)(d c f i r2 r3:Int)(x:Ai)(j p:bq)(k a b:Int)(h:EX w g d c f i r2 r3 x j k a b p):
  b9 prog 269 #[G (Z ⟨g,0,O⟩)] w fun e w'=>e=.returned (.tuple #[])∧EX w' g d c f i r2 r3 x j 10 x.a 0 (Y O 0 0)∧Upd [g] w w':=by
 have n:=Gk w g d c f i r2 r3 x j p k a b 10 O 0 0 h;have r:=HH n;clear n h;go_enter func269,ntmps269;go_wp2_with fail;refine r.o.mono ?_;rintro e s ⟨rfl,m,l⟩;have q:=HH (cz m l);clear m l;go_wp2_with fail
 go_end0
 exact⟨rfl,q.o⟩
def TW(w:br)(g:Nat)(d c f i r2 r3:Int)(x:Ai)(j p:bq)(k a b:Int)(h:EX w g d c f i r2 r3 x j k a b p):
  b9 prog 271 #[G (Z ⟨g,0,O⟩)] w fun e w'=>e=.returned (.tuple #[])∧EX w' g d c f i r2 r3 x j 12 x.a 0 (Y O 0 0)∧Upd [g] w w':=by
 have n:=Gk w g d c f i r2 r3 x j p k a b 12 O 0 0 h;have r:=HH n;clear n h;go_enter func271,ntmps271;go_wp2_with fail;refine r.o.mono ?_;rintro e s ⟨rfl,m,l⟩;have q:=HH (cz m l);clear m l;go_wp2_with fail
 go_end0
 exact⟨rfl,q.o⟩
def TM(w:br)(g:Nat)(d c f i r2 r3:Int)(x:Ai)(j p:bq)(k a b:Int)(h:EX w g d c f i r2 r3 x j k a b p):
  b9 prog 272 #[G (Z ⟨g,0,O⟩)] w fun e w'=>e=.returned (.tuple #[])∧EX w' g d c f i r2 r3 x j 13 x.a 0 (Y O 0 0)∧Upd [g] w w':=by
 have n:=Gk w g d c f i r2 r3 x j p k a b 13 O 0 0 h;have r:=HH n;clear n h;go_enter func272,ntmps272;go_wp2_with fail;refine r.o.mono ?_;rintro e s ⟨rfl,m,l⟩;have q:=HH (cz m l);clear m l;go_wp2_with fail
 go_end0
 exact⟨rfl,q.o⟩
def TY(w:br)(g:Nat)(d c f i r2 r3:Int)(x:Ai)(j q:bq)(k a b:Int)(h:EX w g d c f i r2 r3 x j k a b q):
  b9 prog 273 #[G (Z ⟨g,0,O⟩)] w fun e w'=>e=.returned (.tuple #[])∧EX w' g d c f i r2 r3 x j 14 0 0 (Y O 0 0)∧Upd [g] w w':=by
 have l:=h.cell 11;have m:=h.cell 12;have n:=h.cell 13;have p:=h.cell 14;have f11:=h.frozen 11;have f12:=h.frozen 12;have f13:=h.frozen 13;have f14:=h.frozen 14;have r:=h.lt;simp at l m n p;have H:=HH h;clear h;go_enter func273,ntmps273;go_wp2
 go_end0
 exact⟨rfl,(CH ((CH ((CH ((CH (H.o) 11 _)) 12 _)) 13 _)) 14 _),Upd.s4⟩
def TQ(w:br)(g:Nat)(n c d f r2 r3:Int)(x:Ai)(j i:bq)(k a b:Int)(h:EX w g n c d f r2 r3 x j k a b i):
  b9 prog 274 #[G (Z ⟨g,0,O⟩)] w fun e w'=>e=.returned (.tuple #[])∧EX w' g x.a c d f r2 r3 x j k a b i∧Upd [g] w w':=by
 have l:=h.cell 0;have m:=h.cell 7;have f0:=h.frozen 0;have p:=h.lt;simp at l m;have H:=HH h;clear h;go_enter func274,ntmps274;go_wp2
 go_end0
 exact⟨rfl,(CH (H.o) 0 _),Upd.s1⟩
def Ug(w:br)(g:Nat)(c d f i r2 r3:Int)(x:Ai)(j r:bq)(k a b:Int)(h:EX w g c d f i r2 r3 x j k a b r)(t:1≤c)(u:c≤1000000):
  b9 prog 279 #[G (Z ⟨g,0,O⟩)] w fun e w'=>e=.returned (.tuple #[])∧EX w' g (c-1) d f i r2 r3 x j 16 0 0 (Y O 0 0)∧Upd [g] w w':=by
 have l:=h.cell 0;have m:=h.cell 11;have n:=h.cell 12;have p:=h.cell 13;have q:=h.cell 14;have f0:=h.frozen 0;have f11:=h.frozen 11;have f12:=h.frozen 12;have f13:=h.frozen 13;have f14:=h.frozen 14;have s:=h.lt;simp at l m n p q;have H:=HH h;clear h;go_enter func279,ntmps279;go_wp2
 go_end0
 exact⟨rfl,(CH ((CH ((CH ((CH ((CH (H.o) 0 _)) 11 _)) 12 _)) 13 _)) 14 _),Upd.s5⟩
def Ao(w:br)(g:Nat)(f e:Int)(R:List Int)(x:Ai)(i:bq)(k a b:Int)(h:bq):Prop:=∃ c d r2 r3,R=[c,d,r2,r3]∧EX w g f e c d r2 r3 x i k a b h
section
variable {w:br} {g:Nat} {pc left:Int} {R:List Int} {x:Ai} {vm vd:bq} {k a b:Int}
def Ao.CB(h:Ao w g pc left R x vm k a b vd)(i:Int)(c:0≤i)(d:i≤3):w.cell? ⟨g,2+i.toNat,O⟩=Z (I U (R.getD i.toNat 0)):=by
 obtain⟨e,f,r2,r3,rfl,h⟩:=h;rw[h.cell];rcases(show i=0∨i=1∨i=2∨i=3 by omega) with rfl|rfl|rfl|rfl<;>rfl
def Ao.I5(h:Ao w g pc left R x vm k a b vd)(i v:Int)(c:0≤i)(d:i≤3):Ao (w.setCell ⟨g,2+i.toNat,O⟩ (I U v)) g pc left (R.set i.toNat v) x vm k a b vd:=by
 obtain⟨e,f,r2,r3,rfl,h⟩:=h;have:=CH h (2+i.toNat) (I U v);rcases(show i=0∨i=1∨i=2∨i=3 by omega) with rfl|rfl|rfl|rfl
 ·exact⟨_,_,_,_,rfl,this⟩
 ·exact⟨_,_,_,_,rfl,this⟩
 ·exact⟨_,_,_,_,rfl,this⟩
 ·exact⟨_,_,_,_,rfl,this⟩
def Ao.frozen(h:Ao w g pc left R x vm k a b vd)(o:Nat):w.frozen? ⟨g,o,O⟩=false:=by
 obtain⟨_,_,_,_,_,h⟩:=h;exact h.frozen o
def Ao.lt(h:Ao w g pc left R x vm k a b vd):g<w.heap.size:=by
 obtain⟨_,_,_,_,_,h⟩:=h;exact h.lt
end
def Ao.cell{w:br}{g:Nat}{e d:Int}{R:List Int}{x:Ai}{f i:bq}{k a b:Int}(h:Ao w g e d R x f k a b i):
  w.cell? ⟨g,0,O⟩=Z (I J e)∧w.cell? ⟨g,1,O⟩=Z (I J d)∧w.cell? ⟨g,7,O⟩=Z (I J x.a)∧w.cell? ⟨g,8,O⟩=Z (I J x.b)∧w.cell? ⟨g,9,O⟩=Z (I J x.c)∧w.cell? ⟨g,10,O⟩=Z f:=by
 obtain⟨_,_,_,_,_,h⟩:=h;exact⟨h.cell 0,h.cell 1,h.cell 7,h.cell 8,h.cell 9,h.cell 10⟩
def Ao.drew{w:br}{g:Nat}{d c:Int}{R:List Int}{x:Ai}{f e:bq}{k a b:Int}(h:Ao w g d c R x f k a b e):Ao w.drew g d c R x f k a b e:=h
def Ao.G3{w:br}{g:Nat}{i c:Int}{R:List Int}{x:Ai}{f d:bq}{k a b:Int}(h:Ao w g i c R x f k a b d)(v:Int):Ao (w.setCell ⟨g,0,O⟩ (I J v)) g v c R x f k a b d:=by
 obtain⟨_,_,_,_,e,h⟩:=h;exact⟨_,_,_,_,e,CH h 0 _⟩
def Ao.Ju{w:br}{g:Nat}{c i:Int}{R:List Int}{x:Ai}{f d:bq}{k a b:Int}(h:Ao w g c i R x f k a b d)(v:Int):Ao (w.setCell ⟨g,1,O⟩ (I J v)) g c v R x f k a b d:=by
 obtain⟨_,_,_,_,e,h⟩:=h;exact⟨_,_,_,_,e,CH h 1 _⟩
def Ao.below{w:br}{g o:Nat}{d c:Int}{R:List Int}{x:Ai}{f e:bq}{k a b:Int}(h:Ao w g d c R x f k a b e)(v:bq):Upd [g] w (w.setCell ⟨g,o,O⟩ v):=have i:=h; .s1
def Un(w:br)(g:Nat)(j i:Int)(R:List Int)(x:Ai)(m l:bq)(k a b:Int)(h:Ao w g j i R x m k a b l)(c:0≤x.a)(d:x.a≤3):
  b9 prog 275 #[G (Z ⟨g,0,O⟩)] w fun e w'=>e=.returned (.tuple #[])∧Ao w' g (if R.getD x.a.toNat 0=0 then x.b else j) i R x m k a b l∧Upd [g] w w':=by
 have n:=h.CB x.a c d;obtain⟨q,c1,s,t,u,r⟩:=h.cell;have f0:=h.frozen 0;have v:=h.lt;have H:=HH h;clear h;generalize R.getD x.a.toNat 0=z at n ⊢;by_cases f:z=0
 ·subst f;go_enter func275,ntmps275;go_wp2_with fail;refine(D3 w g x.a c d).mono ?_;rintro e p ⟨rfl,rfl⟩;go_wp2_with fail
  go_end0
  exact⟨rfl,H.o.G3 _,H.o.below _⟩
 ·have y:(z==0)=false:=by simpa using f
  go_enter func275,ntmps275;go_wp2_with fail;refine(D3 w g x.a c d).mono ?_;rintro e p ⟨rfl,rfl⟩;go_wp2_with fail
  go_end0
  exact⟨rfl,H.o,Upd.refl [g] w⟩
def Ao.fail{w:br}{g:Nat}{i d:Int}{R:List Int}{x:Ai}{j l:bq}{k a b:Int}(h:Ao w g i d R x j k a b l)(f c:Int)(p:0≤f)(q:f≤255):
  b9 prog 284 #[G (Z ⟨g,0,O⟩),I U f,I J c] w fun e w'=>e=.returned (.tuple #[])∧Ao w' g i d R x j 15 f c (Y O 0 0)∧Upd [g] w w':=by
 obtain⟨r,s,r2,r3,rfl,h⟩:=h;exact(Ur w g i d r s r2 r3 x j l k a b f c h p q).mono fun e w' ⟨o,m,n⟩=>⟨o,⟨_,_,_,_,rfl,m⟩,n⟩
def Ao.Md{w:br}{g:Nat}{l j:Int}{R:List Int}{x:Ai}{m n:bq}{k a b:Int}(h:Ao w g l j R x m k a b n)(i:Int)(c:Option dj)(f d:Nat):
  b9 prog 282 #[G (Z ⟨g,0,O⟩),I U i,Y c f d] w fun e w'=>e=.returned (.tuple #[])∧Ao w' g l j R x m i x.a 0 (Y c f d)∧Upd [g] w w':=by
 obtain⟨r,s,r2,r3,rfl,h⟩:=h;exact(Gk w g l j r s r2 r3 x m n k a b i c f d h).mono fun e w' ⟨q,o,p⟩=>⟨q,⟨_,_,_,_,rfl,o⟩,p⟩
def TO(w:br)(g:Nat)(i f:Int)(R:List Int)(x:Ai)(j n:bq)(k a b:Int)(h:Ao w g i f R x j k a b n):
  b9 prog 278 #[G (Z ⟨g,0,O⟩)] w fun e w'=>e=.returned (.tuple #[])∧Ao w' g i f R x j 15 3 x.a (Y O 0 0)∧Upd [g] w w':=by
 have m:=HH (h.fail 3 x.a (by decide) (by decide));obtain⟨p,c1,r,s,t,q⟩:=h.cell;have f0:=h.frozen 0;have u:=h.lt;have H:=HH h;clear h;go_enter func278,ntmps278;go_wp2_with fail;refine m.o.mono ?_;rintro e v ⟨rfl,d,c⟩;have l:=HH (cz d c);clear d c;go_wp2_with fail
 go_end0
 exact⟨rfl,l.o⟩
def Ud(w:br)(g:Nat)(i f:Int)(R:List Int)(x:Ai)(l j:bq)(k a b:Int)(h:Ao w g i f R x l k a b j)(c:0≤x.a)(d:x.a≤3):
  b9 prog 257 #[G (Z ⟨g,0,O⟩)] w fun e w'=>e=.returned (.tuple #[])∧Ao w' g i f (R.set x.a.toNat (x.b%256)) x l k a b j∧Upd [g] w w':=by
 have s:=h.CB x.a c d;have t:=h.frozen (2+x.a.toNat);obtain⟨m,c1,p,q,r,n⟩:=h.cell;have f0:=h.frozen 0;have u:=h.lt;have H:=HH h;clear h;go_enter func257,ntmps257
 go_region_with ((go_at_call 280;refine(D3 _ g x.a c d).mono ?_;rintro e v ⟨rfl,rfl⟩))
 all_goals
  go_end0
  first
   |exact⟨rfl,H.o.I5 _ _ c d,H.o.below _⟩
   |exact⟨rfl,Ao.drew (H.o.I5 _ _ c d),(H.o.below _).drew⟩
   |exact⟨rfl,Ao.I5 (Ao.drew H.o) _ _ c d,(Upd.refl [g] w).drew.trans .s1⟩
def Sl.low{w:br}{B sz n g o:Nat}{v u:bq}{a:List bq}(h:Sl w B sz v n a)(x:g<B):Sl (w.setCell ⟨g,o,O⟩ u) B sz v n a:=by
 obtain⟨c,cap,s,m,p,l,q⟩:=h;refine⟨c,cap,s,m,p,l,fun d=>?_⟩;obtain⟨b,t,f,e,i,k⟩:=q d;exact⟨b,t,f,e,by simpa[cm] using i,fun j u r=>(dX (bR _ _ _ _ (by show b≠g;omega))).trans (k j u r)⟩
def KS(w:br)(g o:Nat)(u:bq):w.grownBy (w.setCell ⟨g,o,O⟩ u) (Z g):=⟨rfl,rfl,rfl,by simp[cm],fun k _ a=>bR _ _ _ _ (fun e=>a (by rw[e]))⟩
def Hv{w:br}{B e s n g o:Nat}{v u:bq}{a:List bq}(h:w.ownsRow B e s v n a)(c:g<B):(w.setCell ⟨g,o,O⟩ u).ownsRow B e s v n a:=by
 refine h.kept (KS w g o u) ?_;cases b:v.ownBlock with
 |none=>exact .inl rfl
 |some k=>exact .inr (by have:=(h.lt k b).1;simp;omega)
def MR{w:br}{B e s n g o t:Nat}{v u:bq}{c:List bq}{d:Array bq}{f:Nat×Nat}(h:w.ownsRow B e s v n c)(i:w.heap[g]? =Z (T d t f))(j:t≠e):(w.setCell ⟨g,o,O⟩ u).ownsRow B e s v n c:=by
 refine h.kept (KS w g o u) ?_;rcases h.2 with ⟨rfl,_⟩|⟨m,k,l,rfl,_,a,_⟩
 ·exact .inl rfl
 ·right;intro b;simp only[cF,bM] at b;subst b;rw[i] at a;simp only[bM,cG] at a;exact j a.2.1
section
variable {w:br} {B g o:Nat} {v u:bq} {q:List (List Int)}
def A6.low(h:A6 w B v q)(a:g<B):A6 (w.setCell ⟨g,o,O⟩ u) B v q:=by
 obtain⟨vs,b,c⟩:=h;exact⟨vs,b.low a,fun i u x d e=>(c i u x d e).low a⟩
def Bk.low(h:Bk w B v q)(a:g<B):Bk (w.setCell ⟨g,o,O⟩ u) B v q:=by
 obtain⟨vs,b,c⟩:=h;exact⟨vs,Hv b a,fun i u x d e=>Hv (c i u x d e) a⟩
def Bk.oth{t:Nat}{b:Array bq}{c:Nat×Nat}(h:Bk w B v q)(a:w.heap[g]? =Z (T b t c))(f:t≠34)(j:t≠5):Bk (w.setCell ⟨g,o,O⟩ u) B v q:=by
 obtain⟨vs,d,e⟩:=h;exact⟨vs,MR d a f,fun i u x k l=>MR (e i u x k l) a j⟩
end
def EM{a w:br}(h:df a.drew.heap.size a.drew w):Bl a w:=⟨h.os,h.tape,h.output,h.size,h.block⟩
def Rg(w:br)(q:List (List Int))(l:List Wt)(n:Int)(e:cO)(w':br):Prop:=
 ∃ vq vw,e=.returned (.agg #[vq,vw,I J n])∧Bk w' w.heap.size vq q∧Aq w' w.heap.size vw l∧Bl w w'
def Aj{W:br}{g:Nat}{x y z:bq}{t:ci}(h:W.heap[g]? =Z (T #[x,y,z] t (0,0))):
  W.cell? ⟨g,0,O⟩=Z x∧W.cell? ⟨g,1,O⟩=Z y∧W.cell? ⟨g,2,O⟩=Z z∧W.frozen? ⟨g,0,O⟩=false∧W.frozen? ⟨g,1,O⟩=false∧W.frozen? ⟨g,2,O⟩=false:=by
 refine⟨?_,?_,?_,?_,?_,?_⟩
 ·rw[bI _ _ _ _ _ _ h];rfl
 ·rw[bI _ _ _ _ _ _ h];rfl
 ·rw[bI _ _ _ _ _ _ h];rfl
 ·simp[b6,h]
 ·simp[b6,h]
 ·simp[b6,h]
def Fe(vq vw:bq)(q:List (List Int))(l:List Wt)(n:Int)(w:br)(z:A6 w 0 vq q)(m:Al w 0 vw l)(hl:l.length≤100000)(am:q.length≤100000)(F:∀ x∈q,x.length≤1000000):
  b9 prog 93 #[.agg #[vq,vw,I J n]] w (Rg w q l n):=by
 obtain⟨h,r,j,rfl,ad⟩:=z.shape;clear ad;obtain⟨i,k,rfl,K,ae,af⟩:=m.open_;clear af;generalize H:l.length=s at m ⊢ K;have al:=HH H;clear H K ae;obtain⟨a,b⟩:=ex ((w.alloc (T #[Y h r j,Y i s k,I J n] 107)).alloc (T #[Y O 0 0,Y O 0 0,I J 0] 107));have S:Hq (A6 a 0 (Y h r j) q):=by subst b;exact(z.alloc _).alloc _
 have V:Hq (Al a 0 (Y i s k) l):=by subst b;exact(m.alloc _).alloc _
 have ao:a.heap.size=w.heap.size+2:=by subst b;simp
 have hA0:a.heap[w.heap.size]? =Z (T #[Y h r j,Y i s k,I J n] 107 (0,0)):=by subst b;exact(b4 _ _ _ (by simp)).trans (bL w _)
 have E:a.heap[w.heap.size+1]? =Z (T #[Y O 0 0,Y O 0 0,I J 0] 107 (0,0)):=by
  subst b;have:=bL (w.alloc (T #[Y h r j,Y i s k,I J n] 107)) (T #[Y O 0 0,Y O 0 0,I J 0] 107);simpa using this
 have M:Hq (Bl w a):=by subst b;exact((bJ _ w).alloc (bH _) _).alloc (by simp) _
 obtain⟨A,R⟩:=H2 hA0 E;obtain⟨p0,p1,p2,p3,p4,p5⟩:=Aj hA0;have N:=HH F;clear z m hA0 E F;go_enter func93,ntmps93;go_upto_region 1 with (fail);rw[←b];clear b
 go_region_with (first
  |(go_at_call 129;(refine(SW _ q _ (by exact S.o) (by omega) N.o).mono ?_;rintro e f ⟨v2,rfl,u,d⟩;obtain⟨C,L,c2,rfl,ac⟩:=u.rd.shape;clear ac;have P:=HH u;replace d:Bl a f:=(by first|exact d|exact EM d);have g:=HH d;obtain⟨aE,aF,aG,aH,aI,aJ⟩:=Aj ((d.block _ (by omega)).trans A.o);have ag:a.heap.size≤f.heap.size:=d.size;clear u d))
  |(go_at_call 112;(refine(GK _ l _ (by exact V.o.below g.o) (by omega)).mono ?_;rintro e t ⟨v3,rfl,y,c⟩;obtain⟨D,c3,rfl⟩:=Bq y;have Q:=HH y;replace c:Bl f t:=(by first|exact c|exact EM c);have B:=HH c;obtain⟨aK,aL,aM,aN,aO,aP⟩:=Aj ((c.block _ (by omega)).trans ((g.o.block _ (by omega)).trans A.o));have an:f.heap.size≤t.heap.size:=c.size;obtain⟨ah,ai,aj,az,aA,aB⟩:=Aj ((c.block _ (by omega)).trans ((g.o.block _ (by omega)).trans R.o));clear y c)))
 all_goals
  go_wp2;refine bK (v:=.agg #[Y C L c2,Y D l.length c3,I J n]) (by simp[cb,results93,go_sem,ah,ai,aj]) rfl ?_;have W:Bk f a.heap.size (Y C L c2) q:=P.o;have h3:Aq t f.heap.size (Y D l.length c3) l:=Aq.Bw Q.o;have X:=W.below B.o;have hB:Bl w t:=M.o.trans ((g.o.trans (B.o.mono ag)).mono (by omega));refine⟨_,_,rfl,?_,?_,?_⟩
  ·exact(((((X.low (by omega)).low (by omega)).low (by omega)).low (by omega)).low (by omega)).mono (by omega)
  ·exact(((((h3.low (by omega)).low (by omega)).low (by omega)).low (by omega)).low (by omega)).mono (by omega)
  ·exact((((hB.setCell (p:=⟨w.heap.size,0,O⟩) (by show _≤w.heap.size;omega) _).setCell (p:=⟨w.heap.size,1,O⟩) (by show _≤w.heap.size;omega) _).setCell (p:=⟨w.heap.size+1,0,O⟩) (by show _≤w.heap.size+1;omega) _).setCell (p:=⟨w.heap.size+1,1,O⟩) (by show _≤w.heap.size+1;omega) _).setCell (p:=⟨w.heap.size+1,2,O⟩) (by show _≤w.heap.size+1;omega) _
def NF(g:Nat)(a:Array bq)(p:List Int→Bool)(w:br):Prop:=
 ∀ (W:br) (u:bq) (x:List Int),Bl w W→Af U W 0 u x→b9 prog g (#[u]++a) W fun e w'=>e=.returned (.bool (p x))∧Bl w w'
def UU(v:bq)(l:List (List Int))(g:Nat)(D:Array bq)(p:List Int→Bool)(eg:∀ args w,(cR g args).run prog w=.ok (.enter g args) w)(w:br)(h:A6 w 0 v l)(hl:l.length≤1000000)(y:NF g D p w):
  b9 prog 167 #[v,.func (.func g) #[] D] w fun e w'=>e=.returned (I J (DL p l))∧Bl w w':=by
 obtain⟨vs,⟨W,q,rfl,ab,af,C,E⟩,t⟩:=h;obtain⟨H,K,F,L⟩:=H4 y E t C;clear y E t C;go_enter func167,ntmps167;go_wp2
 go_loopg [5,8] l.length (fun M _ V wr=>∃ k:Nat,k≤l.length∧l.length-k≤M∧V=I J k∧Hq (Bl w wr)∧Hq (∀ j (d:j<k) (u:j<l.length),p l[j]=false))
 case atStart=>exact⟨0,ch _,by omega,rfl,bJ _ w,fun j d=>absurd d (dN _)⟩
 case round=>
  obtain⟨k,hk,hg,rfl,f,A⟩:=hrel;by_cases x:k<l.length
  ·have Q:(k:Int)<(l.length:Int):=by omega
   obtain⟨b,ah,rfl,_,N,q⟩:=K.o (by omega);have P:k<vs.length:=by have:=L.o;omega
   have s:vs[k]? =Z vs[k]:=cf P;have z:l[k]? =Z l[k]:=cf x;have n:=q k _ s;have R:=(F.o k _ _ s z).below f.o;rw[←f.o.cell (p:=⟨b,_,O⟩) N] at n;obtain⟨X,mu,B,_,_,_⟩:=R.open_;rw[B] at n R;have a:=H.o wr _ l[k] f.o R;generalize S:l[k].length=nq at n a;clear S;clear q s z B R;cases c:p l[k] with
   |true=>
    rw[c] at a;obtain⟨i,m⟩:=H2 a c;clear a c;go_wp2_with (refine i.o.mono ?_;rintro e w' ⟨rfl,r⟩);go_ret;exact⟨EH (JY p l k x m.o A.o).symm,r⟩
   |false=>
    rw[c] at a;obtain⟨i,m⟩:=H2 a c;clear a c;go_wp2_with (refine i.o.mono ?_;rintro e w' ⟨rfl,r⟩)
    go_roundg (l.length-(k+1))
    case measure=>omega
    case rel=>
     refine⟨k+1,by omega,by omega,by go_num,r,fun j d u=>?_⟩;by_cases e:j=k
     ·subst e;exact m.o
     ·exact A.o j (by omega) u
  ·have Q:¬(k:Int)<(l.length:Int):=by omega
   go_wp2;go_ret;exact⟨EH (JZ p l (fun j d=>A.o j (by omega) d)).symm,f.o⟩
def Ss(v:bq)(l:List (List Int))(g:Nat)(a:Array bq)(p:List Int→Bool)(c:∀ args w,(cR g args).run prog w=.ok (.enter g args) w)(w:br)(h:A6 w 0 v l)(i:l.length≤1000000)(d:NF g a p w):
  b9 prog 133 #[v,.func (.func g) #[] a] w fun e w'=>e=.returned (.bool (l.any p))∧Bl w w':=by
 have b:=HH (UU v l g a p c w h i d);rw[←KI];generalize DL p l=q at b ⊢;clear h d c;go_enter func133,ntmps133;go_wp2_with (go_at_call 167;refine b.o.mono ?_;rintro e w' ⟨rfl,f⟩);go_ret;exact⟨rfl,f⟩
def JN(s:Int)(x:List Int):Bool:=decide ((x.length:Int)<1)||decide (s<(x.length:Int))
def Zv(u:bq)(x:List Int)(g:Nat)(s:Int)(w W:br)(d:w.cell? ⟨g,3,O⟩=Z (I J s))(f:g<w.heap.size)(a:Bl w W)(h:Af U W 0 u x):
  b9 prog 132 #[u,G (Z ⟨g,0,O⟩)] W fun e w'=>e=.returned (.bool (JN s x))∧Bl w w':=by
 have j:W.cell? ⟨g,3,O⟩=Z (I J s):=(a.cell (p:=⟨g,3,O⟩) f).trans d;have k:g<W.heap.size:=ce f a.size;obtain⟨i,l,rfl,_,_,_⟩:=h.open_;have b:=HH a;clear a d h;unfold JN;generalize x.length=m;by_cases c:(m:Int)<1
 ·rw[decide_eq_true c];go_enter func132,ntmps132;go_wp2;go_ret;exact⟨rfl,b.o⟩
 ·rw[decide_eq_false c,Bool.false_or];go_enter func132,ntmps132;go_wp2;go_ret;exact⟨A8 (by first|rfl|simp),b.o⟩
def Zw(x:Wt)(w W:br)(b:Bl w W):
  b9 prog 135 #[.agg #[I J x.proc,I J x.prio,I U x.val]] W fun e w'=>e=.returned (.bool (x.val !=0))∧Bl w w':=by
 have a:=HH b;clear b;go_enter func135,ntmps135;go_wp2;go_ret;exact⟨rfl,a.o.alloc a.o.size _⟩
def Z4(x:Wt)(g:Nat)(q:Int)(w W:br)(c:w.cell? ⟨g,0,O⟩=Z (I J q))(d:g<w.heap.size)(a:Bl w W):
  b9 prog 181 #[.agg #[I J x.proc,I J x.prio,I U x.val],G (Z ⟨g,0,O⟩)] W fun e w'=>e=.returned (.bool (decide (x.proc=q)))∧Bl w w':=by
 have f:W.cell? ⟨g,0,O⟩=Z (I J q):=(a.cell (p:=⟨g,0,O⟩) d).trans c;have i:g<W.heap.size:=ce d a.size;have b:=HH a;clear a c;go_enter func181,ntmps181;go_wp2;go_ret;exact⟨A8 (by by_cases h:x.proc=q<;>simp[h]),b.o.alloc b.o.size _⟩
def N2(d:Option dj)(i f:Nat)(vw:bq)(l:List Wt)(n q:Int)(w:br)(h:Al w 0 vw l)(E:l.length≤100000):
  b9 prog 147 #[.agg #[Y d i f,vw,I J n],I J q] w fun e w'=>e=.returned (.bool (l.any fun x=>decide (x.proc=q)))∧Bl w w':=by
 obtain⟨m,p,rfl,B,F,_⟩:=h.open_;generalize A:l.length=v at h ⊢ B;obtain⟨a,b⟩:=ex ((w.alloc (T #[Y d i f,Y m v p,I J n] 107)).alloc (T #[I J q] 3));have D:a.heap.size=w.heap.size+2:=by subst b;simp
 have s:a.heap[w.heap.size+1]? =Z (T #[I J q] 3 (0,0)):=by
  subst b;have:=bL (w.alloc (T #[Y d i f,Y m v p,I J n] 107)) (T #[I J q] 3);simpa using this
 have g:Bl w a:=by subst b;exact((bJ _ _).alloc (bH _) _).alloc (by simp) _
 have t:a.cell? ⟨w.heap.size+1,0,O⟩=Z (I J q):=by rw[bI a _ _ _ _ _ s];rfl
 obtain⟨c,j,k⟩:=H3 (JS _ l _ #[G (Z ⟨w.heap.size+1,0,O⟩)] _ (Gn func181 (by kernel_rfl) rfl) a (h.below g) (by omega) (fun W x z=>Z4 x (w.heap.size+1) q a W t (by omega) z)) g b;have C:w.heap.size≤a.heap.size:=by omega
 clear g b D s t h A;generalize (l.any fun x=>decide (x.proc=q))=r at c ⊢;go_enter func147,ntmps147;go_wp2_with fail;rw[←k.o];refine c.o.mono ?_;rintro e H ⟨rfl,u⟩;have y:=HH (j.o.trans (u.mono C));clear u c k j;go_wp2_with fail;go_ret;exact⟨rfl,y.o⟩
def Fm(k s d r:Int):Bool:=k !=2||decide (s<1)||decide (64<s)||decide (d<1)||decide (16<d)||r !=0
def Ey(d n:Int)(a b:Nat)(o:Bool):Bool:=decide (d<(a:Int))||(decide (0<(a:Int)) && decide (0<(b:Int)))||decide (n<0)||decide (1073741824<n)||!o
def A6.C2{w:br}{B:Nat}{v:bq}{q:List (List Int)}(h:A6 w B v q):∃ a c,v=Y a q.length c:=by
 obtain⟨vs,⟨b,cap,d,_⟩,_⟩:=h;exact⟨b,cap,d⟩
def BP(k s d r:Int)(q:List (List Int))(l:List Wt)(n:Int):Bool:=!Fm k s d r && !Ey d n q.length l.length (decide (AY l)) && !q.any (JN s) && !l.any (fun x=>x.val !=0)
def Zr(nm:ByteArray)(k:Int)(o:Bool)(s d r n:Int)(vq vw:bq)(q:List (List Int))(l:List Wt)(w:br)(hq:A6 w 0 vq q)(hw:Al w 0 vw l)(aH:Ck l)(hl:l.length≤100000)(bc:q.length≤100000):
  b9 prog 97 #[.agg #[.string nm,I U k,.bool o,I J s,I J d,I J r,vq,vw,I J n]] w fun e w'=>e=.returned (.bool (BP k s d r q l n))∧Bl w w':=by
 obtain⟨B,E,rfl⟩:=hq.C2;obtain⟨C,F,rfl,aT,aU,aV⟩:=hw.open_;clear aT aU aV;obtain⟨a,m⟩:=ex (w.alloc (T #[.string nm,I U k,.bool o,I J s,I J d,I J r,Y B q.length E,Y C l.length F,I J n] 167));have aM:Hq (A6 a 0 (Y B q.length E) q):=by subst m;exact hq.alloc _
 have ag:Hq (Al a 0 (Y C l.length F) l):=by subst m;exact hw.alloc _
 have ab:Hq (Bl w a):=by subst m;exact(bJ _ w).alloc (bH _) _
 have be:a.heap.size=w.heap.size+1:=by subst m;simp
 have au:Hq (a.heap[w.heap.size]? =Z (T #[.string nm,I U k,.bool o,I J s,I J d,I J r,Y B q.length E,Y C l.length F,I J n] 167 (0,0))):=by subst m;exact bL w _
 have av:=HH aH;have aC:∀ W:br,W.heap[w.heap.size]? =Z (T #[.string nm,I U k,.bool o,I J s,I J d,I J r,Y B q.length E,Y C l.length F,I J n] 167 (0,0))→W.cell? ⟨w.heap.size,1,O⟩=Z (I U k)∧W.cell? ⟨w.heap.size,3,O⟩=Z (I J s)∧W.cell? ⟨w.heap.size,4,O⟩=Z (I J d)∧W.cell? ⟨w.heap.size,5,O⟩=Z (I J r)∧
   W.cell? ⟨w.heap.size,6,O⟩=Z (Y B q.length E)∧W.cell? ⟨w.heap.size,7,O⟩=Z (Y C l.length F)∧W.cell? ⟨w.heap.size,8,O⟩=Z (I J n):=fun W h=>by
  refine⟨?_,?_,?_,?_,?_,?_,?_⟩<;>(rw[bI _ _ _ _ _ _ h];rfl)
 have ad:=HH aC;clear hq hw aH aC;unfold BP;go_enter func97,ntmps97;go_upto_region 1 with (fail);rw[←m];clear m;obtain⟨c1,c3,c4,c5,c6,c7,c8⟩:=ad.o a au.o;have aI:w.heap.size<a.heap.size:=by omega
 go_cut [37] (fun a0 wx=>a0=.bool (Fm k s d r)∧a=wx)
 case first=>
  by_cases h0:k=2
  rotate_left
  ·have q0:(k !=2)=true:=by simp[h0]
   have c:=HH q0;go_wp2
   go_meet
   exact⟨congrArg cr (show true=_ by unfold Fm;rw[c.o];rfl),rfl⟩
  ·have q0:(k !=2)=false:=by simp[h0]
   have c:=HH q0;clear h0;by_cases h1:s<1
   ·have g:=HH (decide_eq_true h1);go_wp2
    go_meet
    exact⟨congrArg cr (show true=_ by unfold Fm;rw[c.o,g.o];rfl),rfl⟩
   ·have g:=HH (decide_eq_false h1);by_cases h2:64<s
    ·have t:=HH (decide_eq_true h2);go_wp2
     go_meet
     exact⟨congrArg cr (show true=_ by unfold Fm;rw[c.o,g.o,t.o];rfl),rfl⟩
    ·have t:=HH (decide_eq_false h2);by_cases h3:d<1
     ·have v:=HH (decide_eq_true h3);go_wp2
      go_meet
      exact⟨congrArg cr (show true=_ by unfold Fm;rw[c.o,g.o,t.o,v.o];rfl),rfl⟩
     ·have v:=HH (decide_eq_false h3);by_cases h4:16<d
      ·have P:=HH (decide_eq_true h4);go_wp2
       go_meet
       exact⟨congrArg cr (show true=_ by unfold Fm;rw[c.o,g.o,t.o,v.o,P.o];rfl),rfl⟩
      ·have P:=HH (decide_eq_false h4);by_cases h5:r=0
       rotate_left
       ·have q5:(r !=0)=true:=by simp[h5]
        have E5:=HH q5;go_wp2
        go_meet
        exact⟨congrArg cr (show true=_ by unfold Fm;rw[c.o,g.o,t.o,v.o,P.o,E5.o];rfl),rfl⟩
       ·have q5:(r !=0)=false:=by simp[h5]
        have E5:=HH q5;clear h5;go_wp2
        go_meet
        exact⟨congrArg cr (show false=_ by unfold Fm;rw[c.o,g.o,t.o,v.o,P.o,E5.o];rfl),rfl⟩
 case rest=>
  obtain⟨rfl,rfl⟩:=hcut;cases R:Fm k s d r with
  |true=>
   have z:=HH R;clear R;go_wp2_with fail;go_ret;exact⟨A8 (by rw[z.o];rfl),ab.o⟩
  |false=>
   have z:=HH R;clear R;go_upto_region 3 with (fail)
   go_cut [78] (fun a1 wx=>a1=.bool (Ey d n q.length l.length (decide (AY l)))∧Bl a wx)
   case first=>
    by_cases hd:d<(q.length:Int)
    ·have D:=HH (decide_eq_true hd);go_wp2_with fail
     go_meet
     exact⟨congrArg cr (show true=_ by unfold Ey;rw[D.o];rfl),bJ _ _⟩
    ·have D:=HH (decide_eq_false hd);by_cases aE:0<(q.length:Int)
     ·have aW:0<q.length:=by omega
      have f:=HH (decide_eq_true aE);by_cases aG:0<(l.length:Int)
      ·have aY:0<l.length:=by omega
       have A:=HH (decide_eq_true aG);go_wp2_with fail
       go_meet
       exact⟨congrArg cr (show true=_ by unfold Ey;rw[D.o,f.o,A.o];rfl),bJ _ _⟩
      ·have aY:¬0<l.length:=by omega
       have A:=HH (decide_eq_false aG);by_cases L:n<0
       ·have b:=HH (decide_eq_true L);go_wp2_with fail
        go_meet
        exact⟨congrArg cr (show true=_ by unfold Ey;rw[D.o,f.o,A.o,b.o];rfl),bJ _ _⟩
       ·have b:=HH (decide_eq_false L);by_cases M:1073741824<n
        ·have j:=HH (decide_eq_true M);go_wp2_with fail
         go_meet
         exact⟨congrArg cr (show true=_ by unfold Ey;rw[D.o,f.o,A.o,b.o,j.o];rfl),bJ _ _⟩
        ·have j:=HH (decide_eq_false M);go_wp2_with fail;refine(Li _ l a ag.o av.o (by omega)).mono ?_;rintro e w1 ⟨rfl,H⟩;have i:=HH H;clear H;generalize N:decide (AY l)=od;have ae:=HH N;clear N;go_wp2_with fail
         go_meet
         exact⟨congrArg cr (show(!od)=_ by unfold Ey;rw[D.o,f.o,A.o,b.o,j.o,ae.o];rfl),i.o⟩
     ·have aW:¬0<q.length:=by omega
      have f:=HH (decide_eq_false aE);by_cases L:n<0
      ·have b:=HH (decide_eq_true L);go_wp2_with fail
       go_meet
       exact⟨congrArg cr (show true=_ by unfold Ey;rw[D.o,f.o,b.o];rfl),bJ _ _⟩
      ·have b:=HH (decide_eq_false L);by_cases M:1073741824<n
       ·have j:=HH (decide_eq_true M);go_wp2_with fail
        go_meet
        exact⟨congrArg cr (show true=_ by unfold Ey;rw[D.o,f.o,b.o,j.o];rfl),bJ _ _⟩
       ·have j:=HH (decide_eq_false M);go_wp2_with fail;refine(Li _ l a ag.o av.o (by omega)).mono ?_;rintro e w1 ⟨rfl,H⟩;have i:=HH H;clear H;generalize N:decide (AY l)=od;have ae:=HH N;clear N;go_wp2_with fail
        go_meet
        exact⟨congrArg cr (show(!od)=_ by unfold Ey;rw[D.o,f.o,b.o,j.o,ae.o];rfl),i.o⟩
   case rest=>
    obtain⟨rfl,p⟩:=hcut;have i:=HH (ab.o.trans (p.mono ab.o.size));have aj:=(p.block _ aI).trans au.o;obtain⟨d1,d3,d4,d5,d6,d7,d8⟩:=ad.o wc aj;have an:w.heap.size<wc.heap.size:=ce aI p.size;obtain⟨a3,aN,aO,aK⟩:=H4 p (aM.o.below p) (ag.o.below p) aj;clear p aj c1 c3 c4 c5 c6 c7 c8;cases S:Ey d n q.length l.length (decide (AY l)) with
    |true=>
     have Q:=HH S;clear S;go_wp2_with fail;go_ret;exact⟨A8 (by rw[z.o,Q.o];rfl),i.o⟩
    |false=>
     have Q:=HH S;clear S;have y:=HH (Ss _ q _ #[G (Z ⟨w.heap.size,0,O⟩)] (JN s) (Gn func132 (by kernel_rfl) rfl) wc aN.o (by omega) (fun W u x hW hu=>Zv u x w.heap.size s wc W d3 an hW hu));go_wp2_with fail;refine y.o.mono ?_;clear y;rintro e X ⟨rfl,K⟩;have ac:=HH (i.o.trans (K.mono i.o.size));obtain⟨e1,e3,e4,e5,e6,e7,e8⟩:=ad.o X ((K.block _ an).trans aK.o);have bd:w.heap.size<X.heap.size:=ce an K.size;have aP:=HH (aO.o.below K);clear K d1 d3 d4 d5 d6 d7 d8;cases V:q.any (JN s) with
     |true=>
      have af:=HH V;clear V;go_wp2_with fail;go_ret;exact⟨A8 (by rw[z.o,Q.o,af.o];rfl),ac.o⟩
     |false=>
      have af:=HH V;clear V;have y:=HH (JS _ l _ #[] _ (Gn func135 (by kernel_rfl) rfl) X aP.o (by omega) (fun W x hW=>Zw x X W hW));go_wp2_with fail;refine y.o.mono ?_;clear y;rintro e w3 ⟨rfl,aB⟩;have aJ:=HH (ac.o.trans (aB.mono ac.o.size));clear aB;generalize aF:(l.any fun x=>x.val !=0)=qq;have aL:=HH aF;clear aF;go_wp2_with fail;go_ret;exact⟨A8 (by rw[z.o,Q.o,af.o,aL.o];cases qq<;>rfl),aJ.o⟩
def DY(nm:ByteArray)(k:Int)(o:Bool)(s d r n:Int)(vq vw:bq)(q:List (List Int))(l:List Wt)(w:br)(h:A6 w 0 vq q)(i:Al w 0 vw l)(v:Ck l)(C:l.length≤100000)(H:q.length≤100000):
  b9 prog 54 #[.agg #[.string nm,I U k,.bool o,I J s,I J d,I J r],.agg #[vq,vw,I J n]] w fun e w'=>e=.returned (.bool (BP k s d r q l n))∧Bl w w':=by
 obtain⟨y,K,A,rfl,D⟩:=h.shape;obtain⟨z,B,u,E,F,_⟩:=i.open_;obtain⟨L,t⟩:=ex l.length;rw[←t] at u;subst u;obtain⟨m,g⟩:=ex ((w.alloc (T #[.string nm,I U k,.bool o,I J s,I J d,I J r] 62)).alloc (T #[Y y K A,Y z L B,I J n] 107));have a:Bl w m:=by subst g;exact((bJ _ w).alloc (bH _) _).alloc (by simp) _
 obtain⟨f,j,c⟩:=H3 (Zr nm k o s d r n _ _ q l m (h.below a) (i.below a) v C H) g a;clear h i v D t E F g a;generalize BP k s d r q l n=b at f ⊢;go_enter func54,ntmps54;go_wp2_with fail;rw[←j.o];refine f.o.mono ?_;rintro e M ⟨rfl,p⟩;have x:=HH (c.o.trans (p.mono c.o.size));clear p f j c;go_wp2_with fail;go_ret;exact⟨rfl,x.o⟩
def A6.head{w:br}{B m d:Nat}{a:Option dj}{x:List Int}{t k:List (List Int)}(h:A6 w B (Y a m d) k)(p:k=x::t):m=t.length+1∧1≤d∧∃ b c u,a=Z ⟨b,c,O⟩∧B≤b∧b<w.heap.size∧w.cell? ⟨b,c,O⟩=Z u∧Af U w B u x:=by
 subst p;obtain⟨vs,⟨q,cap,g,i,r,e,f⟩,o⟩:=h;simp only[b5,cj] at g;obtain⟨rfl,rfl,rfl⟩:=g;simp only[cj] at i e f;obtain⟨b,c,rfl,j,l,n⟩:=f (by omega)
 match vs,e with
 |u::us,_=>exact⟨rfl,by omega,b,c,u,rfl,j,l,n 0 _ rfl,o 0 _ _ rfl rfl⟩
def A6.tail{w:br}{B b a m d:Nat}{x:List Int}{t k:List (List Int)}(h:A6 w B (Y (Z ⟨b,a,O⟩) m d) k)(s:k=x::t):A6 w B (Y (if d=1 then Z ⟨b,a,O⟩ else Z ⟨b,a+1,O⟩) (m-1) (d-1)) t:=by
 subst s;obtain⟨vs,⟨D,cap,g,l,H,c,f⟩,q⟩:=h;simp only[b5,cj] at g;obtain⟨rfl,rfl,rfl⟩:=g;simp only[cj] at l c f;obtain⟨E,K,e,n,o,p⟩:=f (by omega);simp only[bM,de,and_true] at e;obtain⟨rfl,rfl⟩:=e;rw[ej]
 match vs,c with
 |u::us,c=>
  refine⟨us,⟨_,_,rfl,by omega,?_,by simp at c;omega,fun F=>?_⟩,fun i A C y z=>q (i+1) A C y z⟩
  ·intro h;split at h<;>cases h
  ·rw[if_neg (by omega)];refine⟨b,a+1,rfl,n,o,fun j v r=>?_⟩;have:=p (j+1) v r;rw[show a+1+j=a+(j+1) by omega];exact this
structure QM(w W:br)(nm:ByteArray)(k:Int)(o:Bool)(s d r:Int)(vq0 vw0:bq)(n0:Int)(g:Nat)(vq vw:bq)(n:Int)(q:List (List Int))(l:List Wt):Prop where
 Bj:W.heap[w.heap.size]? =Z (T #[.string nm,I U k,.bool o,I J s,I J d,I J r] 62 (0,0))
 arg:W.heap[w.heap.size+1]? =Z (T #[vq0,vw0,I J n0] 107 (0,0))
 res:W.heap[w.heap.size+1+1]? =Z (T #[Y O 0 0,Y O 0 0,I J 0] 107 (0,0))
 ge:w.heap.size+3≤g
 obj:W.heap[g]? =Z (T #[vq,vw,I J n] 107 (0,0))
 oq:Bk W (w.heap.size+3) vq q
 fr:Aq W (w.heap.size+3) vw l
 ap:∀ a m c,vw=Y (Z a) m c→0<m→a.block≠g
 bel:Bl w W
def W3(w:br)(nm:ByteArray)(k:Int)(o:Bool)(s d r:Int)(vq vw:bq)(n:Int):br:=
 ((w.alloc (T #[.string nm,I U k,.bool o,I J s,I J d,I J r] 62)).alloc (T #[vq,vw,I J n] 107)).alloc (T #[Y O 0 0,Y O 0 0,I J 0] 107)
section
variable {w W W':br} {nm:ByteArray} {k:Int} {o:Bool} {s d r:Int} {vq0 vw0:bq} {n0:Int} {g:Nat} {vq vw:bq} {n:Int} {q:List (List Int)} {l:List Wt}
def Cj:(W3 w nm k o s d r vq vw n).heap.size=w.heap.size+3:=by simp[W3]
def Cd:Bl w (W3 w nm k o s d r vq vw n):=(((bJ _ w).alloc (bH _) _).alloc (by simp) _).alloc (by simp;omega) _
def FG:(W3 w nm k o s d r vq vw n).heap[w.heap.size]? =Z (T #[.string nm,I U k,.bool o,I J s,I J d,I J r] 62 (0,0)):=
 (b4 _ _ _ (by simp;omega)).trans ((b4 _ _ _ (by simp)).trans (bL w _))
def FF:(W3 w nm k o s d r vq vw n).heap[w.heap.size+1]? =Z (T #[vq,vw,I J n] 107 (0,0)):=by
 refine(b4 _ _ _ (by simp)).trans ?_;have:=bL (w.alloc (T #[.string nm,I U k,.bool o,I J s,I J d,I J r] 62)) (T #[vq,vw,I J n] 107);simpa using this
def QP:(W3 w nm k o s d r vq vw n).heap[w.heap.size+1+1]? =Z (T #[Y O 0 0,Y O 0 0,I J 0] 107 (0,0)):=by
 have:=bL ((w.alloc (T #[.string nm,I U k,.bool o,I J s,I J d,I J r] 62)).alloc (T #[vq,vw,I J n] 107)) (T #[Y O 0 0,Y O 0 0,I J 0] 107);simpa[W3] using this
def Cy{W:br}{g:Nat}{a b c d e f:bq}{t:ci}(h:W.heap[g]? =Z (T #[a,b,c,d,e,f] t (0,0))):
  W.cell? ⟨g,0,O⟩=Z a∧W.cell? ⟨g,1,O⟩=Z b∧W.cell? ⟨g,2,O⟩=Z c∧W.cell? ⟨g,3,O⟩=Z d∧W.cell? ⟨g,4,O⟩=Z e∧W.cell? ⟨g,5,O⟩=Z f:=by
 refine⟨?_,?_,?_,?_,?_,?_⟩<;>(rw[bI _ _ _ _ _ _ h];rfl)
def QM.next(h:QM w W nm k o s d r vq0 vw0 n0 g vq vw n q l)(a:Bl W W'):QM w W' nm k o s d r vq0 vw0 n0 g vq vw n q l:=
 ⟨(a.block _ (Aa h.Bj)).trans h.Bj,(a.block _ (Aa h.arg)).trans h.arg,(a.block _ (Aa h.res)).trans h.res,h.ge,(a.block _ (Aa h.obj)).trans h.obj,h.oq.below a,h.fr.below a,h.ap,h.bel.trans (a.mono h.bel.size)⟩
def QM.new{b:br}(j:Bk b (W3 w nm k o s d r vq0 vw0 n0).heap.size vq q)(f:Aq b (W3 w nm k o s d r vq0 vw0 n0).heap.size vw l)(e:df (W3 w nm k o s d r vq0 vw0 n0).heap.size (W3 w nm k o s d r vq0 vw0 n0) b):
  QM w (b.alloc (T #[vq,vw,I J n] 107)) nm k o s d r vq0 vw0 n0 b.heap.size vq vw n q l:=by
 have u:=Cj (w:=w) (nm:=nm) (k:=k) (o:=o) (s:=s) (d:=d) (r:=r) (vq:=vq0) (vw:=vw0) (n:=n0);have h:=(Cd (w:=w) (nm:=nm) (k:=k) (o:=o) (s:=s) (d:=d) (r:=r) (vq:=vq0) (vw:=vw0) (n:=n0)).trans (e.mono (by omega));have v:=e.size;have i:Bl b (b.alloc (T #[vq,vw,I J n] 107)):=(bJ _ _).alloc (bH _) _;rw[u] at j f;refine⟨(b4 _ _ _ (by omega)).trans ((e.block _ (by omega)).trans FG),(b4 _ _ _ (by omega)).trans ((e.block _ (by omega)).trans FF),(b4 _ _ _ (by omega)).trans ((e.block _ (by omega)).trans QP),by omega,bL b _,j.below i,f.below i,fun a m c t p=>dF (Mp f t p).2,h.alloc h.size _⟩
def set3{W:br}{g:Nat}{a b c:bq}{t:ci}(h:W.heap[g]? =Z (T #[a,b,c] t (0,0)))(x:bq):
  (W.setCell ⟨g,0,O⟩ x).heap[g]? =Z (T #[x,b,c] t (0,0))∧(W.setCell ⟨g,1,O⟩ x).heap[g]? =Z (T #[a,x,c] t (0,0))∧(W.setCell ⟨g,2,O⟩ x).heap[g]? =Z (T #[a,b,x] t (0,0)):=by
 have e:=b8 W g 0 _ _ x h;have f:=b8 W g 1 _ _ x h;have i:=b8 W g 2 _ _ x h;simp at e f i;exact⟨e,f,i⟩
def QM.set{W':br}{u:bq}{j:Nat}{e b:bq}{f:Int}{i:List (List Int)}{l':List Wt}(h:QM w W nm k o s d r vq0 vw0 n0 g vq vw n q l)(t:W'=W.setCell ⟨g,j,O⟩ u)(z:W'.heap[g]? =Z (T #[e,b,I J f] 107 (0,0)))
  (A:Bk W' (w.heap.size+3) e i) (x:Aq W' (w.heap.size+3) b l') (v:∀ a m c,b=Y (Z a) m c→0<m→a.block≠g):QM w W' nm k o s d r vq0 vw0 n0 g e b f i l':=by
 have y:=h.ge;subst t;exact⟨(bR _ _ _ _ (by show w.heap.size≠g;omega)).trans h.Bj,(bR _ _ _ _ (by show w.heap.size+1≠g;omega)).trans h.arg,(bR _ _ _ _ (by show w.heap.size+1+1≠g;omega)).trans h.res,y,z,A,x,v,h.bel.setCell (p:=⟨g,j,O⟩) (by show _≤g;omega) u⟩
def Mn{j:Nat}{u:bq}(h:Aq W (w.heap.size+3) vw l)(b:∀ a m c,vw=Y (Z a) m c→0<m→a.block≠g):Aq (W.setCell ⟨g,j,O⟩ u) (w.heap.size+3) vw l:=h.JW (KS W g j u) b
def QM.Na{u:bq}{l':List Wt}(h:QM w W nm k o s d r vq0 vw0 n0 g vq vw n q l)(e:Aq W (w.heap.size+3) u l')(b:∀ a m c,u=Y (Z a) m c→0<m→a.block≠g):QM w (W.setCell ⟨g,1,O⟩ u) nm k o s d r vq0 vw0 n0 g vq u n q l':=
 h.set rfl (set3 h.obj u).2.1 (h.oq.oth h.obj (by decide) (by decide)) (Mn e b) b
def QM.PV(h:QM w W nm k o s d r vq0 vw0 n0 g vq vw n q l)(a:Int):QM w (W.setCell ⟨g,2,O⟩ (I J a)) nm k o s d r vq0 vw0 n0 g vq vw a q l:=
 h.set rfl (set3 h.obj _).2.2 (h.oq.oth h.obj (by decide) (by decide)) (Mn h.fr h.ap) h.ap
def DK(w W:br)(x y z:bq):br:=((W.setCell ⟨w.heap.size+1+1,0,O⟩ x).setCell ⟨w.heap.size+1+1,1,O⟩ y).setCell ⟨w.heap.size+1+1,2,O⟩ z
def LY(h:Bl w W)(x y z:bq):Bl w (DK w W x y z):=
 ((h.setCell (p:=⟨w.heap.size+1+1,0,O⟩) (by show _≤w.heap.size+1+1;omega) x).setCell (p:=⟨w.heap.size+1+1,1,O⟩) (by show _≤w.heap.size+1+1;omega) y).setCell (p:=⟨w.heap.size+1+1,2,O⟩) (by show _≤w.heap.size+1+1;omega) z
def QM.last(h:QM w W nm k o s d r vq0 vw0 n0 g vq vw n q l)(x y z:bq):A6 (DK w W x y z) w.heap.size vq q∧Aq (DK w W x y z) w.heap.size vw l∧Bl w (DK w W x y z):=
 ⟨(((h.oq.rd.low (by omega)).low (by omega)).low (by omega)).mono (by omega),(((h.fr.low (by omega)).low (by omega)).low (by omega)).mono (by omega),LY h.bel x y z⟩
end
def LJ(w:br)(q:List (List Int))(l:List Wt)(n:Int)(x y:bq)(e:cO)(w':br):Prop:=
 ∃ vq vw,e=.returned (.tuple #[.agg #[vq,vw,I J n],x,y])∧A6 w' w.heap.size vq q∧Aq w' w.heap.size vw l∧Bl w w'
def Rn(w:br)(q:List (List Int))(l:List Wt)(n:Int)(x:List Int)(y:bq)(e:cO)(w':br):Prop:=
 ∃ vq vw a,e=.returned (.tuple #[.agg #[vq,vw,I J n],a,y])∧A6 w' w.heap.size vq q∧Aq w' w.heap.size vw l∧Af U w' w.heap.size a x∧Bl w w'
def NN(w:br)(q:List (List Int))(l:List Wt)(n:Int)(x:List Int)(z y:bq)(e:cO)(w':br):Prop:=
 ∃ vq vw a,e=.returned (.tuple #[.agg #[vq,vw,I J n],a,z,y])∧A6 w' w.heap.size vq q∧Aq w' w.heap.size vw l∧Af U w' w.heap.size a x∧Bl w w'
def sendQ(k s d r:Int)(q:List (List Int))(l:List Wt)(n:Int)(x:List Int):List (List Int)×List Wt×Int×Int×Int:=
 if BP k s d r q l n=false∨x=[] then(q,l,n,-1,2) else if s<(x.length:Int) then(q,l,n,-1,3) else match l with
  |y::m=>(q,m,n,y.proc,0)
  | []=>if(q.length:Int)=d then(q,[],if n<1073741824 then n+1 else 1073741824,-1,4) else(q++ [x],[],n,-1,0)
def Fh(k s d r:Int)(q:List (List Int))(l:List Wt)(n:Int):List (List Int)×List Int×Int:=
 if BP k s d r q l n=false then(q,[],2) else match q with
  |x::t=>(t,x,0)
  | []=>([],[],6)
def recvQ(k s d r:Int)(q:List (List Int))(l:List Wt)(n p u:Int):List (List Int)×List Wt×List Int×Bool×Int:=
 if BP k s d r q l n=false∨Cw l p=false then(q,l,[],false,2) else match q with
  |x::t=>(t,l,x,true,0)
  | []=>([],Cl l ⟨p,u,0⟩,[],false,0)
section
variable {w W W':br} {nm:ByteArray} {k:Int} {o:Bool} {s d r:Int} {vq0 vw0:bq} {n0:Int} {g:Nat} {vq vw:bq} {n:Int} {q:List (List Int)} {l:List Wt}
def QM.leave{v:bq}{m:List Wt}(h:QM w W nm k o s d r vq0 vw0 n0 g vq vw n q l)(b:W'.ownsRow W.heap.size 161 3 v m.length (cellsW m))(e:Bl W W'):QM w (W'.setCell ⟨g,1,O⟩ v) nm k o s d r vq0 vw0 n0 g vq v n q m:=by
 have j:=Aa h.obj;have i:=h.ge;refine(h.next e).Na ((Aq.Bw b).mono (by omega)) (fun a m c f p=>?_);subst f;have:=(b.lt a.block rfl).1;omega
def QM.Xy{b j m c:Nat}(h:QM w W nm k o s d r vq0 vw0 n0 g (Y (Z ⟨b,j,O⟩) m c) vw n q l):¬(b=g):=by
 intro e;obtain⟨vs,i,_⟩:=h.oq;rcases i.2 with ⟨a,_⟩|⟨u,p,t,a,_,f,_⟩
 ·cases a
 ·simp only[b5,bM,de] at a;obtain⟨⟨rfl,_⟩,_⟩:=a;subst e;have:=h.obj;rw[f] at this;simp only[bM,cG] at this;exact absurd this.2.1 (by decide)
def QM.take{b v m c:Nat}{x:List Int}{t:List (List Int)}(h:QM w W nm k o s d r vq0 vw0 n0 g (Y (Z ⟨b,v,O⟩) m c) vw n q l)(A:q=x::t)(a e f i:bq):
  A6 (DK w (W.setCell ⟨g,0,O⟩ a) e f i) w.heap.size (Y (if c=1 then Z ⟨b,v,O⟩ else Z ⟨b,v+1,O⟩) (m-1) (c-1)) t∧Aq (DK w (W.setCell ⟨g,0,O⟩ a) e f i) w.heap.size vw l∧
  Bl w (DK w (W.setCell ⟨g,0,O⟩ a) e f i)∧∀ u,W.cell? ⟨b,v,O⟩=Z u→Af U (DK w (W.setCell ⟨g,0,O⟩ a) e f i) w.heap.size u x:=by
 have R:=h.ge;have K:Bk (DK w (W.setCell ⟨g,0,O⟩ a) e f i) (w.heap.size+3) (Y (Z ⟨b,v,O⟩) m c) q:=(((h.oq.oth h.obj (by decide) (by decide)).low (by omega)).low (by omega)).low (by omega);refine⟨(K.rd.tail A).mono (by omega),((((Mn h.fr h.ap).low (by omega)).low (by omega)).low (by omega)).mono (by omega),LY (h.bel.setCell (p:=⟨g,0,O⟩) (by show _≤g;omega) a) _ _ _,fun u M=>?_⟩;obtain⟨vs,j,F⟩:=h.oq;have L:=Sl.Bw j;subst A
 match vs,j with
 | [],j=>have:=j.1;simp at this
 |u0::us,j=>
  obtain⟨N,Q,B,_,_,_,H⟩:=L;obtain⟨P,S,z,_,_,E⟩:=H (by simp);simp only[b5] at B;obtain⟨rfl,_,_⟩:=B;simp only[bM,de,and_true] at z;obtain⟨rfl,rfl⟩:=z;have y:=E 0 u0 rfl;rw[dH,M] at y;simp only[bM] at y;subst y;have C:C5 W (w.heap.size+3) u x:=F 0 u x rfl rfl;have D:C5 (DK w (W.setCell ⟨g,0,O⟩ a) e f i) (w.heap.size+3) u x:=Hv (Hv (Hv (MR C h.obj (by decide)) (by omega)) (by omega)) (by omega);exact D.rd.mono (by omega)
end
def QD(nm:ByteArray)(k:Int)(o:Bool)(s d r n:Int)(vq vw:bq)(q:List (List Int))(l:List Wt)(w:br)(hq:A6 w 0 vq q)(hw:Al w 0 vw l)(aP:Ck l)(hl:l.length≤90000)(bg:q.length≤90000)(hm:∀ x∈q,x.length≤1000000):
  b9 prog 148 #[.agg #[.string nm,I U k,.bool o,I J s,I J d,I J r],.agg #[vq,vw,I J n]] w (Rn w (Fh k s d r q l n).1 l n (Fh k s d r q l n).2.1 (I J (Fh k s d r q l n).2.2)):=by
 obtain⟨aq,cq,rfl⟩:=hq.C2;obtain⟨aw,cw,rfl,a4,a5,a6⟩:=hw.open_;clear a4 a5 a6;obtain⟨ac,ad,al,HM⟩:=H4 hq hw aP hm;have aD:W3 w nm k o s d r (Y aq q.length cq) (Y aw l.length cw) n=((w.alloc (T #[.string nm,I U k,.bool o,I J s,I J d,I J r] 62)).alloc (T #[Y aq q.length cq,Y aw l.length cw,I J n] 107)).alloc (T #[Y O 0 0,Y O 0 0,I J 0] 107):=rfl;have ae:=HH aD;clear hq hw aP hm aD;have a9:(BP k s d r q l n=false∧Fh k s d r q l n=(q,[],2))∨(BP k s d r q l n=true∧q=[]∧Fh k s d r q l n=(q,[],6))∨(BP k s d r q l n=true∧∃ x t,q=x::t∧Fh k s d r q l n=(t,x,0)):=by
  unfold Fh;cases BP k s d r q l n
  ·simp
  ·cases q with
   |nil=>simp
   |cons x t=>exact .inr (.inr ⟨rfl,x,t,rfl,rfl⟩)
 rcases a9 with ⟨P,Q⟩|⟨P,D,Q⟩|⟨P,x,t,D,Q⟩
 ·rw[Q];clear Q;have K1:=HH P;clear P;go_enter func148,ntmps148;go_wp2_with fail;rw[←ae.o];refine(Fe _ _ q l n _ (ac.o.below Cd) (ad.o.below Cd) (by omega) (by omega) HM.o).mono ?_;rintro e g ⟨aX,aY,rfl,C,B,i⟩;obtain⟨a1,c1,rfl⟩:=C.rd.C2;obtain⟨A,c2,rfl⟩:=Bc B;obtain⟨R,S,V,W,X,p5⟩:=Cy ((i.block _ (by rw[Cj];omega)).trans FG);obtain⟨g0,F,H,K,L,M⟩:=Aj ((i.block _ (by rw[Cj];omega)).trans FF);have aO:w.heap.size+3≤g.heap.size:=by have:=i.size;rw[Cj] at this;exact this
  have aJ:w.heap.size<g.heap.size:=by omega
  have aE:w.heap.size+1<g.heap.size:=by omega
  have aL:w.heap.size+1+1<g.heap.size:=by omega
  have h:=HH (QM.new (n:=n) C B i);clear C B i ae;go_wp2_with fail;obtain⟨W1,N⟩:=ex (g.alloc (T #[Y a1 q.length c1,Y A l.length c2,I J n] 107));rw[←N] at h ⊢;clear N R S V W X p5 g0 F H K L M;have p:=DY nm k o s d r n _ _ q l W1 (ac.o.below h.o.bel) (ad.o.below h.o.bel) al.o (by omega) (by omega);rw[K1.o] at p;refine p.mono ?_;clear p;rintro e w2 ⟨rfl,E⟩;have f:=HH (h.o.next E);clear E h;obtain⟨R,S,V,W,X,p5⟩:=Cy f.o.Bj;obtain⟨g0,F,H,K,L,M⟩:=Aj f.o.arg;obtain⟨r0,r1,r2,r3,r4,r5⟩:=Aj f.o.res;obtain⟨o0,o1,o2,o3,o4,o5⟩:=Aj f.o.obj;have aI:=Aa f.o.obj;have aK:=Aa f.o.Bj;have aF:=Aa f.o.arg;have aM:=Aa f.o.res;go_wp2_with fail;refine bK (v:=.tuple #[.agg #[Y a1 q.length c1,Y A l.length c2,I J n],Y O 0 0,I J 2]) (by simp[cb,results148,go_sem,r0,r1,r2]) rfl ?_;exact⟨_,_,_,rfl,(f.o.last _ _ _).1,(f.o.last _ _ _).2.1,Af.nil _ _ _,(f.o.last _ _ _).2.2⟩
 ·rw[Q];clear Q;have K1:=HH P;clear P;have a7:(q.length==0)=true:=by rw[D];rfl
  have a8:((q.length:Int)==0)=true:=by rw[D];rfl
  clear D;go_enter func148,ntmps148;go_wp2_with fail;rw[←ae.o];refine(Fe _ _ q l n _ (ac.o.below Cd) (ad.o.below Cd) (by omega) (by omega) HM.o).mono ?_;rintro e g ⟨aX,aY,rfl,C,B,i⟩;obtain⟨a1,c1,rfl⟩:=C.rd.C2;obtain⟨A,c2,rfl⟩:=Bc B;obtain⟨R,S,V,W,X,p5⟩:=Cy ((i.block _ (by rw[Cj];omega)).trans FG);obtain⟨g0,F,H,K,L,M⟩:=Aj ((i.block _ (by rw[Cj];omega)).trans FF);have aO:w.heap.size+3≤g.heap.size:=by have:=i.size;rw[Cj] at this;exact this
  have aJ:w.heap.size<g.heap.size:=by omega
  have aE:w.heap.size+1<g.heap.size:=by omega
  have aL:w.heap.size+1+1<g.heap.size:=by omega
  have h:=HH (QM.new (n:=n) C B i);clear C B i ae;go_wp2_with fail;obtain⟨W1,N⟩:=ex (g.alloc (T #[Y a1 q.length c1,Y A l.length c2,I J n] 107));rw[←N] at h ⊢;clear N R S V W X p5 g0 F H K L M;have p:=DY nm k o s d r n _ _ q l W1 (ac.o.below h.o.bel) (ad.o.below h.o.bel) al.o (by omega) (by omega);rw[K1.o] at p;refine p.mono ?_;clear p;rintro e w2 ⟨rfl,E⟩;have f:=HH (h.o.next E);clear E h;obtain⟨R,S,V,W,X,p5⟩:=Cy f.o.Bj;obtain⟨g0,F,H,K,L,M⟩:=Aj f.o.arg;obtain⟨r0,r1,r2,r3,r4,r5⟩:=Aj f.o.res;obtain⟨o0,o1,o2,o3,o4,o5⟩:=Aj f.o.obj;have aI:=Aa f.o.obj;have aK:=Aa f.o.Bj;have aF:=Aa f.o.arg;have aM:=Aa f.o.res;go_wp2_with fail;refine bK (v:=.tuple #[.agg #[Y a1 q.length c1,Y A l.length c2,I J n],Y O 0 0,I J 6]) (by simp[cb,results148,go_sem,r0,r1,r2]) rfl ?_;exact⟨_,_,_,rfl,(f.o.last _ _ _).1,(f.o.last _ _ _).2.1,Af.nil _ _ _,(f.o.last _ _ _).2.2⟩
 ·rw[Q];clear Q;have K1:=HH P;clear P;have a7:(q.length==0)=false:=by rw[D];rfl
  have a8:((q.length:Int)==0)=false:=by rw[D];simp;omega
  have bf:0<q.length:=by rw[D];simp
  have KQ:=HH D;clear D;go_enter func148,ntmps148;go_wp2_with fail;rw[←ae.o];refine(Fe _ _ q l n _ (ac.o.below Cd) (ad.o.below Cd) (by omega) (by omega) HM.o).mono ?_;rintro e g ⟨aX,aY,rfl,C,B,i⟩;obtain⟨a1,c1,rfl⟩:=C.rd.C2;obtain⟨A,c2,rfl⟩:=Bc B;obtain⟨R,S,V,W,X,p5⟩:=Cy ((i.block _ (by rw[Cj];omega)).trans FG);obtain⟨g0,F,H,K,L,M⟩:=Aj ((i.block _ (by rw[Cj];omega)).trans FF);have aO:w.heap.size+3≤g.heap.size:=by have:=i.size;rw[Cj] at this;exact this
  have aJ:w.heap.size<g.heap.size:=by omega
  have aE:w.heap.size+1<g.heap.size:=by omega
  have aL:w.heap.size+1+1<g.heap.size:=by omega
  have h:=HH (QM.new (n:=n) C B i);clear C B i ae;go_wp2_with fail;obtain⟨W1,N⟩:=ex (g.alloc (T #[Y a1 q.length c1,Y A l.length c2,I J n] 107));rw[←N] at h ⊢;clear N R S V W X p5 g0 F H K L M;have p:=DY nm k o s d r n _ _ q l W1 (ac.o.below h.o.bel) (ad.o.below h.o.bel) al.o (by omega) (by omega);rw[K1.o] at p;refine p.mono ?_;clear p;rintro e w2 ⟨rfl,E⟩;have f:=HH (h.o.next E);clear E h;obtain⟨R,S,V,W,X,p5⟩:=Cy f.o.Bj;obtain⟨g0,F,H,K,L,M⟩:=Aj f.o.arg;obtain⟨r0,r1,r2,r3,r4,r5⟩:=Aj f.o.res;obtain⟨o0,o1,o2,o3,o4,o5⟩:=Aj f.o.obj;have aI:=Aa f.o.obj;have aK:=Aa f.o.Bj;have aF:=Aa f.o.arg;have aM:=Aa f.o.res;obtain⟨a3,bd,b,af,u,rfl,ba,bc,a0,aN⟩:=f.o.oq.rd.head KQ.o;obtain⟨au,mu,cu,rfl⟩:∃ a m c,u=Y a m c:=by obtain⟨a,c,p,_⟩:=aN.open_;exact⟨a,_,c,p⟩
  have bb:¬(b=g.heap.size):=f.o.Xy;have CU:=HH a0;clear a3 aN;by_cases aG:c1=1
  ·subst aG;have TT:=HH (fun tv x y z=>f.o.take KQ.o tv x y z);clear f;go_wp2_with fail;refine bK (v:=.tuple #[.agg #[Y (Z ⟨b,af,O⟩) (q.length-1) 0,Y A l.length c2,I J n],Y au mu cu,I J 0]) (by simp[cb,results148,go_sem,r0,r1,r2]) rfl ?_;have j:=TT.o (Y (Z ⟨b,af,O⟩) (q.length-1) 0) (Y (Z ⟨b,af,O⟩) (q.length-1) 0) (Y A l.length c2) (I J n)
   first|rw[if_pos rfl] at j|rw[if_pos trivial] at j
   exact⟨_,_,_,rfl,j.1,j.2.1,j.2.2.2 _ CU.o,j.2.2.1⟩
  ·have TT:=HH (fun tv x y z=>f.o.take KQ.o tv x y z);clear f;go_wp2_with fail;refine bK (v:=.tuple #[.agg #[Y (Z ⟨b,af+1,O⟩) (q.length-1) (c1-1),Y A l.length c2,I J n],Y au mu cu,I J 0]) (by simp[cb,results148,go_sem,r0,r1,r2]) rfl ?_;have j:=TT.o (Y (Z ⟨b,af+1,O⟩) (q.length-1) (c1-1)) (Y (Z ⟨b,af+1,O⟩) (q.length-1) (c1-1)) (Y A l.length c2) (I J n)
   first|rw[if_neg aG] at j|rw[if_pos trivial] at j
   exact⟨_,_,_,rfl,j.1,j.2.1,j.2.2.2 _ CU.o,j.2.2.1⟩
def Zu{k s d r n:Int}{q:List (List Int)}{l:List Wt}(h:BP k s d r q l n=true):0≤n∧n≤1073741824:=by
 simp only[BP,Ey,ey,Bool.not_eq_true',Bool.or_eq_false_iff,decide_eq_false_iff_not] at h;omega
def Al.UP{w:br}{B m d:Nat}{a:Option dj}{x:Wt}{l k:List Wt}(h:Al w B (Y a m d) k)(n:k=x::l):∃ b f,a=Z ⟨b,f,O⟩∧b<w.heap.size∧w.cell? ⟨b,f,O⟩=Z (I J x.proc):=by
 subst n;obtain⟨p,cap,e,q,r,s,c⟩:=h;simp only[b5,cj] at e;obtain⟨rfl,rfl,rfl⟩:=e;simp only[cj] at c;obtain⟨g,o,rfl,t,i,j⟩:=c (by omega);exact⟨g,o,rfl,i,j 0 _ rfl⟩
def Aq.empty{w w':br}{B:Nat}{v:bq}{l:List Wt}(h:Aq w B v l)(k:l=[]):Aq w' B v l:=by
 subst k;obtain⟨⟨e,cap,b,g,i,j,_⟩,m⟩:=h;refine⟨⟨e,cap,b,g,i,j,fun f=>absurd f (by simp)⟩,fun a n c d o=>?_⟩;rw[b] at d;simp only[b5,ez] at d;omega
def YX{P:ei}{ops:Array eH}{o:eH}{a:Act}{w:br}{K:Act→br→Prop}{Q:Exit→Act→br→Prop}{E:Prop}
  (e:o.guard=O) (d x:Operand) (t:ci) (f:o.op=.call {callee:=.builtin .append,args:=#[d,x],argTypes:=#[t,t]})
  (v u:bq) (c:a.eval d=v) (i:a.eval x=u) {b:bq} {w':br} (g:(cQ #[t,t] o.type #[v,u]).run P w=.ok b w') (hK:K (a.put o.dst b) w'):
  if dP o (yielded ops a.tmps)=true then dD P o a w K Q else E:=by
 have h:dP o (yielded ops a.tmps)=true:=by simp[dP,e]
 rw[if_pos h];unfold dD eh;simp only[f,resolve,invoke,builtin,Sem.run_bind,Sem.run_pure,Result.andThen_ok,List.map_toArray,List.map_cons,List.map_nil,c,i,g];exact hK
section
variable {w W W':br} {nm:ByteArray} {k:Int} {o:Bool} {s d r:Int} {vq0 vw0:bq} {n0:Int} {g:Nat} {vq vw:bq} {n:Int} {q:List (List Int)} {l:List Wt}
def QM.Pe(h:QM w W nm k o s d r vq0 vw0 n0 g vq vw n q l)(x y z:bq):A6 (DK w W.drew x y z) w.heap.size vq q∧Aq (DK w W.drew x y z) w.heap.size vw l∧Bl w (DK w W.drew x y z):=by
 obtain⟨b,c,a⟩:=h.last x y z;exact⟨b,c,⟨a.os,a.tape,a.output,a.size,a.block⟩⟩
def Xx{t:Nat}{c:Array bq}{f:Nat×Nat}{B e s n g:Nat}{v:bq}{m:List bq}(i:W.heap[g]? =Z (T c t f))(h:W.ownsRow B e s v n m)(j:t≠e):Z g≠v.ownBlock:=by
 intro a;rcases h.2 with ⟨rfl,_⟩|⟨x,p,u,rfl,_,b,_⟩
 ·simp[cF] at a
 ·simp only[cF,bM] at a;subst a;rw[i] at b;simp only[bM,cG] at b;exact j b.2.1
def QM.append{a:Option dj}{m c:Nat}{x:List Int}(h:QM w W nm k o s d r vq0 vw0 n0 g vq vw n q l)(V:l=[])(hx:C5 W (w.heap.size+3) (Y a m c) x)(am:q.length≤90000):
  ∃ f v,(cQ #[35,35] 35 #[vq,Y (Z ⟨W.heap.size,0,O⟩) 1 1]).run prog (W.alloc (T #[Y a m c] 34))=.ok f v∧(∃ a m c,f=Y a m c)∧
   v.heap[g]? =Z (T #[vq,vw,I J n] 107 (0,0))∧v.heap[w.heap.size+1+1]? =Z (T #[Y O 0 0,Y O 0 0,I J 0] 107 (0,0))∧
   QM w (v.setCell ⟨g,0,O⟩ f) nm k o s d r vq0 vw0 n0 g f vw n (q++ [x]) l:=by
 obtain⟨vs,X,S⟩:=h.oq;obtain⟨i0,R,ag,ah,ai⟩:=cB Mz;have C:Bl W (W.alloc (T #[Y a m c] 34)):=(bJ _ _).alloc (bH _) _;have F:=CA X C;have Q:=h.ge;have al:=Aa h.obj;have an:(W.alloc (T #[Y a m c] 34)).heap.size=W.heap.size+1:=by simp
 obtain⟨f,v,ab,M,A,_⟩:=run_append_own (P:=prog) (W.alloc (T #[Y a m c] 34)) (w.heap.size+3) 35 35 34 i0 (Y O 0 0) 1 24 underlying35 R ag ah ai rfl (by decide) vq q.length vs F ⟨W.heap.size,0,O⟩ 1 1 [Y a m c] rfl
  (by
   intro j u E
   match j,E with
   |0,E=>
    simp at E;subst E;rw[Cu,bI _ _ _ _ _ _ (bL W _)];rfl)
  (by intro u H;simp at H;subst H;rfl) (by unfold cM;omega) (by omega) (by omega)
 have D:∀ {b:Nat} {K:Array bq} {t:ci},W.heap[b]? =Z (T K t (0,0))→t≠34→v.heap[b]? =Z (T K t (0,0)):=fun {b K t} z ht=>
  (A.block b (by have:=Aa z;omega) (Xx ((C.block b (Aa z)).trans z) F ht)).trans ((C.block b (Aa z)).trans z)
 have aa:Bk v (w.heap.size+3) f (q++ [x]):=Bk.snoc F (fun i u y H hy=>(S i u y H hy).below C) (hx.below C) A M;have L:=D h.obj (by decide);have N:Bl w v:=by
  have B:=h.bel.alloc h.bel.size (T #[Y a m c] 34);refine⟨A.os.trans B.os,A.tape.trans B.tape,A.output.trans B.output,cC B.size A.size,fun b z=>?_⟩;have ak:=h.bel.size;refine(A.block b (by omega) (fun e=>?_)).trans (B.block b z);have:=(F.lt b e.symm).1;omega
 refine⟨f,v,ab,?_,L,D h.res (by decide),?_⟩
 ·obtain⟨a,c,hv⟩:=Bq M;exact⟨a,_,c,hv⟩
 ·exact⟨(bR _ _ _ _ (by show w.heap.size≠g;omega)).trans (D h.Bj (by decide)),(bR _ _ _ _ (by show w.heap.size+1≠g;omega)).trans (D h.arg (by decide)),(bR _ _ _ _ (by show w.heap.size+1+1≠g;omega)).trans (D h.res (by decide)),Q,(set3 L f).1,aa.oth L (by decide) (by decide),h.fr.empty V,h.ap,N.setCell (p:=⟨g,0,O⟩) (by show _≤g;omega) f⟩
end
def Qq(nm:ByteArray)(k:Int)(o:Bool)(s d r n:Int)(vx:bq)(x:List Int)(vq vw:bq)(q:List (List Int))(l:List Wt)(w:br)(hq:A6 w 0 vq q)(hw:Al w 0 vw l)(bj:Ck l)(hl:l.length≤90000)(bV:q.length≤90000)(hm:∀ x∈q,x.length≤1000000)(hx:Af U w 0 vx x)(bZ:x.length≤1000000):
  b9 prog 49 #[.agg #[.string nm,I U k,.bool o,I J s,I J d,I J r],.agg #[vq,vw,I J n],vx] w (LJ w (sendQ k s d r q l n x).1 (sendQ k s d r q l n x).2.1 (sendQ k s d r q l n x).2.2.1 (I J (sendQ k s d r q l n x).2.2.2.1) (I J (sendQ k s d r q l n x).2.2.2.2)):=by
 obtain⟨aq,cq,rfl⟩:=hq.C2;obtain⟨aw,cw,rfl,bA,bB,bC⟩:=hw.open_;clear bA bB bC;obtain⟨ax,cx,rfl,bE,bF,bG⟩:=hx.open_;clear bE bF bG;have bo:=HH hx;clear hx;obtain⟨aa,X,am,HM⟩:=H4 hq hw bj hm;have a9:W3 w nm k o s d r (Y aq q.length cq) (Y aw l.length cw) n=((w.alloc (T #[.string nm,I U k,.bool o,I J s,I J d,I J r] 62)).alloc (T #[Y aq q.length cq,Y aw l.length cw,I J n] 107)).alloc (T #[Y O 0 0,Y O 0 0,I J 0] 107):=rfl;have ab:=HH a9;clear hq hw bj hm a9;have bD:(BP k s d r q l n=false∧sendQ k s d r q l n x=(q,l,n,-1,2))∨(BP k s d r q l n=true∧x=[]∧sendQ k s d r q l n x=(q,l,n,-1,2))∨(BP k s d r q l n=true∧x≠ []∧s<(x.length:Int)∧sendQ k s d r q l n x=(q,l,n,-1,3))∨
   (BP k s d r q l n=true∧x≠ []∧¬s<(x.length:Int)∧∃ y m,l=y::m∧sendQ k s d r q l n x=(q,m,n,y.proc,0))∨(BP k s d r q l n=true∧x≠ []∧¬s<(x.length:Int)∧l=[]∧(q.length:Int)=d∧sendQ k s d r q l n x=(q,l,if n<1073741824 then n+1 else 1073741824,-1,4))∨
   (BP k s d r q l n=true∧x≠ []∧¬s<(x.length:Int)∧l=[]∧¬(q.length:Int)=d∧sendQ k s d r q l n x=(q++ [x],l,n,-1,0)):=by
  unfold sendQ;cases BP k s d r q l n
  ·simp
  ·by_cases h1:x=[]
   ·simp[h1]
   ·by_cases h2:s<(x.length:Int)
    ·simp[h1,h2]
    ·cases l with
     |cons y m=>exact .inr (.inr (.inr (.inl ⟨rfl,h1,h2,y,m,rfl,by simp[h1,h2]⟩)))
     |nil=>
      by_cases h3:(q.length:Int)=d
      ·exact .inr (.inr (.inr (.inr (.inl ⟨rfl,h1,h2,rfl,h3,by simp[h1,h2,h3]⟩))))
      ·exact .inr (.inr (.inr (.inr (.inr ⟨rfl,h1,h2,rfl,h3,by simp[h1,h2,h3]⟩))))
 rcases bD with ⟨V,W⟩|⟨V,S,W⟩|⟨V,S,ks,W⟩|⟨V,S,ks,y,m,kl,W⟩|⟨V,S,ks,kl,kd,W⟩|⟨V,S,ks,kl,kd,W⟩
 ·rw[W];clear W;have K1:=HH V;clear V;go_enter func49,ntmps49;go_wp2_with fail;rw[←ab.o];refine(Fe _ _ q l n _ (aa.o.below Cd) (X.o.below Cd) (by omega) (by omega) HM.o).mono ?_;rintro e f ⟨aJ,aK,rfl,t,j,h⟩;obtain⟨z,c1,rfl⟩:=t.rd.C2;obtain⟨R,c2,rfl⟩:=Bc j;obtain⟨K,L,M,N,P,Q⟩:=Cy ((h.block _ (by rw[Cj];omega)).trans FG);obtain⟨g0,B,C,D,E,F⟩:=Aj ((h.block _ (by rw[Cj];omega)).trans FF);have aC:w.heap.size+3≤f.heap.size:=by have:=h.size;rw[Cj] at this;exact this
  have ay:w.heap.size<f.heap.size:=by omega
  have ar:w.heap.size+1<f.heap.size:=by omega
  have aA:w.heap.size+1+1<f.heap.size:=by omega
  have g:=HH (QM.new (n:=n) t j h);clear t j h ab;go_wp2_with fail;obtain⟨W1,H⟩:=ex (f.alloc (T #[Y z q.length c1,Y R l.length c2,I J n] 107));rw[←H] at g ⊢;clear H K L M N P Q g0 B C D E F;have i:=DY nm k o s d r n _ _ q l W1 (aa.o.below g.o.bel) (X.o.below g.o.bel) am.o (by omega) (by omega);rw[K1.o] at i;refine i.mono ?_;clear i;rintro e w2 ⟨rfl,A⟩;have c:=HH (g.o.next A);clear A g;obtain⟨K,L,M,N,P,Q⟩:=Cy c.o.Bj;obtain⟨g0,B,C,D,E,F⟩:=Aj c.o.arg;obtain⟨r0,r1,r2,r3,r4,r5⟩:=Aj c.o.res;obtain⟨o0,o1,o2,o3,o4,o5⟩:=Aj c.o.obj;have av:=Aa c.o.obj;have az:=Aa c.o.Bj;have au:=Aa c.o.arg;have aB:=Aa c.o.res;go_wp2_with fail;refine bK (v:=.tuple #[.agg #[Y z q.length c1,Y R l.length c2,I J n],I J (-1),I J 2]) (by simp[cb,results49,go_sem,r0,r1,r2]) rfl ?_;exact⟨_,_,rfl,c.o.last _ _ _⟩
 ·rw[W];clear W;have K1:=HH V;clear V;have aQ:(x.length==0)=true:=by rw[S];rfl
  have aR:((x.length:Int)==0)=true:=by rw[S];rfl
  clear S;go_enter func49,ntmps49;go_wp2_with fail;rw[←ab.o];refine(Fe _ _ q l n _ (aa.o.below Cd) (X.o.below Cd) (by omega) (by omega) HM.o).mono ?_;rintro e f ⟨aJ,aK,rfl,t,j,h⟩;obtain⟨z,c1,rfl⟩:=t.rd.C2;obtain⟨R,c2,rfl⟩:=Bc j;obtain⟨K,L,M,N,P,Q⟩:=Cy ((h.block _ (by rw[Cj];omega)).trans FG);obtain⟨g0,B,C,D,E,F⟩:=Aj ((h.block _ (by rw[Cj];omega)).trans FF);have aC:w.heap.size+3≤f.heap.size:=by have:=h.size;rw[Cj] at this;exact this
  have ay:w.heap.size<f.heap.size:=by omega
  have ar:w.heap.size+1<f.heap.size:=by omega
  have aA:w.heap.size+1+1<f.heap.size:=by omega
  have g:=HH (QM.new (n:=n) t j h);clear t j h ab;go_wp2_with fail;obtain⟨W1,H⟩:=ex (f.alloc (T #[Y z q.length c1,Y R l.length c2,I J n] 107));rw[←H] at g ⊢;clear H K L M N P Q g0 B C D E F;have i:=DY nm k o s d r n _ _ q l W1 (aa.o.below g.o.bel) (X.o.below g.o.bel) am.o (by omega) (by omega);rw[K1.o] at i;refine i.mono ?_;clear i;rintro e w2 ⟨rfl,A⟩;have c:=HH (g.o.next A);clear A g;obtain⟨K,L,M,N,P,Q⟩:=Cy c.o.Bj;obtain⟨g0,B,C,D,E,F⟩:=Aj c.o.arg;obtain⟨r0,r1,r2,r3,r4,r5⟩:=Aj c.o.res;obtain⟨o0,o1,o2,o3,o4,o5⟩:=Aj c.o.obj;have av:=Aa c.o.obj;have az:=Aa c.o.Bj;have au:=Aa c.o.arg;have aB:=Aa c.o.res;go_wp2_with fail;refine bK (v:=.tuple #[.agg #[Y z q.length c1,Y R l.length c2,I J n],I J (-1),I J 2]) (by simp[cb,results49,go_sem,r0,r1,r2]) rfl ?_;exact⟨_,_,rfl,c.o.last _ _ _⟩
 ·rw[W];clear W;have K1:=HH V;clear V;have aQ:(x.length==0)=false:=by simp;exact S
  have aR:((x.length:Int)==0)=false:=by simp;exact S
  clear S;go_enter func49,ntmps49;go_wp2_with fail;rw[←ab.o];refine(Fe _ _ q l n _ (aa.o.below Cd) (X.o.below Cd) (by omega) (by omega) HM.o).mono ?_;rintro e f ⟨aJ,aK,rfl,t,j,h⟩;obtain⟨z,c1,rfl⟩:=t.rd.C2;obtain⟨R,c2,rfl⟩:=Bc j;obtain⟨K,L,M,N,P,Q⟩:=Cy ((h.block _ (by rw[Cj];omega)).trans FG);obtain⟨g0,B,C,D,E,F⟩:=Aj ((h.block _ (by rw[Cj];omega)).trans FF);have aC:w.heap.size+3≤f.heap.size:=by have:=h.size;rw[Cj] at this;exact this
  have ay:w.heap.size<f.heap.size:=by omega
  have ar:w.heap.size+1<f.heap.size:=by omega
  have aA:w.heap.size+1+1<f.heap.size:=by omega
  have g:=HH (QM.new (n:=n) t j h);clear t j h ab;go_wp2_with fail;obtain⟨W1,H⟩:=ex (f.alloc (T #[Y z q.length c1,Y R l.length c2,I J n] 107));rw[←H] at g ⊢;clear H K L M N P Q g0 B C D E F;have i:=DY nm k o s d r n _ _ q l W1 (aa.o.below g.o.bel) (X.o.below g.o.bel) am.o (by omega) (by omega);rw[K1.o] at i;refine i.mono ?_;clear i;rintro e w2 ⟨rfl,A⟩;have c:=HH (g.o.next A);clear A g;obtain⟨K,L,M,N,P,Q⟩:=Cy c.o.Bj;obtain⟨g0,B,C,D,E,F⟩:=Aj c.o.arg;obtain⟨r0,r1,r2,r3,r4,r5⟩:=Aj c.o.res;obtain⟨o0,o1,o2,o3,o4,o5⟩:=Aj c.o.obj;have av:=Aa c.o.obj;have az:=Aa c.o.Bj;have au:=Aa c.o.arg;have aB:=Aa c.o.res;go_wp2_with fail;refine bK (v:=.tuple #[.agg #[Y z q.length c1,Y R l.length c2,I J n],I J (-1),I J 3]) (by simp[cb,results49,go_sem,r0,r1,r2]) rfl ?_;exact⟨_,_,rfl,c.o.last _ _ _⟩
 ·rw[W];clear W;have K1:=HH V;clear V;have aQ:(x.length==0)=false:=by simp;exact S
  have aR:((x.length:Int)==0)=false:=by simp;exact S
  clear S;have KL:=HH kl;have be:0<l.length:=by rw[kl];simp
  have bf:(0:Int)<(l.length:Int):=by omega
  clear kl;go_enter func49,ntmps49;go_wp2_with fail;rw[←ab.o];refine(Fe _ _ q l n _ (aa.o.below Cd) (X.o.below Cd) (by omega) (by omega) HM.o).mono ?_;rintro e f ⟨aJ,aK,rfl,t,j,h⟩;obtain⟨z,c1,rfl⟩:=t.rd.C2;obtain⟨R,c2,rfl⟩:=Bc j;obtain⟨K,L,M,N,P,Q⟩:=Cy ((h.block _ (by rw[Cj];omega)).trans FG);obtain⟨g0,B,C,D,E,F⟩:=Aj ((h.block _ (by rw[Cj];omega)).trans FF);have aC:w.heap.size+3≤f.heap.size:=by have:=h.size;rw[Cj] at this;exact this
  have ay:w.heap.size<f.heap.size:=by omega
  have ar:w.heap.size+1<f.heap.size:=by omega
  have aA:w.heap.size+1+1<f.heap.size:=by omega
  have g:=HH (QM.new (n:=n) t j h);clear t j h ab;go_wp2_with fail;obtain⟨W1,H⟩:=ex (f.alloc (T #[Y z q.length c1,Y R l.length c2,I J n] 107));rw[←H] at g ⊢;clear H K L M N P Q g0 B C D E F;have i:=DY nm k o s d r n _ _ q l W1 (aa.o.below g.o.bel) (X.o.below g.o.bel) am.o (by omega) (by omega);rw[K1.o] at i;refine i.mono ?_;clear i;rintro e w2 ⟨rfl,A⟩;have c:=HH (g.o.next A);clear A g;obtain⟨K,L,M,N,P,Q⟩:=Cy c.o.Bj;obtain⟨g0,B,C,D,E,F⟩:=Aj c.o.arg;obtain⟨r0,r1,r2,r3,r4,r5⟩:=Aj c.o.res;obtain⟨o0,o1,o2,o3,o4,o5⟩:=Aj c.o.obj;have av:=Aa c.o.obj;have az:=Aa c.o.Bj;have au:=Aa c.o.arg;have aB:=Aa c.o.res;obtain⟨bz,bd,b,aS,rfl,bN,bQ,c0,bt,bu⟩:=c.o.fr.head KL.o;have bb:b≠f.heap.size:=c.o.ap _ _ _ rfl (by omega);obtain⟨b',bk,rfl,bx,e0⟩:=X.o.UP KL.o;have e1:w2.cell? ⟨b',bk,O⟩=Z (I J y.proc):=(c.o.bel.cell (p:=⟨b',bk,O⟩) bx).trans e0;have bO:¬(b'=f.heap.size):=by omega
  have bP:¬(b'=w.heap.size+1+1):=by omega
  have ak:b'<w2.heap.size:=by omega
  clear bz c0 bt bu e0;by_cases bc:c2=1
  ·subst bc;have T2:=HH (c.o.fr.tail KL.o);have M3:=HH (c.o.Na (u:=Y (Z ⟨b,aS,O⟩) (l.length-1) 0) (l':=m) (by have:=T2.o;first|rwa [if_pos rfl] at this|rwa [if_pos trivial] at this) (by intro a n cc i _;simp only[b5,bM] at i;rw[←i.1];exact bb))
   clear c T2;go_upto_region 8 with (fail)
   go_region
   all_goals
    go_wp2_with fail;refine bK (v:=.tuple #[.agg #[Y z q.length c1,Y (Z ⟨b,aS,O⟩) (l.length-1) 0,I J n],I J y.proc,I J 0]) (by simp[cb,results49,go_sem,r0,r1,r2]) rfl ?_
    first|exact⟨_,_,rfl,M3.o.last _ _ _⟩|exact⟨_,_,rfl,M3.o.Pe _ _ _⟩
  ·skip;have T2:=HH (c.o.fr.tail KL.o);have M3:=HH (c.o.Na (u:=Y (Z ⟨b,aS+3,O⟩) (l.length-1) (c2-1)) (l':=m) (by have:=T2.o;first|rwa [if_neg bc] at this|rwa [if_pos trivial] at this) (by intro a n cc i _;simp only[b5,bM] at i;rw[←i.1];exact bb))
   clear c T2;go_upto_region 8 with (fail)
   go_region
   all_goals
    go_wp2_with fail;refine bK (v:=.tuple #[.agg #[Y z q.length c1,Y (Z ⟨b,aS+3,O⟩) (l.length-1) (c2-1),I J n],I J y.proc,I J 0]) (by simp[cb,results49,go_sem,r0,r1,r2]) rfl ?_
    first|exact⟨_,_,rfl,M3.o.last _ _ _⟩|exact⟨_,_,rfl,M3.o.Pe _ _ _⟩
 ·rw[W];clear W;have K1:=HH V;clear V;have aQ:(x.length==0)=false:=by simp;exact S
  have aR:((x.length:Int)==0)=false:=by simp;exact S
  clear S;have KL:=HH kl;have be:¬(0<l.length):=by rw[kl];simp
  have bf:¬((0:Int)<(l.length:Int)):=by omega
  clear kl;have bd:((q.length:Int)==d)=true:=by simp[kd]
  clear kd;have aT:=Zu K1.o;have bT:0≤n:=aT.1;have bU:n≤1073741824:=aT.2;clear aT;by_cases bh:n<1073741824
  ·rw[if_pos bh];have bS:n+1≤1073741824:=by omega
   go_enter func49,ntmps49;go_wp2_with fail;rw[←ab.o];refine(Fe _ _ q l n _ (aa.o.below Cd) (X.o.below Cd) (by omega) (by omega) HM.o).mono ?_;rintro e f ⟨aJ,aK,rfl,t,j,h⟩;obtain⟨z,c1,rfl⟩:=t.rd.C2;obtain⟨R,c2,rfl⟩:=Bc j;obtain⟨K,L,M,N,P,Q⟩:=Cy ((h.block _ (by rw[Cj];omega)).trans FG);obtain⟨g0,B,C,D,E,F⟩:=Aj ((h.block _ (by rw[Cj];omega)).trans FF);have aC:w.heap.size+3≤f.heap.size:=by have:=h.size;rw[Cj] at this;exact this
   have ay:w.heap.size<f.heap.size:=by omega
   have ar:w.heap.size+1<f.heap.size:=by omega
   have aA:w.heap.size+1+1<f.heap.size:=by omega
   have g:=HH (QM.new (n:=n) t j h);clear t j h ab;go_wp2_with fail;obtain⟨W1,H⟩:=ex (f.alloc (T #[Y z q.length c1,Y R l.length c2,I J n] 107));rw[←H] at g ⊢;clear H K L M N P Q g0 B C D E F;have i:=DY nm k o s d r n _ _ q l W1 (aa.o.below g.o.bel) (X.o.below g.o.bel) am.o (by omega) (by omega);rw[K1.o] at i;refine i.mono ?_;clear i;rintro e w2 ⟨rfl,A⟩;have c:=HH (g.o.next A);clear A g;obtain⟨K,L,M,N,P,Q⟩:=Cy c.o.Bj;obtain⟨g0,B,C,D,E,F⟩:=Aj c.o.arg;obtain⟨r0,r1,r2,r3,r4,r5⟩:=Aj c.o.res;obtain⟨o0,o1,o2,o3,o4,o5⟩:=Aj c.o.obj;have av:=Aa c.o.obj;have az:=Aa c.o.Bj;have au:=Aa c.o.arg;have aB:=Aa c.o.res;have M3:=HH (c.o.PV (n+1));clear c;go_wp2_with fail;refine bK (v:=.tuple #[.agg #[Y z q.length c1,Y R l.length c2,I J (n+1)],I J (-1),I J 4]) (by simp[cb,results49,go_sem,r0,r1,r2]) rfl ?_;exact⟨_,_,rfl,M3.o.last _ _ _⟩
  ·rw[if_neg bh];obtain rfl:n=1073741824:=by omega
   go_enter func49,ntmps49;go_wp2_with fail;rw[←ab.o];refine(Fe _ _ q l _ _ (aa.o.below Cd) (X.o.below Cd) (by omega) (by omega) HM.o).mono ?_;rintro e f ⟨aJ,aK,rfl,t,j,h⟩;obtain⟨z,c1,rfl⟩:=t.rd.C2;obtain⟨R,c2,rfl⟩:=Bc j;obtain⟨K,L,M,N,P,Q⟩:=Cy ((h.block _ (by rw[Cj];omega)).trans FG);obtain⟨g0,B,C,D,E,F⟩:=Aj ((h.block _ (by rw[Cj];omega)).trans FF);have aC:w.heap.size+3≤f.heap.size:=by have:=h.size;rw[Cj] at this;exact this
   have ay:w.heap.size<f.heap.size:=by omega
   have ar:w.heap.size+1<f.heap.size:=by omega
   have aA:w.heap.size+1+1<f.heap.size:=by omega
   have g:=HH (QM.new (n:=1073741824) t j h);clear t j h ab;go_wp2_with fail;obtain⟨W1,H⟩:=ex (f.alloc (T #[Y z q.length c1,Y R l.length c2,I J 1073741824] 107));rw[←H] at g ⊢;clear H K L M N P Q g0 B C D E F;have i:=DY nm k o s d r 1073741824 _ _ q l W1 (aa.o.below g.o.bel) (X.o.below g.o.bel) am.o (by omega) (by omega);rw[K1.o] at i;refine i.mono ?_;clear i;rintro e w2 ⟨rfl,A⟩;have c:=HH (g.o.next A);clear A g;obtain⟨K,L,M,N,P,Q⟩:=Cy c.o.Bj;obtain⟨g0,B,C,D,E,F⟩:=Aj c.o.arg;obtain⟨r0,r1,r2,r3,r4,r5⟩:=Aj c.o.res;obtain⟨o0,o1,o2,o3,o4,o5⟩:=Aj c.o.obj;have av:=Aa c.o.obj;have az:=Aa c.o.Bj;have au:=Aa c.o.arg;have aB:=Aa c.o.res;have M3:=HH (c.o.PV (1073741824));clear c;go_wp2_with fail;refine bK (v:=.tuple #[.agg #[Y z q.length c1,Y R l.length c2,I J (1073741824)],I J (-1),I J 4]) (by simp[cb,results49,go_sem,r0,r1,r2]) rfl ?_;exact⟨_,_,rfl,M3.o.last _ _ _⟩
 ·rw[W];clear W;have K1:=HH V;clear V;have aQ:(x.length==0)=false:=by simp;exact S
  have aR:((x.length:Int)==0)=false:=by simp;exact S
  clear S;have KL:=HH kl;have be:¬(0<l.length):=by rw[kl];simp
  have bf:¬((0:Int)<(l.length:Int)):=by omega
  clear kl;have bd:((q.length:Int)==d)=false:=by simp[kd]
  clear kd;go_enter func49,ntmps49;go_wp2_with fail;rw[←ab.o];refine(Fe _ _ q l n _ (aa.o.below Cd) (X.o.below Cd) (by omega) (by omega) HM.o).mono ?_;rintro e f ⟨aJ,aK,rfl,t,j,h⟩;obtain⟨z,c1,rfl⟩:=t.rd.C2;obtain⟨R,c2,rfl⟩:=Bc j;obtain⟨K,L,M,N,P,Q⟩:=Cy ((h.block _ (by rw[Cj];omega)).trans FG);obtain⟨g0,B,C,D,E,F⟩:=Aj ((h.block _ (by rw[Cj];omega)).trans FF);have aC:w.heap.size+3≤f.heap.size:=by have:=h.size;rw[Cj] at this;exact this
  have ay:w.heap.size<f.heap.size:=by omega
  have ar:w.heap.size+1<f.heap.size:=by omega
  have aA:w.heap.size+1+1<f.heap.size:=by omega
  have g:=HH (QM.new (n:=n) t j h);clear t j h ab;go_wp2_with fail;obtain⟨W1,H⟩:=ex (f.alloc (T #[Y z q.length c1,Y R l.length c2,I J n] 107));rw[←H] at g ⊢;clear H K L M N P Q g0 B C D E F;have i:=DY nm k o s d r n _ _ q l W1 (aa.o.below g.o.bel) (X.o.below g.o.bel) am.o (by omega) (by omega);rw[K1.o] at i;refine i.mono ?_;clear i;rintro e w2 ⟨rfl,A⟩;have c:=HH (g.o.next A);clear A g;obtain⟨K,L,M,N,P,Q⟩:=Cy c.o.Bj;obtain⟨g0,B,C,D,E,F⟩:=Aj c.o.arg;obtain⟨r0,r1,r2,r3,r4,r5⟩:=Aj c.o.res;obtain⟨o0,o1,o2,o3,o4,o5⟩:=Aj c.o.obj;have av:=Aa c.o.obj;have az:=Aa c.o.Bj;have au:=Aa c.o.arg;have aB:=Aa c.o.res;have bp:=HH (bo.o.below c.o.bel);go_upto_region 12 with (fail)
  go_region_law (first
   |(refine YX rfl (.tmp 59) (.tmp 62) 35 rfl _ _ (by simp[Act.eval]) (by simp[Act.eval]) bn.o ?_)
   |(go_simp;go_at_call 27;(refine(Gj _ x _ (by exact bp.o) (by omega)).mono ?_;rintro e w3 ⟨v3,rfl,aN,ak⟩;replace ak:Bl w2 w3:=(by first|exact ak|exact EM ak);replace aN:C5 w3 w2.heap.size v3 x:=aN;obtain⟨a3,c3,rfl⟩:=Bq aN;obtain⟨v4,w4,ba,⟨a4,m4,c4,rfl⟩,aV,aW,bi⟩:=(c.o.next ak).append KL.o (aN.mono (by have:=c.o.ge;omega)) (by omega);have bn:=HH ba;have M4:=HH bi;obtain⟨s0,s1,s2,s3,s4,s5⟩:=Aj aV;obtain⟨t0,t1,t2,t3,t4,t5⟩:=Aj aW;obtain⟨u0,u1,u2,u3,u4,u5⟩:=Aj (c.o.next ak).obj;have bY:=Aa (c.o.next ak).obj;have bW:=Aa aV;have bX:=Aa aW;clear aN ak aV aW bi ba)))
  all_goals
   go_wp2_with fail;refine bK (v:=.tuple #[.agg #[Y a4 m4 c4,Y R l.length c2,I J n],I J (-1),I J 0]) (by simp[cb,results49,go_sem,t0,t1,t2]) rfl ?_;exact⟨_,_,rfl,M4.o.last _ _ _⟩
structure V3(w W:br)(nm:ByteArray)(k:Int)(o:Bool)(s d r:Int)(vq0 vw0:bq)(n0:Int):Prop where
 Bj:W.heap[w.heap.size]? =Z (T #[.string nm,I U k,.bool o,I J s,I J d,I J r] 62 (0,0))
 arg:W.heap[w.heap.size+1]? =Z (T #[vq0,vw0,I J n0] 107 (0,0))
 res:W.heap[w.heap.size+1+1]? =Z (T #[Y O 0 0,Y O 0 0,I J 0] 107 (0,0))
 bel:Bl w W
section
variable {w W W':br} {nm:ByteArray} {k:Int} {o:Bool} {s d r:Int} {vq0 vw0:bq} {n0:Int} {B:Nat} {vq vw:bq} {q:List (List Int)} {l:List Wt}
def V3.next(h:V3 w W nm k o s d r vq0 vw0 n0)(a:Bl W W'):V3 w W' nm k o s d r vq0 vw0 n0:=
 ⟨(a.block _ (Aa h.Bj)).trans h.Bj,(a.block _ (Aa h.arg)).trans h.arg,(a.block _ (Aa h.res)).trans h.res,h.bel.trans (a.mono h.bel.size)⟩
def V3.first(a:df (W3 w nm k o s d r vq0 vw0 n0).heap.size (W3 w nm k o s d r vq0 vw0 n0) W):V3 w W nm k o s d r vq0 vw0 n0:=
 (V3.mk FG FF QP Cd).next a
def JX(e:A6 W B vq q)(c:Aq W B vw l)(a:w.heap.size+1+1<B)(b:Bl w W)(x y z:bq):A6 (DK w W x y z) w.heap.size vq q∧Aq (DK w W x y z) w.heap.size vw l∧Bl w (DK w W x y z):=
 ⟨(((e.low a).low a).low a).mono (by omega),(((c.low a).low a).low a).mono (by omega),LY b x y z⟩
def Uw{v:bq}{m:List Int}(h:Af U W B v m)(a:w.heap.size+1+1<B)(x y z:bq):Af U (DK w W x y z) w.heap.size v m:=(((h.low a).low a).low a).mono (by omega)
def A6.empty{a:Nat}(h:A6 W B vq q)(j:q=[]):A6 W' a vq q:=by
 subst j;obtain⟨vs,⟨b,cap,m,e,f,g,_⟩,_⟩:=h;exact⟨vs,⟨b,cap,m,e,f,g,fun c=>absurd c (by simp)⟩,fun i u x p n=>by simp at n⟩
end
def Yu(nm:ByteArray)(k:Int)(o:Bool)(s d r n:Int)(p u:Int)(vq vw:bq)(q:List (List Int))(l:List Wt)(w:br)(hq:A6 w 0 vq q)(hw:Al w 0 vw l)(bb:Ck l)(hl:l.length≤90000)(bt:q.length≤90000)(hm:∀ x∈q,x.length≤1000000):
  b9 prog 115 #[.agg #[.string nm,I U k,.bool o,I J s,I J d,I J r],.agg #[vq,vw,I J n],I J p,I J u] w (NN w (recvQ k s d r q l n p u).1 (recvQ k s d r q l n p u).2.1 n (recvQ k s d r q l n p u).2.2.1 (.bool (recvQ k s d r q l n p u).2.2.2.1) (I J (recvQ k s d r q l n p u).2.2.2.2)):=by
 obtain⟨aq,cq,rfl⟩:=hq.C2;obtain⟨aw,cw,rfl,bj,bk,bl⟩:=hw.open_;clear bj bk bl;obtain⟨ah,X,ay,HM⟩:=H4 hq hw bb hm;have a6:W3 w nm k o s d r (Y aq q.length cq) (Y aw l.length cw) n=((w.alloc (T #[.string nm,I U k,.bool o,I J s,I J d,I J r] 62)).alloc (T #[Y aq q.length cq,Y aw l.length cw,I J n] 107)).alloc (T #[Y O 0 0,Y O 0 0,I J 0] 107):=rfl;have ai:=HH a6;clear hq hw bb hm a6;have bn:(BP k s d r q l n=false∧recvQ k s d r q l n p u=(q,l,[],false,2))∨(BP k s d r q l n=true∧p<0∧recvQ k s d r q l n p u=(q,l,[],false,2))∨(BP k s d r q l n=true∧0≤p∧l.any (fun x=>decide (x.proc=p))=true∧recvQ k s d r q l n p u=(q,l,[],false,2))∨
   (BP k s d r q l n=true∧0≤p∧l.any (fun x=>decide (x.proc=p))=false∧q=[]∧recvQ k s d r q l n p u=(q,Cl l ⟨p,u,0⟩,[],false,0))∨(BP k s d r q l n=true∧0≤p∧l.any (fun x=>decide (x.proc=p))=false∧∃ x t,q=x::t∧recvQ k s d r q l n p u=(t,l,x,true,0)):=by
  unfold recvQ Cw;cases BP k s d r q l n
  ·simp
  ·by_cases hp:0≤p
   ·cases ha:l.any (fun x=>decide (x.proc=p))
    ·cases q with
     |nil=>exact .inr (.inr (.inr (.inl ⟨rfl,hp,rfl,rfl,by simp[hp]⟩)))
     |cons x t=>exact .inr (.inr (.inr (.inr ⟨rfl,hp,rfl,x,t,rfl,by simp[hp]⟩)))
    ·exact .inr (.inr (.inl ⟨rfl,hp,rfl,by simp⟩))
   ·exact .inr (.inl ⟨rfl,by omega,by simp[hp]⟩)
 rcases bn with ⟨V,W⟩|⟨V,kp,W⟩|⟨V,kp,ka,W⟩|⟨V,kp,ka,kq,W⟩|⟨V,kp,ka,x,t,kq,W⟩
 ·rw[W];clear W;have K1:=HH V;clear V;go_enter func115,ntmps115;go_wp2_with fail;rw[←ai.o];have f:=DY nm k o s d r n _ _ q l (W3 w nm k o s d r (Y aq q.length cq) (Y aw l.length cw) n) (ah.o.below Cd) (X.o.below Cd) ay.o (by omega) (by omega);rw[K1.o] at f;refine f.mono ?_;clear f ai;rintro e w1 ⟨rfl,S⟩;have b:=HH (V3.first S);clear S;obtain⟨K,L,M,N,P,Q⟩:=Cy b.o.Bj;obtain⟨g0,A,C,D,E,F⟩:=Aj b.o.arg;obtain⟨i,j,r2,r3,r4,r5⟩:=Aj b.o.res;have am:=Aa b.o.Bj;have al:=Aa b.o.arg;have H:=Aa b.o.res;go_wp2_with fail;refine(Fe _ _ q l n w1 (ah.o.below b.o.bel) (X.o.below b.o.bel) (by omega) (by omega) HM.o).mono ?_;rintro e w7 ⟨bd,be,rfl,af,ae,b7⟩;obtain⟨R,c1,rfl⟩:=af.rd.C2;obtain⟨a2,c2,rfl⟩:=Bc ae;have X7:=HH (b.o.next b7);have F7:=HH (fun x y z=>JX (w:=w) af.rd ae H X7.o.bel x y z);clear af ae b7 K L M N P Q g0 A C D E F i j r2 r3 r4 r5;obtain⟨i,j,r2,r3,r4,r5⟩:=Aj X7.o.res;have ba:=Aa X7.o.res;go_wp2_with fail;refine bK (v:=.tuple #[.agg #[Y R q.length c1,Y a2 l.length c2,I J n],Y O 0 0,.bool false,I J 2]) (by simp[cb,results115,go_sem,i,j,r2]) rfl ?_;exact⟨_,_,_,rfl,(F7.o _ _ _).1,(F7.o _ _ _).2.1,Af.nil _ _ _,(F7.o _ _ _).2.2⟩
 ·rw[W];clear W;have K1:=HH V;clear V;go_enter func115,ntmps115;go_wp2_with fail;rw[←ai.o];have f:=DY nm k o s d r n _ _ q l (W3 w nm k o s d r (Y aq q.length cq) (Y aw l.length cw) n) (ah.o.below Cd) (X.o.below Cd) ay.o (by omega) (by omega);rw[K1.o] at f;refine f.mono ?_;clear f ai;rintro e w1 ⟨rfl,S⟩;have b:=HH (V3.first S);clear S;obtain⟨K,L,M,N,P,Q⟩:=Cy b.o.Bj;obtain⟨g0,A,C,D,E,F⟩:=Aj b.o.arg;obtain⟨i,j,r2,r3,r4,r5⟩:=Aj b.o.res;have am:=Aa b.o.Bj;have al:=Aa b.o.arg;have H:=Aa b.o.res;go_wp2_with fail;refine(Fe _ _ q l n w1 (ah.o.below b.o.bel) (X.o.below b.o.bel) (by omega) (by omega) HM.o).mono ?_;rintro e w7 ⟨bd,be,rfl,af,ae,b7⟩;obtain⟨R,c1,rfl⟩:=af.rd.C2;obtain⟨a2,c2,rfl⟩:=Bc ae;have X7:=HH (b.o.next b7);have F7:=HH (fun x y z=>JX (w:=w) af.rd ae H X7.o.bel x y z);clear af ae b7 K L M N P Q g0 A C D E F i j r2 r3 r4 r5;obtain⟨i,j,r2,r3,r4,r5⟩:=Aj X7.o.res;have ba:=Aa X7.o.res;go_wp2_with fail;refine bK (v:=.tuple #[.agg #[Y R q.length c1,Y a2 l.length c2,I J n],Y O 0 0,.bool false,I J 2]) (by simp[cb,results115,go_sem,i,j,r2]) rfl ?_;exact⟨_,_,_,rfl,(F7.o _ _ _).1,(F7.o _ _ _).2.1,Af.nil _ _ _,(F7.o _ _ _).2.2⟩
 ·rw[W];clear W;have K1:=HH V;clear V;have KA:=HH ka;clear ka;have a8:¬(p<0):=by omega
  clear kp;go_enter func115,ntmps115;go_wp2_with fail;rw[←ai.o];have f:=DY nm k o s d r n _ _ q l (W3 w nm k o s d r (Y aq q.length cq) (Y aw l.length cw) n) (ah.o.below Cd) (X.o.below Cd) ay.o (by omega) (by omega);rw[K1.o] at f;refine f.mono ?_;clear f ai;rintro e w1 ⟨rfl,S⟩;have b:=HH (V3.first S);clear S;obtain⟨K,L,M,N,P,Q⟩:=Cy b.o.Bj;obtain⟨g0,A,C,D,E,F⟩:=Aj b.o.arg;obtain⟨i,j,r2,r3,r4,r5⟩:=Aj b.o.res;have am:=Aa b.o.Bj;have al:=Aa b.o.arg;have H:=Aa b.o.res;go_wp2_with fail;have f:=N2 aq q.length cq _ l n p w1 (X.o.below b.o.bel) (by omega);rw[KA.o] at f;refine f.mono ?_;clear f;rintro e w2 ⟨rfl,b2⟩;have h:=HH (b.o.next b2);clear b2 b K L M N P Q g0 A C D E F i j r2 r3 r4 r5 am al H;obtain⟨K,L,M,N,P,Q⟩:=Cy h.o.Bj;obtain⟨g0,A,C,D,E,F⟩:=Aj h.o.arg;obtain⟨i,j,r2,r3,r4,r5⟩:=Aj h.o.res;have am:=Aa h.o.Bj;have al:=Aa h.o.arg;have H:=Aa h.o.res;go_wp2_with fail;refine(Fe _ _ q l n w2 (ah.o.below h.o.bel) (X.o.below h.o.bel) (by omega) (by omega) HM.o).mono ?_;rintro e w7 ⟨bd,be,rfl,af,ae,b7⟩;obtain⟨R,c1,rfl⟩:=af.rd.C2;obtain⟨a2,c2,rfl⟩:=Bc ae;have X7:=HH (h.o.next b7);have F7:=HH (fun x y z=>JX (w:=w) af.rd ae H X7.o.bel x y z);clear af ae b7 K L M N P Q g0 A C D E F i j r2 r3 r4 r5;obtain⟨i,j,r2,r3,r4,r5⟩:=Aj X7.o.res;have ba:=Aa X7.o.res;go_wp2_with fail;refine bK (v:=.tuple #[.agg #[Y R q.length c1,Y a2 l.length c2,I J n],Y O 0 0,.bool false,I J 2]) (by simp[cb,results115,go_sem,i,j,r2]) rfl ?_;exact⟨_,_,_,rfl,(F7.o _ _ _).1,(F7.o _ _ _).2.1,Af.nil _ _ _,(F7.o _ _ _).2.2⟩
 ·rw[W];clear W;have K1:=HH V;clear V;have KA:=HH ka;clear ka;have a8:¬(p<0):=by omega
  clear kp;have KT:Hq (Fh k s d r q l n=(q,[],6)):=by show _=_;rw[kq] at K1;simp[Fh,K1.o,kq]
  have KQ:=HH kq;clear kq;go_enter func115,ntmps115;go_wp2_with fail;rw[←ai.o];have f:=DY nm k o s d r n _ _ q l (W3 w nm k o s d r (Y aq q.length cq) (Y aw l.length cw) n) (ah.o.below Cd) (X.o.below Cd) ay.o (by omega) (by omega);rw[K1.o] at f;refine f.mono ?_;clear f ai;rintro e w1 ⟨rfl,S⟩;have b:=HH (V3.first S);clear S;obtain⟨K,L,M,N,P,Q⟩:=Cy b.o.Bj;obtain⟨g0,A,C,D,E,F⟩:=Aj b.o.arg;obtain⟨i,j,r2,r3,r4,r5⟩:=Aj b.o.res;have am:=Aa b.o.Bj;have al:=Aa b.o.arg;have H:=Aa b.o.res;go_wp2_with fail;have f:=N2 aq q.length cq _ l n p w1 (X.o.below b.o.bel) (by omega);rw[KA.o] at f;refine f.mono ?_;clear f;rintro e w2 ⟨rfl,b2⟩;have h:=HH (b.o.next b2);clear b2 b K L M N P Q g0 A C D E F i j r2 r3 r4 r5 am al H;obtain⟨K,L,M,N,P,Q⟩:=Cy h.o.Bj;obtain⟨g0,A,C,D,E,F⟩:=Aj h.o.arg;obtain⟨i,j,r2,r3,r4,r5⟩:=Aj h.o.res;have am:=Aa h.o.Bj;have al:=Aa h.o.arg;have H:=Aa h.o.res;go_wp2_with fail;have f:=QD nm k o s d r n _ _ q l w2 (ah.o.below h.o.bel) (X.o.below h.o.bel) ay.o (by omega) (by omega) HM.o;rw[show Fh k s d r q l n=(q,[],6) from KT.o] at f;refine f.mono ?_;clear f;rintro e w3 ⟨bo,bp,aX,rfl,aE,aD,aF,b3⟩;obtain⟨R,m1,c1,rfl,aT⟩:=aE.shape;obtain⟨a2,c2,rfl⟩:=Bc aD;obtain⟨a3,m3,c3,rfl⟩:∃ a m c,aX=Y a m c:=by obtain⟨a,c,f,_⟩:=aF.open_;exact⟨a,_,c,f⟩
  clear aT;have X3:=HH (h.o.next b3);have bm:w2.heap.size≤w3.heap.size:=b3.size;obtain⟨RQ,FR,RX⟩:=H3 aE aD aF;clear b3 h aE aD aF K L M N P Q g0 A C D E F i j r2 r3 r4 r5;obtain⟨i,j,r2,r3,r4,r5⟩:=Aj X3.o.res;have a9:=Aa X3.o.res;go_wp2_with fail;refine(JV _ l ⟨p,u,0⟩ _ (FR.o.alloc _).rd (by omega)).mono ?_;rintro e w5 ⟨v5,rfl,aU,aM⟩;obtain⟨a5,c5,rfl⟩:=Bq aU;have X5:=HH ((X3.o.next ((bJ _ _).alloc (bH _) (T #[Y R m1 c1,Y a2 l.length c2,I J n] 107))).next aM);have aS:w5.heap[w3.heap.size]? =Z (T #[Y R m1 c1,Y a2 l.length c2,I J n] 107 (0,0)):=(aM.block _ (by simp)).trans (bL w3 _);have bw:w3.heap.size+1≤w5.heap.size:=by have:=aM.size;simpa using this
  have F5:Hq (Aq w5 (w3.heap.size+1) (Y a5 (Cl l ⟨p,u,0⟩).length c5) (Cl l ⟨p,u,0⟩)):=by show Aq _ _ _ _;have:=Aq.Bw aU;simpa using this
  obtain⟨o0,o1,o2,o3,o4,o5⟩:=Aj aS;have bs:=Aa aS;clear aU aM i j r2 r3 r4 r5 aS;obtain⟨i,j,r2,r3,r4,r5⟩:=Aj X5.o.res;have bu:=Aa X5.o.res;generalize (Cl l ⟨p,u,0⟩).length=m5 at F5 ⊢;go_wp2_with fail;refine bK (v:=.tuple #[.agg #[Y R m1 c1,Y a5 m5 c5,I J n],Y O 0 0,.bool false,I J 0]) (by simp[cb,results115,go_sem,i,j,r2]) rfl ?_;have hB:=X5.o.bel.setCell (p:=⟨w3.heap.size,1,O⟩) (by show w.heap.size≤w3.heap.size;omega) (Y a5 m5 c5);have hF:=JX (w:=w) (B:=w3.heap.size+1) (A6.empty RQ.o KQ.o) (F5.o.low (g:=w3.heap.size) (o:=1) (u:=Y a5 m5 c5) (by omega)) (by omega) hB (Y R m1 c1) (Y a5 m5 c5) (I J n);exact⟨_,_,_,rfl,hF.1,hF.2.1,Af.nil _ _ _,hF.2.2⟩
 ·rw[W];clear W;have K1:=HH V;clear V;have KA:=HH ka;clear ka;have a8:¬(p<0):=by omega
  clear kp;have KT:Hq (Fh k s d r q l n=(t,x,0)):=by show _=_;rw[kq] at K1;simp[Fh,K1.o,kq]
  clear kq;go_enter func115,ntmps115;go_wp2_with fail;rw[←ai.o];have f:=DY nm k o s d r n _ _ q l (W3 w nm k o s d r (Y aq q.length cq) (Y aw l.length cw) n) (ah.o.below Cd) (X.o.below Cd) ay.o (by omega) (by omega);rw[K1.o] at f;refine f.mono ?_;clear f ai;rintro e w1 ⟨rfl,S⟩;have b:=HH (V3.first S);clear S;obtain⟨K,L,M,N,P,Q⟩:=Cy b.o.Bj;obtain⟨g0,A,C,D,E,F⟩:=Aj b.o.arg;obtain⟨i,j,r2,r3,r4,r5⟩:=Aj b.o.res;have am:=Aa b.o.Bj;have al:=Aa b.o.arg;have H:=Aa b.o.res;go_wp2_with fail;have f:=N2 aq q.length cq _ l n p w1 (X.o.below b.o.bel) (by omega);rw[KA.o] at f;refine f.mono ?_;clear f;rintro e w2 ⟨rfl,b2⟩;have h:=HH (b.o.next b2);clear b2 b K L M N P Q g0 A C D E F i j r2 r3 r4 r5 am al H;obtain⟨K,L,M,N,P,Q⟩:=Cy h.o.Bj;obtain⟨g0,A,C,D,E,F⟩:=Aj h.o.arg;obtain⟨i,j,r2,r3,r4,r5⟩:=Aj h.o.res;have am:=Aa h.o.Bj;have al:=Aa h.o.arg;have H:=Aa h.o.res;go_wp2_with fail;have f:=QD nm k o s d r n _ _ q l w2 (ah.o.below h.o.bel) (X.o.below h.o.bel) ay.o (by omega) (by omega) HM.o;rw[show Fh k s d r q l n=(t,x,0) from KT.o] at f;refine f.mono ?_;clear f;rintro e w3 ⟨bo,bp,aX,rfl,aE,aD,aF,b3⟩;obtain⟨R,m1,c1,rfl,aT⟩:=aE.shape;obtain⟨a2,c2,rfl⟩:=Bc aD;obtain⟨a3,m3,c3,rfl⟩:∃ a m c,aX=Y a m c:=by obtain⟨a,c,f,_⟩:=aF.open_;exact⟨a,_,c,f⟩
  clear aT;have X3:=HH (h.o.next b3);have bm:w2.heap.size≤w3.heap.size:=b3.size;obtain⟨RQ,FR,RX⟩:=H3 aE aD aF;clear b3 h aE aD aF K L M N P Q g0 A C D E F i j r2 r3 r4 r5;obtain⟨i,j,r2,r3,r4,r5⟩:=Aj X3.o.res;have a9:=Aa X3.o.res;go_wp2_with fail;refine bK (v:=.tuple #[.agg #[Y R m1 c1,Y a2 l.length c2,I J n],Y a3 m3 c3,.bool true,I J 0]) (by simp[cb,results115,go_sem,i,j,r2,a9]) rfl ?_;have hF:=JX (w:=w) RQ.o FR.o H X3.o.bel (Y R m1 c1) (Y a2 l.length c2) (I J n);have hI:=Uw (w:=w) RX.o H (Y R m1 c1) (Y a2 l.length c2) (I J n);exact⟨_,_,_,rfl,hF.1.alloc _,hF.2.1.alloc _,hI.alloc _,hF.2.2.alloc hF.2.2.size _⟩
structure LQ(W:br)(g:Nat)(vq vw:bq)(n:Int)(q:List (List Int))(l:List Wt):Prop where
 blk:W.heap[g]? =Z (T #[vq,vw,I J n] 107 (0,0))
 rq:A6 W 0 vq q
 fr:Aq W 0 vw l
section
variable {W W':br} {g B:Nat} {vq vw vq' vw':bq} {n n':Int} {q q':List (List Int)} {l l':List Wt}
def LQ.next(h:LQ W g vq vw n q l)(a:Bl W W'):LQ W' g vq vw n q l:=⟨(a.block _ (Aa h.blk)).trans h.blk,h.rq.below a,h.fr.below a⟩
def LQ.alloc(h:LQ W g vq vw n q l)(o:Obj):LQ (W.alloc o) g vq vw n q l:=h.next ((bJ _ _).alloc (bH _) _)
def LQ.new(b:A6 W B vq q)(a:Aq W B vw l):LQ (W.alloc (T #[vq,vw,I J n] 107)) W.heap.size vq vw n q l:=
 ⟨bL W _,(b.mono (ch _)).alloc _,(a.mono (ch _)).alloc _⟩
def Ll(W:br)(g:Nat)(x y z:bq):br:=((W.setCell ⟨g,0,O⟩ x).setCell ⟨g,1,O⟩ y).setCell ⟨g,2,O⟩ z
def PT{a b c x y z:bq}{t:ci}(h:W.heap[g]? =Z (T #[a,b,c] t (0,0))):(Ll W g x y z).heap[g]? =Z (T #[x,y,z] t (0,0)):=
 (set3 (set3 (set3 h x).1 y).2.1 z).2.2
def LQ.put(h:LQ W g vq vw n q l)(c:A6 W B vq' q')(b:Aq W B vw' l')(a:g<B)(n':Int):LQ (Ll W g vq' vw' (I J n')) g vq' vw' n' q' l':=
 ⟨PT h.blk,(((c.low a).low a).low a).mono (ch _),(((b.low a).low a).low a).mono (ch _)⟩
def LQ.cells(h:LQ W g vq vw n q l):W.cell? ⟨g,0,O⟩=Z vq∧W.cell? ⟨g,1,O⟩=Z vw∧W.cell? ⟨g,2,O⟩=Z (I J n)∧W.frozen? ⟨g,0,O⟩=false∧W.frozen? ⟨g,1,O⟩=false∧W.frozen? ⟨g,2,O⟩=false:=Aj h.blk
end
def Ds(w:br)(B:Nat)(v:bq)(a:List (List Wt)):Prop:=
 ∃ vs:List bq,Sl w B 1 v a.length vs∧∀ (i:Nat) u x,vs[i]? =Z u→a[i]? =Z x→Al w B u x
section
variable {w w':br} {B B':Nat} {v:bq} {ls:List (List Wt)}
def Ds.below(h:Ds w B v ls)(a:Bl w w'):Ds w' B v ls:=by
 obtain⟨vs,b,c⟩:=h;exact⟨vs,b.below a,fun i u x d e=>(c i u x d e).below a⟩
def Ds.shape(h:Ds w B v ls):∃ a c,v=Y a ls.length c:=by
 obtain⟨vs,⟨a,c,b,_⟩,_⟩:=h;exact⟨a,c,b⟩
def Ds.one{t:ci}{u:bq}{x:List Wt}{g:Nat}(c:w.heap.size=g)(h:Al w 0 u x):Ds (w.alloc (T #[u] t)) 0 (Y (Z ⟨g,0,O⟩) 1 1) [x]:=by
 subst c;refine⟨[u],⟨_,_,rfl,bH _,by simp,rfl,fun _=>⟨w.heap.size,0,rfl,ch _,by simp,fun j y e=>?_⟩⟩,fun i y z a b=>?_⟩
 ·have d:=bL w (T #[u] t);simp only[cp,d];simpa using e
 ·cases i with
  |zero=>simp at a b;subst a;subst b;exact h.alloc _
  |succ i=>simp at a
def Ds.two{t:ci}{u c:bq}{x d:List Wt}{g:Nat}(f:w.heap.size=g)(h:Al w 0 u x)(e:Al w 0 c d):Ds (w.alloc (T #[u,c] t)) 0 (Y (Z ⟨g,0,O⟩) 2 2) [x,d]:=by
 subst f;refine⟨[u,c],⟨_,_,rfl,bH _,by simp,rfl,fun _=>⟨w.heap.size,0,rfl,ch _,by simp,fun j y l=>?_⟩⟩,fun i y z a b=>?_⟩
 ·have k:=bL w (T #[u,c] t);simp only[cp,k];simpa using l
 ·match i,a,b with
  |0,a,b=>simp at a b;subst a;subst b;exact h.alloc _
  |1,a,b=>simp at a b;subst a;subst b;exact e.alloc _
  |i+2,a,b=>simp at a
end
def ND(g:Nat)(a:Array bq)(p:List Wt→Bool)(w:br)(Q:List Wt→Prop):Prop:=
 ∀ (W:br) (u:bq) (x:List Wt),Bl w W→Al W 0 u x→Q x→b9 prog g (#[u]++a) W fun e w'=>e=.returned (.bool (p x))∧Bl w w'
def UT(v:bq)(l:List (List Wt))(g:Nat)(F:Array bq)(p:List Wt→Bool)(eg:∀ args w,(cR g args).run prog w=.ok (.enter g args) w)(w:br)(h:Ds w 0 v l)(hl:l.length≤1000000)(Q:List Wt→Prop)(u:∀ x∈l,Q x)(B:ND g F p w Q):
  b9 prog 213 #[v,.func (.func g) #[] F] w fun e w'=>e=.returned (I J (DL p l))∧Bl w w':=by
 obtain⟨vs,⟨ao,q,rfl,af,aj,E,H⟩,y⟩:=h;obtain⟨L,N,M,K,P⟩:=H5 B u H y E;clear B H y E u;go_enter func213,ntmps213;go_wp2
 go_loopg [5,8] l.length (fun S _ s8 wr=>∃ k:Nat,k≤l.length∧l.length-k≤S∧s8=I J k∧Hq (Bl w wr)∧Hq (∀ j (d:j<k) (z:j<l.length),p l[j]=false))
 case atStart=>exact⟨0,ch _,by omega,rfl,bJ _ w,fun j d=>absurd d (dN _)⟩
 case round=>
  obtain⟨k,hk,hg,rfl,f,A⟩:=hrel;by_cases s:k<l.length
  ·have X:(k:Int)<(l.length:Int):=by omega
   obtain⟨b,al,rfl,_,V,q⟩:=M.o (by omega);have W:k<vs.length:=by have:=P.o;omega
   have t:vs[k]? =Z vs[k]:=cf W;have C:l[k]? =Z l[k]:=cf s;have n:=q k _ t;have R:=(K.o k _ _ t C).below f.o;rw[←f.o.cell (p:=⟨b,_,O⟩) V] at n;obtain⟨au,mu,D,_,_,_⟩:=R.open_;rw[D] at n R;have a:=L.o wr _ l[k] f.o R (N.o _ (di s));generalize aa:l[k].length=nq at n a;clear aa;clear q t C D R;cases c:p l[k] with
   |true=>
    rw[c] at a;obtain⟨i,m⟩:=H2 a c;clear a c;go_wp2_with (refine i.o.mono ?_;rintro e w' ⟨rfl,r⟩);go_ret;exact⟨EH (JY p l k s m.o A.o).symm,r⟩
   |false=>
    rw[c] at a;obtain⟨i,m⟩:=H2 a c;clear a c;go_wp2_with (refine i.o.mono ?_;rintro e w' ⟨rfl,r⟩)
    go_roundg (l.length-(k+1))
    case measure=>omega
    case rel=>
     refine⟨k+1,by omega,by omega,by go_num,r,fun j d z=>?_⟩;by_cases e:j=k
     ·subst e;exact m.o
     ·exact A.o j (by omega) z
  ·have X:¬(k:Int)<(l.length:Int):=by omega
   go_wp2;go_ret;exact⟨EH (JZ p l (fun j d=>A.o j (by omega) d)).symm,f.o⟩
def Sr(v:bq)(l:List (List Wt))(g:Nat)(a:Array bq)(p:List Wt→Bool)(c:∀ args w,(cR g args).run prog w=.ok (.enter g args) w)(w:br)(h:Ds w 0 v l)(j:l.length≤1000000)(Q:List Wt→Prop)(d:∀ x∈l,Q x)(f:ND g a p w Q):
  b9 prog 202 #[v,.func (.func g) #[] a] w fun e w'=>e=.returned (.bool (l.any p))∧Bl w w':=by
 have b:=HH (UT v l g a p c w h j Q d f);rw[←KI];generalize DL p l=q at b ⊢;clear h f c d;go_enter func202,ntmps202;go_wp2_with (go_at_call 213;refine b.o.mono ?_;rintro e w' ⟨rfl,i⟩);go_ret;exact⟨rfl,i⟩
def Xb(u:bq)(x:List Wt)(w W:br)(g:Bl w W)(h:Al W 0 u x)(i:Ck x∧x.length≤100000):
  b9 prog 203 #[u] W fun e w'=>e=.returned (.bool (!decide (AY x)))∧Bl w w':=by
 obtain⟨d,b⟩:=H2 (Li u x W h i.1 i.2) g;generalize decide (AY x)=k at d ⊢;obtain⟨a,c,rfl,_⟩:=h.open_;clear g h;go_enter func203,ntmps203;go_wp2_with fail;refine d.o.mono ?_;rintro e l ⟨rfl,f⟩;have j:=HH (b.o.trans (f.mono b.o.size));clear f;go_wp2_with fail;go_ret;exact⟨rfl,j.o⟩
def Pt(v:bq)(b:List (List Wt))(w:br)(h:Ds w 0 v b)(k:b.length≤1000000)(g:∀ x∈b,Ck x∧x.length≤100000):
  b9 prog 188 #[v] w fun e w'=>e=.returned (.bool (!b.any (fun x=>!decide (AY x))))∧Bl w w':=by
 have d:=HH (Sr v b 203 #[] (fun x=>!decide (AY x)) (Gn func203 (by kernel_rfl) rfl) w h k (fun x=>Ck x∧x.length≤100000) g (fun W u x j l m=>Xb u x w W j l m));generalize b.any (fun x=>!decide (AY x))=n at d ⊢;obtain⟨a,c,rfl⟩:=h.shape;clear h g;go_enter func188,ntmps188;go_wp2_with fail;refine d.o.mono ?_;rintro e p ⟨rfl,f⟩;have i:=HH f;clear f;go_wp2_with fail;go_ret;exact⟨rfl,i.o⟩
def RE(x:Wt)(w W:br)(b:Bl w W):
  b9 prog 204 #[.agg #[I J x.proc,I J x.prio,I U x.val]] W fun e w'=>e=.returned (.bool (x.val !=0))∧Bl w w':=by
 have a:=HH b;clear b;go_enter func204,ntmps204;go_wp2;go_ret;exact⟨rfl,a.o.alloc a.o.size _⟩
def Oa(v:bq)(l:List Wt)(w:br)(h:Al w 0 v l)(i:l.length≤1000000):
  b9 prog 189 #[v] w fun e w'=>e=.returned (.bool (!l.any (fun x=>x.val !=0)))∧Bl w w':=by
 have b:=HH (JS v l 204 #[] (fun x=>x.val !=0) (Gn func204 (by kernel_rfl) rfl) w h i (fun W x g=>RE x w W g));generalize l.any (fun x=>x.val !=0)=j at b ⊢;obtain⟨a,c,rfl,_⟩:=h.open_;clear h;go_enter func189,ntmps189;go_wp2_with fail;refine b.o.mono ?_;rintro e k ⟨rfl,d⟩;have f:=HH d;clear d;go_wp2_with fail;go_ret;exact⟨rfl,f.o⟩
def UL(n:Nat)(w:br)(v:n≤1000000):
  b9 prog 205 #[Y O 0 0,I J n] w (II w []):=by
 obtain⟨s,f,h,i,j⟩:=cB Ix;by_cases p:n=0
 ·subst p;go_enter func205,ntmps205;go_wp2_with fail;go_ret;exact⟨_,rfl,cn _ _ _ _,bJ _ w⟩
 ·have x:(0:Int)<(n:Int):=by omega
  have r:0<n:=by omega
  have g:∀ a,(cQ #[93,3] a #[Y O 0 0,I J n]).run prog w=_:=fun a=>Lib.run_append_nil_zeros w 93 3 a 161 s (.agg #[I J 0,I J 0,I U 0]) J J underlying93 underlying3 f h n r (by rw[i];decide) (by omega) (by rw[j];omega);have e:=grownCap_ge w n 0 161;have k:Hq (∀ o,Bl w (w.drew.alloc o)):=fun o=>((bJ _ w).drew).alloc (bH _) o;have l:Hq (∀ c,n≤c→c≤cM→(w.drew.alloc (T (cl (cL (.agg #[I J 0,I J 0,I U 0])) n++cl (cL (.agg #[I J 0,I J 0,I U 0])) (c-n)) 161)).ownsRow w.heap.size 161 3 (Y (Z ⟨w.heap.size,0,O⟩) 0 c) 0 []):=fun c t q=>dy w.drew _ c (bH _) q (by rw[Array.size_append,dV,dV];show n*3+(c-n)*3=c*3;omega);have d:=eA w n 0 161 (by unfold cM;omega);have b:=HH d;clear f h i j d;generalize dW w n 0 161=m at g e b;have u:(0:Int)≤(m:Int):=by omega
  go_enter func205,ntmps205;go_wp2_with (at_builtin;refine dr _ rfl _ _ _ _ rfl _ _ rfl rfl _ _ (g _) ?_);go_ret;exact⟨_,rfl,l.o _ e b.o,k.o _⟩
def Cm(a:List (List Wt)):List Wt:=a.flatten
def IW(x:List Wt):Cm [x]=x:=by simp[Cm]
def OF(x y:List Wt):Cm [x,y]=x++y:=by simp[Cm]
def OE(a:List (List Wt))(k:Nat)(b:k<a.length):Cm (a.take (k+1))=Cm (a.take k)++a[k]:=by
 unfold Cm;rw[cd b,ec];simp
def KO(a:List (List Wt))(k:Nat):(Cm (a.take k)).length≤(Cm a).length:=by
 unfold Cm
 conv=>rhs;rw[←dm k a,ec,b0]
 omega
def Sq(v:bq)(d:List (List Wt))(w:br)(h:Ds w 0 v d)(hl:d.length≤1000000)(hf:(Cm d).length≤100000):
  b9 prog 190 #[v] w (II w (Cm d)):=by
 obtain⟨i0,hi,aO,aP,aQ⟩:=cB Ix;obtain⟨vs,⟨ao,ca,rfl,a3,a9,ap,pa⟩,aj⟩:=h;obtain⟨W,S,X⟩:=H3 pa aj ap;have af:Hq (∀ k (L:k<d.length),∃ b r a c,ao=Z ⟨b,r,O⟩∧b<w.heap.size∧w.cell? ⟨b,r+k,O⟩=Z (.slice a d[k].length c)∧Al w 0 (.slice a d[k].length c) d[k]):=fun k L=>by
  obtain⟨b,r,F,_,h2,h3⟩:=W.o (by omega);have aK:k<vs.length:=by have:=X.o;omega
  have x:vs[k]? =Z vs[k]:=cf aK;have m:=S.o k _ _ x (cf L);have h4:=h3 k _ x;obtain⟨a,c,he,_⟩:=m.open_;rw[he] at h4 m;exact⟨b,r,a,c,F,h2,h4,m⟩
 clear pa aj ap W S X;go_enter func190,ntmps190;go_wp2
 go_loopg [3,5,11] d.length (fun D s3 _ aR wr=>∃ k:Nat,k≤d.length∧d.length-k≤D∧aR=I J k∧s3=I J ((Cm (d.take k)).length:Nat)∧wr=w)
 case atStart=>exact⟨0,ch _,by omega,rfl,rfl,rfl⟩
 case round=>
  obtain⟨k,L,hg,rfl,rfl,aq⟩:=hrel;obtain rfl:w=wr:=aq.symm;clear aq;have al:=KO d k;by_cases t:k<d.length
  ·have M:(k:Int)<(d.length:Int):=by omega
   obtain⟨b,r,a,c,rfl,K,B,_⟩:=af.o k t;have f:=HH (congrArg eJ (OE d k t));have am:=KO d (k+1);have Q:(Cm (d.take k)).length+d[k].length≤100000:=by have:=f.o;rw[b0] at this;omega
   generalize hA:(Cm (d.take k)).length=A at al Q f ⊢;generalize hC:d[k].length=C at B Q f;have s:Hq ((((Cm (d.take (k+1))).length:Nat):Int)=(A:Int)+(C:Int)):=by show _=_;have:=f.o;rw[b0] at this;omega
   clear hA hC f am;go_wp2
   go_roundg (d.length-(k+1))
   case measure=>omega
   case rel=>exact⟨k+1,by omega,by omega,by go_num,by rw[s.o],rfl⟩
  ·have M:¬(k:Int)<(d.length:Int):=by omega
   obtain rfl:k=d.length:=by omega
   rw[dI] at al ⊢;go_wp2_with fail;refine(UL _ _ (by omega)).mono ?_;rintro e w1 ⟨v1,rfl,P,b1⟩;obtain⟨V,R⟩:=H2 P b1;obtain⟨a1,c1,rfl⟩:=Bq P;clear P b1;go_wp2_with fail
   go_loopg [6,8,27] d.length (fun D s6 _ aS wr=>∃ k:Nat,k≤d.length∧d.length-k≤D∧aS=I J k∧Hq (wr.ownsRow w.heap.size 161 3 s6 (Cm (d.take k)).length (cellsW (Cm (d.take k)))∧Bl w wr))
   case atStart=>exact⟨0,ch _,by omega,rfl,V.o,R.o⟩
   case round=>
    obtain⟨k,a7,a5,rfl,A⟩:=hrel;clear V R;obtain⟨i,l⟩:=A.o;clear A;have am:=KO d k;obtain⟨a6,c6,aN⟩:=Bq i;subst aN;by_cases t:k<d.length
    ·have M:(k:Int)<(d.length:Int):=by omega
     obtain⟨b,r,a,c,rfl,K,B,m⟩:=af.o k t;rw[←l.cell (p:=⟨b,_,O⟩) K] at B;have a2:b<wr.heap.size:=ce K l.size;have RB:=m.below l;have f:=HH (OE d k t);have Q:(Cm (d.take k)).length+d[k].length≤100000:=by have F:=KO d (k+1);rw[f.o,b0] at F;omega
     have s:Hq (∀ (z:bq) (w':br),w'.ownsRow w.heap.size 161 3 z ((Cm (d.take k)).length+d[k].length) (cellsW (Cm (d.take k))++cellsW d[k])→w'.ownsRow w.heap.size 161 3 z (Cm (d.take (k+1))).length (cellsW (Cm (d.take (k+1))))):=fun z w' h=>by rw[f.o,b0,JQ];exact h
     obtain⟨q,n⟩:=H2 i l;obtain⟨aX,a0,an,_,N,ak,y⟩:=RB;simp only[b5] at an;obtain⟨rfl,_,rfl⟩:=an;cases a with
     |none=>
      have E:d[k].length=0:=by
       apply Classical.byContradiction;intro ba;obtain⟨_,_,H,_⟩:=y (by omega);cases H
      have ae:=N rfl;rw[E,ae] at B;have HZ:Hq (d[k]=[]):=cs E;have aw:Hq (wr.ownsRow w.heap.size 161 3 (Y a6 (Cm (d.take k)).length c6) (Cm (d.take (k+1))).length (cellsW (Cm (d.take (k+1))))):=s.o _ _ (by rw[HZ.o];simpa[JR] using q.o);clear i l E ae y N ak m f s;go_wp2_with (at_builtin;refine wpList_append_own_none rfl _ _ 93 rfl w.heap.size 161 i0 3 underlying93 hi _ _ _ rfl q.o rfl ?_)
      go_roundg (d.length-(k+1))
      case measure=>omega
      case rel=>exact⟨k+1,by omega,by omega,by go_num,aw.o,n.o⟩
     |some ad=>
      have A:Hq (∀ j u,(cellsW d[k])[j]? =Z u→wr.cell? (ad.add j)=Z u):=by
       intro j u x;have aL:=(ck.1 x).1;obtain⟨b2,bb,H,_,_,hc⟩:=y (by rw[DI] at aL;omega);cases H;rw[Cu];exact hc j u x
      have ay:=HH (DI d[k]);clear i l y N ak m f;go_wp2_with (at_builtin;refine cD _ rfl _ _ 93 rfl w.heap.size 161 i0 (.agg #[I J 0,I J 0,I U 0]) 3 24 underlying93 hi aO aP aQ rfl (by decide) _ _ _ rfl q.o ad d[k].length c (cellsW d[k]) rfl ?qc1 ?qc2 ?qc3 ?qc4 ?qc5 ?qc6 ?_)
      case qc1=>exact ay.o
      case qc2=>exact A.o
      case qc3=>exact MN _
      case qc4=>unfold cM;omega
      case qc5=>omega
      case qc6=>exact n.o.size
      intro z w1 i ah aM;obtain⟨HN,av⟩:=H2 (s.o _ _ i) (Below.grown n.o ah n.o.size (fun g hg=>(q.o.lt g hg).1));clear i ah aM;go_wp2_with fail
      go_roundg (d.length-(k+1))
      case measure=>omega
      case rel=>exact⟨k+1,by omega,by omega,by go_num,HN.o,av.o⟩
    ·have M:¬(k:Int)<(d.length:Int):=by omega
     obtain rfl:k=d.length:=by omega
     rw[dI] at i ⊢;obtain⟨q,n⟩:=H2 i l;clear i l;go_wp2_with fail;go_ret;exact⟨_,rfl,q.o,n.o⟩
def RI(x:Wt)(g:Nat)(q:Int)(w W:br)(c:w.cell? ⟨g,0,O⟩=Z (I J q))(d:g<w.heap.size)(a:Bl w W):
  b9 prog 191 #[.agg #[I J x.proc,I J x.prio,I U x.val],G (Z ⟨g,0,O⟩)] W fun e w'=>e=.returned (.bool (decide (x.proc=q)))∧Bl w w':=by
 have f:W.cell? ⟨g,0,O⟩=Z (I J q):=(a.cell (p:=⟨g,0,O⟩) d).trans c;have i:g<W.heap.size:=ce d a.size;have b:=HH a;clear a c;go_enter func191,ntmps191;go_wp2;go_ret;exact⟨A8 (by by_cases h:x.proc=q<;>simp[h]),b.o.alloc b.o.size _⟩
def KB(q:Int)(v:bq)(b:List (List Wt))(w:br)(h:Ds w 0 v b)(K:b.length≤1000000)(H:(Cm b).length≤100000):
  b9 prog 165 #[I J q,v] w fun e w'=>e=.returned (.bool ((Cm b).any fun x=>decide (x.proc=q)))∧Bl w w':=by
 obtain⟨d,f⟩:=ex (w.alloc (T #[I J q] 3));have j:Bl w d:=by subst f;exact(bJ _ w).alloc (bH _) _
 have y:d.heap[w.heap.size]? =Z (T #[I J q] 3 (0,0)):=by subst f;exact bL w _
 have t:=HH (Sq v b d (h.below j) K H);obtain⟨N,n⟩:=ex ((Cm b).any fun x=>decide (x.proc=q));rw[←n];have D:=HH n;clear n;obtain⟨a,c,rfl⟩:=h.shape;obtain⟨p,s,E⟩:=H3 j y f;clear h j y f;go_enter func165,ntmps165;go_wp2_with fail;rw[←E.o];refine t.o.mono ?_;rintro e g ⟨L,rfl,m,i⟩;have k:=(i.block _ (Aa s.o)).trans s.o;have z:g.cell? ⟨w.heap.size,0,O⟩=Z (I J q):=by rw[bI g _ _ _ _ _ k];rfl
 have l:=(JS L (Cm b) 191 #[G (Z ⟨w.heap.size,0,O⟩)] (fun x=>decide (x.proc=q)) (Gn func191 (by kernel_rfl) rfl) g (Al.mono (B:=d.heap.size) (Sl.Bw m) (ch _)) (by omega) (fun W x F=>RI x _ q g W z (Aa k) F));have r:=HH (p.o.trans (i.mono p.o.size));obtain⟨M,c1,rfl⟩:=Bq m;rw[←D.o] at l;have C:=HH l;clear l;clear m i k z t;go_wp2_with fail;refine C.o.mono ?_;rintro e P ⟨rfl,u⟩;have A:=HH (r.o.trans (u.mono r.o.size));clear u;go_wp2_with fail;go_ret;exact⟨rfl,A.o⟩
def Ty(w:br)(B:Nat)(t:ci)(sz:Nat)(v:bq)(n:Nat)(e:List bq):Prop:=
 ∃ (a:Option dj) (cap:Nat),v=Y a n cap∧n≤cap∧e.length=n*sz∧(a=O→cap=0)∧
  (0<cap→∃ (b d:Nat) (c:Array bq),a=Z ⟨b,d,O⟩∧B≤b∧w.heap[b]? =Z (T c t (0,0))∧d+cap*sz≤c.size∧∀ j u,e[j]? =Z u→c[d+j]? =Z u)
section
variable {w w':br} {B B' sz n:Nat} {t:ci} {v:bq} {xs:List bq}
def Ty.Ag(h:Ty w B t sz v n xs)(m:∀ (b:Nat) (a:Array bq),w.heap[b]? =Z (Obj.cells a t (0,0))→w'.heap[b]? =Z (Obj.cells a t (0,0))):Ty w' B t sz v n xs:=by
 obtain⟨c,cap,p,e,f,g,o⟩:=h;refine⟨c,cap,p,e,f,g,fun d=>?_⟩;obtain⟨b,r,a,j,i,k,l,q⟩:=o d;exact⟨b,r,a,j,i,m b a k,l,q⟩
def Ty.below(h:Ty w B t sz v n xs)(b:Bl w w'):Ty w' B t sz v n xs:=h.Ag fun _ _ a=>(b.block _ (Aa a)).trans a
def Ty.alloc(h:Ty w B t sz v n xs)(o:Obj):Ty (w.alloc o) B t sz v n xs:=h.below ((bJ _ _).alloc (bH _) _)
def Ty.drew(h:Ty w B t sz v n xs):Ty w.drew B t sz v n xs:=h
def Ty.set{g o c:Nat}{d:Array bq}{e:Nat×Nat}{u:bq}(h:Ty w B t sz v n xs)(f:w.heap[g]? =Z (T d c e))(i:c≠t):Ty (w.setCell ⟨g,o,O⟩ u) B t sz v n xs:=h.Ag fun b j a=>by
 refine(bR _ _ _ _ ?_).trans a;show b≠g;rintro rfl;rw[f] at a;simp only[bM,cG] at a;exact i a.2.1
def Ty.grown{g c:Nat}{d:Array bq}{f:Nat×Nat}(h:Ty w B t sz v n xs)(k:w.grownBy w' (Z g))(i:w.heap[g]? =Z (T d c f))(j:c≠t):Ty w' B t sz v n xs:=h.Ag fun b l a=>by
 refine(k.block b (Aa a) ?_).trans a;intro e;simp only[bM] at e;subst e;rw[i] at a;simp only[bM,cG] at a;exact j a.2.1
def Ty.mono(h:Ty w B t sz v n xs)(m:B'≤B):Ty w B' t sz v n xs:=by
 obtain⟨a,cap,k,e,f,g,j⟩:=h;refine⟨a,cap,k,e,f,g,fun d=>?_⟩;obtain⟨b,l,c,i,o,r⟩:=j d;exact⟨b,l,c,i,by omega,r⟩
def Ty.sl(h:Ty w B t sz v n xs):Sl w B sz v n xs:=by
 obtain⟨c,cap,m,d,e,f,k⟩:=h;refine⟨c,cap,m,d,f,e,fun r=>?_⟩;obtain⟨b,p,q,i,g,a,s,o⟩:=k (by omega);exact⟨b,p,i,g,Aa a,fun j u l=>(bI w _ _ _ _ _ a).trans (o j u l)⟩
def Ty.Bw(h:w.ownsRow B t sz v n xs):Ty w B t sz v n xs:=by
 rcases h.2 with ⟨rfl,rfl⟩|⟨g,cap,cur,rfl,d,e,f,_,k,i⟩
 ·exact⟨O,0,rfl,bH _,h.1,fun _=>rfl,fun b=>absurd b (by omega)⟩
 ·refine⟨_,cap,rfl,f,h.1,by simp,fun _=>⟨g,0,cur,rfl,d,e,by omega,fun j u a=>?_⟩⟩;have c:cur.toList[j]? =Z u:=by
   rw[←i,dc] at a;split at a
   ·exact a
   ·cases a
  rw[eI,←Array.getElem?_toList];exact c
def Ty.nil(w:br)(B:Nat)(t:ci)(sz:Nat):Ty w B t sz (Y O 0 0) 0 []:=⟨O,0,rfl,bH _,by simp,fun _=>rfl,fun h=>absurd h (by omega)⟩
def Ty.shape(h:Ty w B t sz v n xs):∃ a c,v=Y a n c:=by
 obtain⟨a,c,b,_⟩:=h;exact⟨a,c,b⟩
def Ty.tail{b a c:Nat}(h:Ty w B t sz (Y (Z ⟨b,a,O⟩) n c) n xs)(C:1≤n):Ty w B t sz (Y (if c=1 then Z ⟨b,a,O⟩ else Z ⟨b,a+sz,O⟩) (n-1) (c-1)) (n-1) (xs.drop sz):=by
 obtain⟨r,cap,g,y,k,z,p⟩:=h;simp only[b5] at g;obtain⟨rfl,_,rfl⟩:=g;obtain⟨m,rfl⟩:∃ m,n=m+1:=⟨n-1,by omega⟩;refine⟨_,_,rfl,by omega,?_,(by intro e;split at e<;>cases e),fun x=>?_⟩
 ·rw[ew,k,Nat.add_mul];simp
 obtain⟨s,D,i,d,l,o,A,q⟩:=p (by omega);simp only[bM,de,and_true] at d;obtain⟨rfl,rfl⟩:=d;refine⟨b,a+sz,i,by rw[if_neg (by omega)],l,o,?_,fun j u f=>?_⟩
 ·have:(c-1)*sz+sz=c*sz:=by
   obtain⟨e,rfl⟩:∃ e,c=e+1:=⟨c-1,by omega⟩;simp[Nat.add_mul]
  omega
 ·rw[cT] at f;have:=q _ _ f;rwa [←eF] at this
end
def Tag(W:br)(g:Nat)(t:ci):Prop:=∃ a:Array bq,W.heap[g]? =Z (T a t (0,0))
def Tag.of{W:br}{g:Nat}{t:ci}{a:Array bq}(h:W.heap[g]? =Z (T a t (0,0))):Tag W g t:=⟨a,h⟩
def Tag.set{W:br}{g a o:Nat}{t:ci}{u:bq}(h:Tag W g t):Tag (W.setCell ⟨a,o,O⟩ u) g t:=by
 obtain⟨b,h⟩:=h;by_cases e:g=a
 ·subst e;exact⟨_,b8 W g o _ _ u h⟩
 ·exact⟨b,(bR _ _ _ _ e).trans h⟩
def Ty.Kp{w:br}{B sz n g o:Nat}{t b:ci}{v u:bq}{c:List bq}(h:Ty w B t sz v n c)(a:Tag w g b)(d:b≠t):Ty (w.setCell ⟨g,o,O⟩ u) B t sz v n c:=by
 obtain⟨e,a⟩:=a;exact h.set a d
def Ty.set3{w:br}{B sz n g:Nat}{t f:ci}{v:bq}{i:List bq}(h:Ty w B t sz v n i)(d:Tag w g f)(e:f≠t)(a b c:bq):Ty (((w.setCell ⟨g,0,O⟩ a).setCell ⟨g,1,O⟩ b).setCell ⟨g,2,O⟩ c) B t sz v n i:=
 ((h.Kp d e).Kp d.set e).Kp d.set.set e
def Ax(w:br)(B:Nat)(v:bq)(l:List Wt):Prop:=Ty w B 161 3 v l.length (cellsW l)
def AA(w:br)(B:Nat)(v:bq)(l:List Int):Prop:=Ty w B 5 1 v l.length (l.map (cY U))
section
variable {w w':br} {B B':Nat} {v:bq} {l:List Wt} {d:List Int}
def Ax.fr(h:Ax w B v l):Aq w B v l:=by
 refine⟨Ty.sl h,fun a n c k s j=>?_⟩;obtain⟨m,cap,e,p,q,r,i⟩:=h;subst k;simp only[b5] at e;obtain⟨rfl,rfl,rfl⟩:=e;obtain⟨b,t,o,f,_,g,_⟩:=i (by omega);cases f;simp[b6,g]
def Ax.rd(h:Ax w B v l):Al w 0 v l:=h.fr.rd
def AA.rd(h:AA w B v d):Af U w 0 v d:=Sl.mono (Ty.sl h) (ch _)
def Ax.tail{b a c:Nat}{x:Wt}{m:List Wt}(h:Ax w B (Y (Z ⟨b,a,O⟩) l.length c) l)(e:l=x::m):Ax w B (Y (if c=1 then Z ⟨b,a,O⟩ else Z ⟨b,a+3,O⟩) (l.length-1) (c-1)) m:=by
 subst e;have:=Ty.tail h (by simp);rw[show (cellsW (x::m)).drop 3=cellsW m from rfl] at this;exact this
def AA.tail{b a c:Nat}{x:Int}{m:List Int}(h:AA w B (Y (Z ⟨b,a,O⟩) d.length c) d)(e:d=x::m):AA w B (Y (if c=1 then Z ⟨b,a,O⟩ else Z ⟨b,a+1,O⟩) (d.length-1) (c-1)) m:=by
 subst e;have:=Ty.tail h (by simp);exact this
end
def LC(w:br)(a o:Nat)(c:Array bq)(B:Nat)(l:List Wt)(e:cO)(w':br):Prop:=
 match l with
 | []=>e=.returned (.tuple #[.agg #[I J (-1),I J 0,I U 0],.bool false])∧Bl w w'
 |x::m=>∃ b,e=.returned (.tuple #[.agg #[I J x.proc,I J x.prio,I U x.val],.bool true])∧w'.heap[a]? =Z (T (c.setIfInBounds o b) 261 (0,0))∧Ax w' B b m∧w.grownBy w' (Z a)
def KN(b o:Nat)(d:Array bq)(B:Nat)(v:bq)(w:br)(e:w.heap[b]? =Z (T d 261 (0,0)))(f:d[o]? =Z v)(h:Ax w B v []):
  b9 prog 161 #[G (Z ⟨b,o,O⟩)] w (LC w b o d B []):=by
 obtain⟨a,c,rfl⟩:=Ty.shape h;have g:w.cell? ⟨b,o,O⟩=Z (Y a ([]:List Wt).length c):=(bI w _ _ _ _ _ e).trans f;have i:=Aa e;simp only[ez] at g;clear h f e;go_enter func161,ntmps161;go_wp2_with fail;refine bK (v:=.tuple #[.agg #[I J (-1),I J 0,I U 0],.bool false]) (by simp[cb,results161,go_sem]) rfl ?_;exact⟨rfl,(bJ _ w).alloc (bH _) _⟩
def Ax.head{w:br}{B:Nat}{v:bq}{x:Wt}{m l:List Wt}(h:Ax w B v l)(i:l=x::m):∃ b a c,v=Y (Z ⟨b,a,O⟩) l.length c∧1≤l.length∧l.length≤c∧b<w.heap.size∧w.cell? ⟨b,a,O⟩=Z (I J x.proc)∧w.cell? ⟨b,a+1,O⟩=Z (I J x.prio)∧w.cell? ⟨b,a+2,O⟩=Z (I U x.val)∧∃ e,w.heap[b]? =Z (T e 161 (0,0)):=by
 subst i;obtain⟨n,cap,k,g,o,p,j⟩:=h;obtain⟨b,a,e,rfl,q,d,r,f⟩:=j (by simp at g;omega);refine⟨b,a,cap,k,by simp,g,Aa d,?_,?_,?_,e,d⟩
 ·rw[bI w _ _ _ _ _ d];exact f 0 _ rfl
 ·rw[bI w _ _ _ _ _ d];exact f 1 _ rfl
 ·rw[bI w _ _ _ _ _ d];exact f 2 _ rfl
def Ax.Nu{w:br}{B b d c:Nat}{x:Wt}{m l:List Wt}(h:Ax w B (Y (Z ⟨b,d,O⟩) l.length c) l)(e:l=x::m)(a:c=1):Ax w B (Y (Z ⟨b,d,O⟩) (l.length-1) 0) m:=by
 have:=h.tail e;rw[if_pos a,a] at this;exact this
def Ax.L5{w:br}{B b a c:Nat}{x:Wt}{m l:List Wt}(h:Ax w B (Y (Z ⟨b,a,O⟩) l.length c) l)(e:l=x::m)(d:¬c=1):Ax w B (Y (Z ⟨b,a+3,O⟩) (l.length-1) (c-1)) m:=by
 have:=h.tail e;rw[if_neg d] at this;exact this
def AA.Nu{w:br}{B b d c:Nat}{x:Int}{m l:List Int}(h:AA w B (Y (Z ⟨b,d,O⟩) l.length c) l)(e:l=x::m)(a:c=1):AA w B (Y (Z ⟨b,d,O⟩) (l.length-1) 0) m:=by
 have:=h.tail e;rw[if_pos a,a] at this;exact this
def AA.L5{w:br}{B b a c:Nat}{x:Int}{m l:List Int}(h:AA w B (Y (Z ⟨b,a,O⟩) l.length c) l)(e:l=x::m)(d:¬c=1):AA w B (Y (Z ⟨b,a+1,O⟩) (l.length-1) (c-1)) m:=by
 have:=h.tail e;rw[if_neg d] at this;exact this
def OQ(w:br)(o:Obj):(w.alloc o).heap.size=w.heap.size+1:=by simp
def OA{w:br}{a o B:Nat}{c:Array bq}{x:Wt}{m:List Wt}{b:bq}(X i:Obj)(f:w.heap[a]? =Z (T c 261 (0,0)))(n:Ax w B b m):
  LC w a o c B (x::m) (.returned (.tuple #[.agg #[I J x.proc,I J x.prio,I U x.val],.bool true])) (((w.setCell ⟨a,o,O⟩ b).alloc X).alloc i):=by
 have d:=b8 w a o _ _ b f;have h:=Aa d;refine⟨b,rfl,?_,?_,?_⟩
 ·exact(b4 _ _ _ (by rw[OQ];exact eu h)).trans ((b4 _ _ _ h).trans d)
 ·exact Ty.alloc (Ty.alloc (Ty.set n f (by decide)) _) _
 ·refine⟨rfl,rfl,rfl,by simp[cm];omega,fun k j l=>?_⟩;have g:k<(w.setCell ⟨a,o,O⟩ b).heap.size:=by simpa[cm] using j
  exact(b4 _ _ _ (by rw[OQ];exact eu g)).trans ((b4 _ _ _ g).trans (bR _ _ _ _ (fun e=>l (by rw[e]))))
def Mj(a o:Nat)(f:Array bq)(B:Nat)(v:bq)(x:Wt)(m:List Wt)(w:br)(d:w.heap[a]? =Z (T f 261 (0,0)))(k:f[o]? =Z v)(h:Ax w B v (x::m)):
  b9 prog 161 #[G (Z ⟨a,o,O⟩)] w (LC w a o f B (x::m)):=by
 obtain⟨l,e⟩:=ex (x::m);rw[←e] at h;obtain⟨b,p,c,rfl,s,t,r,H,K,L,q,n⟩:=h.head e;have M:w.cell? ⟨a,o,O⟩=Z (Y (Z ⟨b,p,O⟩) l.length c):=(bI w _ _ _ _ _ d).trans k;have N:w.frozen? ⟨a,o,O⟩=false:=by simp[b6,d]
 have u:=Aa d;obtain⟨g,j,i⟩:=H3 d h e;have y:a≠w.heap.size:=by omega
 have z:a≠w.heap.size+1:=by omega
 have A:(l.length==0)=false:=by rw[beq_eq_false_iff_ne];omega
 have C:((l.length:Int)==0)=false:=by rw[beq_eq_false_iff_ne];omega
 have D:(1:Int)≤(l.length:Int):=by omega
 have E:(l.length:Int)≤(c:Int):=by omega
 have F:(0:Int)<(l.length:Int):=by omega
 clear h k d e n;go_enter func161,ntmps161;go_wp2_with fail
 all_goals
  refine bK (v:=.tuple #[.agg #[I J x.proc,I J x.prio,I U x.val],.bool true]) (by simp[cb,results161,go_sem]) rfl ?_
  first
   |exact OA _ _ g.o (j.o.Nu i.o (by assumption))
   |exact OA _ _ g.o (j.o.L5 i.o (by assumption))
def OU:∃ a,prog.info? 5=Z a∧a.zero=Z (I U 0)∧a.size=1∧a.bytes=1:=by
 obtain⟨a,b,c,d,e⟩:=cB OT;exact⟨a,b,c,d,e⟩
def AA.append{W:br}{B:Nat}{v:bq}{d:List Int}{x:Int}{g:Nat}(h:AA W B v d)(y:B≤W.heap.size)(hd:d.length≤90000)(V:W.heap[g]? =Z (T #[I U x] 5 (0,0)))(n:ci):
  ∃ i w' row,(cQ #[34,34] n #[v,Y (Z ⟨g,0,O⟩) 1 1]).run prog W=.ok i w'∧AA w' B i (d++ [x])∧W.grownBy w' row∧∀ b,row=Z b→B≤b∧∃ l,W.heap[b]? =Z (T l 5 (0,0)):=by
 obtain⟨t,p,E,k,F⟩:=OU;obtain⟨H,cap,hv,h1,h2,K,C⟩:=h;have q:∀ j u,([cY U x]:List bq)[j]? =Z u→W.cell? ((⟨g,0,O⟩:dj).add j)=Z u:=by
  intro j u c
  match j,c with
  |0,c=>
   simp at c;subst c;rw[Cu,bI W _ _ _ _ _ V];rfl
 subst hv;by_cases D:d.length+1≤cap
 ·obtain⟨b,m,l,rfl,A,e,R,s⟩:=C (by omega);have f:=run_append_room_cells (P:=prog) W 34 n 5 t underlying34 p b m d.length cap ⟨g,0,O⟩ 1 1 [I U x] (by rw[k];rfl) q (by intro u c;simp at c;subst c;rfl) D
   (by
    intro j a;simp at a;subst a;rw[k,bI W _ _ _ _ _ e];simp;omega) (by intro j a;simp[b6,e])
  rw[k] at f;refine⟨_,_,Z b,f,?_,?_,?_⟩
  ·have L:=b8 W b (m+d.length*1) _ _ (I U x) e;refine⟨_,cap,by rw[b0];rfl,by rw[b0];exact D,by simp,by simp,fun _=>⟨b,m,_,rfl,A,L,by simpa using R,fun j u a=>?_⟩⟩;rw[dL];by_cases X:j<d.length
   ·rw[if_neg (by omega)];refine s j u ?_;rw[cJ,cA (by simpa using X)] at a;exact a
   ·have aa:j=d.length:=by
     have:=(ck.1 a).1;simp at this;omega
    subst aa;rw[if_pos (by omega),if_pos (by omega)];rw[cJ,dd (by simp)] at a;simpa using a
  ·exact KS W b _ _
  ·intro b' z;simp only[bM] at z;subst z;exact⟨A,l,e⟩
 ·have ac:(d++ [x]).length=d.length+1:=by simp
  have ae:d.length+1≤cM:=by unfold cM;omega
  cases H with
  |none=>
   have Q:=K rfl;have S:d=[]:=cs (by omega);subst S;subst Q;obtain⟨i,w',f,r,o,_⟩:=run_append_own (P:=prog) W W.heap.size 34 n 5 t (I U 0) 1 1 underlying34 p E k F rfl (by decide) (Y O 0 0) 0 [] (cn _ _ _ _) ⟨g,0,O⟩ 1 1 [I U x] rfl q (by intro u c;simp at c;subst c;rfl) (by unfold cM;omega) (by omega) (bH _);refine⟨i,w',O,f,?_,o,by simp⟩;exact Ty.mono (Ty.Bw r) y
  |some w=>
   have af:∀ j u,(d.map (cY U))[j]? =Z u→W.cell? (w.add j)=Z u:=fun j u a=>by
    have ab:=(ck.1 a).1;simp at ab;obtain⟨b,m,l,N,_,e,_,s⟩:=C (by omega);cases N;rw[Cu,bI W _ _ _ _ _ e];exact s j u a
   obtain⟨i,w',f,r,o⟩:=run_append_arg_grows (P:=prog) W 34 n 5 t (I U 0) 1 1 underlying34 p E k F rfl (by decide) w d.length cap (d.map (cY U)) (by simp) af ⟨g,0,O⟩ 1 1 [I U x] rfl q (by omega) ae (by omega);refine⟨i,w',O,f,?_,o,by simp⟩;have M:=Ty.mono (Ty.Bw r) y;unfold AA;rw[ac,cJ];exact M
def LL(w:br)(c:Nat)(n:Int)(h g:bq)(B:Nat)(d:List Int)(e:cO)(w':br):Prop:=
 ∃ f,e=.returned (.tuple #[])∧w'.heap[c]? =Z (T #[I J n,f,h,g] 261 (0,0))∧AA w' B f d∧df B w w'∧w.heap.size≤w'.heap.size∧
  ∀ (k:Nat) (a:Array bq) (t:ci) (b:Nat×Nat),k≠c→w.heap[k]? =Z (T a t b)→t≠5→w'.heap[k]? =Z (T a t b)
def Az{W:br}{g:Nat}{a b c d:bq}{t:ci}(h:W.heap[g]? =Z (T #[a,b,c,d] t (0,0))):
  W.cell? ⟨g,0,O⟩=Z a∧W.cell? ⟨g,1,O⟩=Z b∧W.cell? ⟨g,2,O⟩=Z c∧W.cell? ⟨g,3,O⟩=Z d∧W.frozen? ⟨g,0,O⟩=false∧W.frozen? ⟨g,1,O⟩=false∧W.frozen? ⟨g,2,O⟩=false∧W.frozen? ⟨g,3,O⟩=false:=by
 refine⟨?_,?_,?_,?_,?_,?_,?_,?_⟩
 ·rw[bI _ _ _ _ _ _ h];rfl
 ·rw[bI _ _ _ _ _ _ h];rfl
 ·rw[bI _ _ _ _ _ _ h];rfl
 ·rw[bI _ _ _ _ _ _ h];rfl
 all_goals simp[b6,h]
def I4{W:br}{g:Nat}{a b c d:bq}{t:ci}(h:W.heap[g]? =Z (T #[a,b,c,d] t (0,0)))(x:bq):
  (W.setCell ⟨g,0,O⟩ x).heap[g]? =Z (T #[x,b,c,d] t (0,0))∧(W.setCell ⟨g,1,O⟩ x).heap[g]? =Z (T #[a,x,c,d] t (0,0))∧(W.setCell ⟨g,2,O⟩ x).heap[g]? =Z (T #[a,b,x,d] t (0,0))∧(W.setCell ⟨g,3,O⟩ x).heap[g]? =Z (T #[a,b,c,x] t (0,0)):=by
 refine⟨?_,?_,?_,?_⟩
 ·have:=b8 W g 0 _ _ x h;simpa using this
 ·have:=b8 W g 1 _ _ x h;simpa using this
 ·have:=b8 W g 2 _ _ x h;simpa using this
 ·have:=b8 W g 3 _ _ x h;simpa using this
def Ns(a:Nat)(n x:Int)(v r q:bq)(B:Nat)(d:List Int)(w:br)(i:w.heap[a]? =Z (T #[I J n,v,r,q] 261 (0,0)))(h:AA w B v d)(K:B≤a)(M:d.length≤90000):
  b9 prog 162 #[G (Z ⟨a,0,O⟩),I U x] w (LL w a n r q B (d++ [x])):=by
 have Q:=Aa i;obtain⟨v',w',row,F,z,m,y⟩:=AA.append (g:=w.heap.size) (x:=x) (Ty.alloc h (T #[I U x] 5)) (by simp;omega) M (bL w _) 34;have N:(w.alloc (T #[I U x] 5)).heap[a]? =Z (T #[I J n,v,r,q] 261 (0,0)):=(b4 _ _ _ Q).trans i;have hoth:∀ (k:Nat) (c:Array bq) (t:ci) (f:Nat×Nat),w.heap[k]? =Z (T c t f)→t≠5→w'.heap[k]? =Z (T c t f):=fun k c t f j A=>by
  have E:=Aa j;refine(m.block k (by simp;omega) (fun e=>?_)).trans ((b4 _ _ _ E).trans j);obtain⟨_,W,u⟩:=y k e.symm;rw[(b4 _ _ _ E).trans j] at u;simp only[bM,cG] at u;exact A u.2.1
 have l:=hoth a _ _ _ i (by decide);have aa:w.heap.size<w'.heap.size:=by have:=m.size;simp at this;omega
 have D:df B w w':=(((bJ B w).alloc (by omega) (T #[I U x] 5))).grown m (by simp;omega) (fun b L=>(y b L).1);obtain⟨V,c1,rfl⟩:=Ty.shape h;obtain⟨y0,S,y2,y3,_,_,_,_⟩:=Az i;obtain⟨z0,z1,z2,z3,z4,z5,z6,z7⟩:=Az l;obtain⟨H,c2,R⟩:=Ty.shape z;subst R;have X:a<w'.heap.size:=by omega
 have C:Hq (LL w a n r q B (d++ [x]) (.returned (.tuple #[])) (w'.setCell ⟨a,1,O⟩ (Y H (d++ [x]).length c2))):=by
  refine⟨_,rfl,(I4 l _).2.1,Ty.set z l (by decide),D.setCell (p:=⟨a,1,O⟩) K _,by simp[cm];omega,fun k c t f j P A=>(bR _ _ _ _ j).trans (hoth k c t f P A)⟩
 have s:=HH F;clear i h l N hoth m y D z F;generalize (d++ [x]).length=m2 at C s;generalize d.length=m1 at S s;go_enter func162,ntmps162;go_wp2_with (at_builtin;refine dr _ rfl _ _ _ _ rfl _ _ rfl rfl _ _ s.o ?_);refine bK (v:=.tuple #[]) (by simp[cb,results162,go_sem]) rfl ?_;exact C.o
def Fi(h:Bool)(x:Int)(l:List Wt):Bool:=decide (AY l) && !l.any (fun y=>y.val !=0) && ((h && l.length==0)||(!h && x==0))
def Dh(h:Bool)(x:Int)(l:List Wt)(v:Int):Bool×Int×List Wt×List Int×Int:=if Fi h x l=false then(h,x,l,[],2) else(true,v,[],l.map (·.proc),0)
def lookBd(h:Bool)(x:Int)(l:List Wt)(p r:Int):List Wt×Int×Bool×Int:=
 if Fi h x l=false∨Cw l p=false then(l,0,false,2) else if h=true then(l,x,true,0) else(Cl l ⟨p,r,0⟩,0,false,0)
def FN(h:Bool)(x:Int)(l:List Wt):Bool×Int×Int:=if Fi h x l=false then(h,x,2) else(false,0,0)
def NG(w:br)(h:Bool)(x:Int)(l:List Wt)(y:bq)(e:cO)(w':br):Prop:=∃ v,e=.returned (.tuple #[.agg #[.bool h,I U x,v],y])∧Ax w' w.heap.size v l∧Bl w w'
def NH(w:br)(h:Bool)(x:Int)(l:List Wt)(a b c:bq)(e:cO)(w':br):Prop:=∃ v,e=.returned (.tuple #[.agg #[.bool h,I U x,v],a,b,c])∧Ax w' w.heap.size v l∧Bl w w'
def NI(w:br)(h:Bool)(x:Int)(l:List Wt)(m:List Int)(y:bq)(e:cO)(w':br):Prop:=∃ v u,e=.returned (.tuple #[.agg #[.bool h,I U x,v],u,y])∧Ax w' w.heap.size v l∧OwnI w' w.heap.size u m∧Bl w w'
def Rj(w:br)(h:Bool)(x:Int)(l:List Wt)(e:cO)(w':br):Prop:=∃ v,e=.returned (.agg #[.bool h,I U x,v])∧Ax w' w.heap.size v l∧Bl w w'
def GF(w:br)(o a:Obj):((w.alloc o).alloc a).heap[w.heap.size+1]? =Z a:=by
 have:=bL (w.alloc o) a;simpa using this
def GY(h:Bool)(x:Int)(v:bq)(l:List Wt)(w:br)(D:Al w 0 v l)(M:Ck l)(Q:l.length≤100000):
  b9 prog 163 #[.agg #[.bool h,I U x,v]] w fun e w'=>e=.returned (.bool (Fi h x l))∧Bl w w':=by
 obtain⟨B,C,rfl,_,_,_⟩:=D.open_;obtain⟨z,A⟩:=ex ((w.alloc (T #[.bool h,I U x,Y B l.length C] 103)).alloc (T #[Y B l.length C] 93));have i:Hq (Bl w z):=by subst A;exact((bJ _ w).alloc (bH _) _).alloc (by simp) _
 have j:Hq (z.heap[w.heap.size]? =Z (T #[.bool h,I U x,Y B l.length C] 103 (0,0))):=by subst A;exact(b4 _ _ _ (by simp)).trans (bL w _)
 have f:Hq (b9 prog 188 #[Y (Z ⟨w.heap.size+1,0,O⟩) 1 1] z fun e w'=>e=.returned (.bool (decide (AY l)))∧Bl z w'):=by
  have L:=Pt (Y (Z ⟨w.heap.size+1,0,O⟩) 1 1) [l] z (by subst A;exact Ds.one (by simp) (D.alloc _)) (by simp) (fun y N=>by rw[ef] at N;subst N;exact⟨M,Q⟩);rw[show (!([l].any (fun y=>!decide (AY y))))=decide (AY l) from by simp] at L;exact L
 have g:Hq (∀ W,Bl w W→b9 prog 189 #[Y B l.length C] W fun e w'=>e=.returned (.bool (!l.any (fun y=>y.val !=0)))∧Bl W w'):=fun W P=>Oa _ l W (D.below P) (by omega);have u:=HH A;clear D M A;cases q:decide (AY l) with
 |false=>
  rw[q] at f;rw[show Fi h x l=false by simp[Fi,q]];clear q g;go_enter func163,ntmps163;go_wp2_with fail;rw[←u.o];refine f.o.mono ?_;rintro e E ⟨rfl,b⟩;have c:=HH (i.o.trans (b.mono i.o.size));clear b f;go_wp2_with fail;go_ret;exact⟨rfl,c.o⟩
 |true=>
  rw[q] at f;cases t:l.any (fun y=>y.val !=0) with
  |true=>
   rw[t] at g;rw[show Fi h x l=false by simp[Fi,q,t]];clear q t;go_enter func163,ntmps163;go_wp2_with fail;rw[←u.o];refine f.o.mono ?_;rintro e E ⟨rfl,b⟩;have c:=HH (i.o.trans (b.mono i.o.size));obtain⟨m,n,p,_,_,_⟩:=Aj ((b.block _ (Aa j.o)).trans j.o);have k:=Aa ((b.block _ (Aa j.o)).trans j.o);clear b f;go_wp2_with fail;refine(g.o _ c.o).mono ?_;rintro e H ⟨rfl,d⟩;have r:=HH (c.o.trans (d.mono c.o.size));clear d g;go_wp2_with fail;go_ret;exact⟨rfl,r.o⟩
  |false=>
   rw[t] at g;have K:Hq (Fi h x l=((h && l.length==0)||(!h && x==0))):=by show _=_;simp[Fi,q,t]
   rw[K.o];clear q t K;cases h with
   |true=>
    by_cases s:l.length=0
    ·have F:(l.length==0)=true:=by simp[s]
     have R:((l.length:Int)==0)=true:=by simp[s]
     rw[F];clear s;go_enter func163,ntmps163;go_wp2_with fail;rw[←u.o];refine f.o.mono ?_;rintro e E ⟨rfl,b⟩;obtain⟨c,a⟩:=H2 (i.o.trans (b.mono i.o.size)) ((b.block _ (Aa j.o)).trans j.o);obtain⟨m,n,p,_,_,_⟩:=Aj a.o;have k:=Aa a.o;clear b f;go_wp2_with fail;refine(g.o _ c.o).mono ?_;rintro e H ⟨rfl,d⟩;have r:=HH (c.o.trans (d.mono c.o.size));clear m n p k;obtain⟨m,n,p,_,_,_⟩:=Aj ((d.block _ (Aa a.o)).trans a.o);have k:=Aa ((d.block _ (Aa a.o)).trans a.o);clear d g;go_wp2_with fail;go_ret;exact⟨A8 (by first|rfl|simp),r.o⟩
    ·have F:(l.length==0)=false:=by simp[s]
     have R:((l.length:Int)==0)=false:=by simp[s]
     rw[F];clear s;go_enter func163,ntmps163;go_wp2_with fail;rw[←u.o];refine f.o.mono ?_;rintro e E ⟨rfl,b⟩;obtain⟨c,a⟩:=H2 (i.o.trans (b.mono i.o.size)) ((b.block _ (Aa j.o)).trans j.o);obtain⟨m,n,p,_,_,_⟩:=Aj a.o;have k:=Aa a.o;clear b f;go_wp2_with fail;refine(g.o _ c.o).mono ?_;rintro e H ⟨rfl,d⟩;have r:=HH (c.o.trans (d.mono c.o.size));clear m n p k;obtain⟨m,n,p,_,_,_⟩:=Aj ((d.block _ (Aa a.o)).trans a.o);have k:=Aa ((d.block _ (Aa a.o)).trans a.o);clear d g;go_wp2_with fail;go_ret;exact⟨A8 (by first|rfl|simp),r.o⟩
   |false=>
    go_enter func163,ntmps163;go_wp2_with fail;rw[←u.o];refine f.o.mono ?_;rintro e E ⟨rfl,b⟩;obtain⟨c,a⟩:=H2 (i.o.trans (b.mono i.o.size)) ((b.block _ (Aa j.o)).trans j.o);obtain⟨m,n,p,_,_,_⟩:=Aj a.o;have k:=Aa a.o;clear b f;go_wp2_with fail;refine(g.o _ c.o).mono ?_;rintro e H ⟨rfl,d⟩;have r:=HH (c.o.trans (d.mono c.o.size));clear m n p k;obtain⟨m,n,p,_,_,_⟩:=Aj ((d.block _ (Aa a.o)).trans a.o);have k:=Aa ((d.block _ (Aa a.o)).trans a.o);clear d g;go_wp2_with fail;go_ret;exact⟨A8 (by first|rfl|simp),r.o⟩
def Hu(h:Bool)(x:Int)(v:bq)(l:List Wt)(w:br)(g:Al w 0 v l)(E:l.length≤100000):
  b9 prog 164 #[.agg #[.bool h,I U x,v]] w (Rj w h x l):=by
 obtain⟨q,r,rfl,_,_,_⟩:=g.open_;obtain⟨c,d⟩:=ex ((w.alloc (T #[.bool h,I U x,Y q l.length r] 103)).alloc (T #[.bool false,I U 0,Y O 0 0] 103));have i:Hq (Bl w c):=by subst d;exact((bJ _ w).alloc (bH _) _).alloc (by simp) _
 have f:Hq (c.heap[w.heap.size]? =Z (T #[.bool h,I U x,Y q l.length r] 103 (0,0))):=by subst d;exact(b4 _ _ _ (by simp)).trans (bL w _)
 have b:Hq (c.heap[w.heap.size+1]? =Z (T #[.bool false,I U 0,Y O 0 0] 103 (0,0))):=by
  subst d;exact GF w _ _
 have k:=HH (GK _ l c (g.below i.o) (by omega));have s:c.heap.size=w.heap.size+2:=by subst d;simp
 obtain⟨z,m⟩:=H2 s d;clear g d s;go_enter func164,ntmps164;go_wp2_with fail;rw[←m.o];refine k.o.mono ?_;rintro e t ⟨K,rfl,j,a⟩;obtain⟨n,c2,rfl⟩:=Bq j;have y:Hq (Ax t c.heap.size (Y n l.length c2) l):=Ty.Bw j;obtain⟨A,B,u⟩:=H3 (Tag.of ((a.block _ (Aa f.o)).trans f.o)) (Tag.of ((a.block _ (Aa b.o)).trans b.o)) (i.o.trans (a.mono i.o.size));obtain⟨L,M,N,P,Q,R⟩:=Aj ((a.block _ (Aa f.o)).trans f.o);obtain⟨C,D,r2,r3,r4,r5⟩:=Aj ((a.block _ (Aa b.o)).trans b.o);have g:=Aa ((a.block _ (Aa b.o)).trans b.o);have F:w.heap.size<t.heap.size:=by omega
 clear j a k m;go_wp2_with fail;refine bK (v:=.agg #[.bool h,I U x,Y n l.length c2]) (by simp[cb,results164,go_sem,C,D,r2]) rfl ?_;have H:=z.o;refine⟨_,rfl,?_,?_⟩
 ·exact Ty.mono (Ty.set3 (Ty.Kp y.o A.o (by decide)) B.o.set (by decide) _ _ _) (by omega)
 ·exact(((u.o.setCell (p:=⟨w.heap.size,2,O⟩) (by show _≤w.heap.size;omega) _).setCell (p:=⟨w.heap.size+1,0,O⟩) (by show _≤w.heap.size+1;omega) _).setCell (p:=⟨w.heap.size+1,1,O⟩) (by show _≤w.heap.size+1;omega) _).setCell (p:=⟨w.heap.size+1,2,O⟩) (by show _≤w.heap.size+1;omega) _
structure BM(w W:br)(h0:Bool)(x0:Int)(v0:bq)(g:Nat)(h:Bool)(x:Int)(v:bq)(l:List Wt):Prop where
 arg:W.heap[w.heap.size]? =Z (T #[.bool h0,I U x0,v0] 103 (0,0))
 res:W.heap[w.heap.size+1]? =Z (T #[.bool false,I U 0,Y O 0 0] 103 (0,0))
 ge:w.heap.size+2≤g
 obj:W.heap[g]? =Z (T #[.bool h,I U x,v] 103 (0,0))
 fr:Ax W (w.heap.size+2) v l
 bel:Bl w W
section
variable {w W W':br} {h0 h h':Bool} {x0 x x':Int} {v0 v v':bq} {g:Nat} {l l':List Wt}
def BM.next(m:BM w W h0 x0 v0 g h x v l)(a:Bl W W'):BM w W' h0 x0 v0 g h x v l:=
 ⟨(a.block _ (Aa m.arg)).trans m.arg,(a.block _ (Aa m.res)).trans m.res,m.ge,(a.block _ (Aa m.obj)).trans m.obj,Ty.below m.fr a,m.bel.trans (a.mono m.bel.size)⟩
def BM.drew(m:BM w W h0 x0 v0 g h x v l):BM w W.drew h0 x0 v0 g h x v l:=⟨m.arg,m.res,m.ge,m.obj,m.fr,m.bel.drew⟩
def BM.set{j:Nat}{u:bq}(m:BM w W h0 x0 v0 g h x v l)(b:(W.setCell ⟨g,j,O⟩ u).heap[g]? =Z (T #[.bool h',I U x',v'] 103 (0,0)))(a:Ax W (w.heap.size+2) v' l'):BM w (W.setCell ⟨g,j,O⟩ u) h0 x0 v0 g h' x' v' l':=by
 have c:=m.ge;exact⟨(bR _ _ _ _ (by show w.heap.size≠g;omega)).trans m.arg,(bR _ _ _ _ (by show w.heap.size+1≠g;omega)).trans m.res,m.ge,b,Ty.set a m.obj (by decide),m.bel.setCell (p:=⟨g,j,O⟩) (by show _≤g;omega) u⟩
def BM.MY(m:BM w W h0 x0 v0 g h x v l)(b:Bool):BM w (W.setCell ⟨g,0,O⟩ (.bool b)) h0 x0 v0 g b x v l:=m.set (set3 m.obj _).1 m.fr
def BM.Hy(m:BM w W h0 x0 v0 g h x v l)(y:Int):BM w (W.setCell ⟨g,1,O⟩ (I U y)) h0 x0 v0 g h y v l:=m.set (set3 m.obj _).2.1 m.fr
def BM.Yh(m:BM w W h0 x0 v0 g h x v l)(a:Bl W W')(b:W'.ownsRow W.heap.size 161 3 v' l'.length (cellsW l')):BM w (W'.setCell ⟨g,2,O⟩ v') h0 x0 v0 g h x v' l':=by
 have c:w.heap.size+2≤W.heap.size:=by have d:=m.ge;have e:=Aa m.obj;omega
 exact(m.next a).set (set3 (m.next a).obj _).2.2 (Ty.mono (Ty.Bw b) c)
def BM.last(m:BM w W h0 x0 v0 g h x v l)(a b c:bq):Ax (((W.setCell ⟨w.heap.size+1,0,O⟩ a).setCell ⟨w.heap.size+1,1,O⟩ b).setCell ⟨w.heap.size+1,2,O⟩ c) w.heap.size v l∧Bl w (((W.setCell ⟨w.heap.size+1,0,O⟩ a).setCell ⟨w.heap.size+1,1,O⟩ b).setCell ⟨w.heap.size+1,2,O⟩ c):=
 ⟨Ty.mono (Ty.set3 m.fr (Tag.of m.res) (by decide) _ _ _) (by omega),((m.bel.setCell (p:=⟨w.heap.size+1,0,O⟩) (by simp) _).setCell (p:=⟨w.heap.size+1,1,O⟩) (by simp) _).setCell (p:=⟨w.heap.size+1,2,O⟩) (by simp) _⟩
def BM.new{a b:br}(c:a=(w.alloc (T #[.bool h0,I U x0,v0] 103)).alloc (T #[.bool false,I U 0,Y O 0 0] 103))(i:Ax b a.heap.size v l)(d:Bl a b):BM w (b.alloc (T #[.bool h,I U x,v] 103)) h0 x0 v0 b.heap.size h x v l:=by
 have m:a.heap.size=w.heap.size+2:=by subst c;simp
 have j:a.heap[w.heap.size]? =Z (T #[.bool h0,I U x0,v0] 103 (0,0)):=by subst c;exact(b4 _ _ _ (by simp)).trans (bL w _)
 have k:a.heap[w.heap.size+1]? =Z (T #[.bool false,I U 0,Y O 0 0] 103 (0,0)):=by subst c;exact GF w _ _
 have e:Bl w a:=by subst c;exact((bJ _ w).alloc (bH _) _).alloc (by simp) _
 have n:=d.size;rw[m] at i;have f:=e.trans (d.mono e.size);exact⟨(b4 _ _ _ (by omega)).trans ((d.block _ (by omega)).trans j),(b4 _ _ _ (by omega)).trans ((d.block _ (by omega)).trans k),by omega,bL b _,Ty.alloc i _,f.alloc f.size _⟩
end
def RZ(h:Bool)(x:Int)(v:bq)(l:List Wt)(w:br)(E:Al w 0 v l)(P:Ck l)(hl:l.length≤90000):
  b9 prog 127 #[.agg #[.bool h,I U x,v]] w (NG w (FN h x l).1 (FN h x l).2.1 l (I J (FN h x l).2.2)):=by
 obtain⟨M,N,rfl,_,_,_⟩:=E.open_;obtain⟨A,B⟩:=ex ((w.alloc (T #[.bool h,I U x,Y M l.length N] 103)).alloc (T #[.bool false,I U 0,Y O 0 0] 103));have K:Hq (Bl w A):=by subst B;exact((bJ _ w).alloc (bH _) _).alloc (by simp) _
 have d:Hq (A.heap[w.heap.size]? =Z (T #[.bool h,I U x,Y M l.length N] 103 (0,0))):=by subst B;exact(b4 _ _ _ (by simp)).trans (bL w _)
 obtain⟨j,z,L⟩:=H3 B E P;clear E P B;cases k:Fi h x l with
 |false=>
  rw[show FN h x l=(h,x,2) by simp[FN,k]];have C:=HH k;clear k;go_enter func127,ntmps127;go_wp2_with fail;rw[←j.o];refine(Hu h x _ l A (z.o.below K.o) (by omega)).mono ?_;rintro e i ⟨v1,rfl,f,c⟩;obtain⟨m,c1,rfl⟩:=Ty.shape f;have b:=HH (BM.new (h:=h) (x:=x) j.o f c);obtain⟨q,r,s,t,u,y⟩:=Aj ((c.block _ (Aa d.o)).trans d.o);have X:=Aa ((c.block _ (Aa d.o)).trans d.o);clear f c;go_wp2_with fail;obtain⟨D,p⟩:=ex (i.alloc (T #[.bool h,I U x,Y m l.length c1] 103));rw[←p] at b ⊢;clear p q r s t u y j;have g:=GY h x _ l D (z.o.below b.o.bel) L.o (by omega);rw[C.o] at g;refine g.mono ?_;clear g;rintro e w2 ⟨rfl,n⟩;have a:=HH (b.o.next n);clear n b;obtain⟨q,r,s,t,u,y⟩:=Aj a.o.arg;obtain⟨F,H,r2,r3,r4,r5⟩:=Aj a.o.res;obtain⟨o0,o1,o2,o3,o4,o5⟩:=Aj a.o.obj;have W:=Aa a.o.obj;have Q:=Aa a.o.arg;have aa:=Aa a.o.res;have R:=a.o.ge;have S:i.heap.size≠w.heap.size+1:=by omega
  have V:w.heap.size+1≠i.heap.size:=by omega
  go_wp2_with fail;refine bK (v:=.tuple #[.agg #[.bool h,I U x,Y m l.length c1],I J 2]) (by simp[cb,results127,go_sem,F,H,r2]) rfl ?_;exact⟨_,rfl,a.o.last _ _ _⟩
 |true=>
  rw[show FN h x l=(false,0,0) by simp[FN,k]];have C:=HH k;clear k;go_enter func127,ntmps127;go_wp2_with fail;rw[←j.o];refine(Hu h x _ l A (z.o.below K.o) (by omega)).mono ?_;rintro e i ⟨v1,rfl,f,c⟩;obtain⟨m,c1,rfl⟩:=Ty.shape f;have b:=HH (BM.new (h:=h) (x:=x) j.o f c);obtain⟨q,r,s,t,u,y⟩:=Aj ((c.block _ (Aa d.o)).trans d.o);have X:=Aa ((c.block _ (Aa d.o)).trans d.o);clear f c;go_wp2_with fail;obtain⟨D,p⟩:=ex (i.alloc (T #[.bool h,I U x,Y m l.length c1] 103));rw[←p] at b ⊢;clear p q r s t u y j;have g:=GY h x _ l D (z.o.below b.o.bel) L.o (by omega);rw[C.o] at g;refine g.mono ?_;clear g;rintro e w2 ⟨rfl,n⟩;have a:=HH (b.o.next n);clear n b;obtain⟨q,r,s,t,u,y⟩:=Aj a.o.arg;obtain⟨F,H,r2,r3,r4,r5⟩:=Aj a.o.res;obtain⟨o0,o1,o2,o3,o4,o5⟩:=Aj a.o.obj;have W:=Aa a.o.obj;have Q:=Aa a.o.arg;have aa:=Aa a.o.res;have R:=a.o.ge;have S:i.heap.size≠w.heap.size+1:=by omega
  have V:w.heap.size+1≠i.heap.size:=by omega
  go_wp2_with fail;refine bK (v:=.tuple #[.agg #[.bool false,I U 0,Y m l.length c1],I J 0]) (by simp[cb,results127,go_sem,F,H,r2]) rfl ?_;exact⟨_,rfl,((a.o.MY false).Hy 0).last _ _ _⟩
def Xi(h:Bool)(x:Int)(p r:Int)(v:bq)(l:List Wt)(w:br)(hr:Al w 0 v l)(az:Ck l)(hl:l.length≤90000):
  b9 prog 126 #[.agg #[.bool h,I U x,v],I J p,I J r] w (NH w h x (lookBd h x l p r).1 (I U (lookBd h x l p r).2.1) (.bool (lookBd h x l p r).2.2.1) (I J (lookBd h x l p r).2.2.2)):=by
 obtain⟨ao,ca,rfl,_,_,_⟩:=hr.open_;obtain⟨W0,al⟩:=ex ((w.alloc (T #[.bool h,I U x,Y ao l.length ca] 103)).alloc (T #[.bool false,I U 0,Y O 0 0] 103));have B0:Hq (Bl w W0):=by subst al;exact((bJ _ w).alloc (bH _) _).alloc (by simp) _
 have n:Hq (W0.heap[w.heap.size]? =Z (T #[.bool h,I U x,Y ao l.length ca] 103 (0,0))):=by subst al;exact(b4 _ _ _ (by simp)).trans (bL w _)
 obtain⟨A,D,aj⟩:=H3 al hr az;clear hr az al;cases W:Fi h x l with
 |false=>
  rw[show lookBd h x l p r=(l,0,false,2) by simp[lookBd,W]];have K1:=HH W;clear W;go_enter func126,ntmps126;go_wp2_with fail;rw[←A.o];refine(Hu h x _ l W0 (D.o.below B0.o) (by omega)).mono ?_;rintro e t ⟨v1,rfl,q,d⟩;obtain⟨E,c1,rfl⟩:=Ty.shape q;have c:=HH (BM.new (h:=h) (x:=x) A.o q d);obtain⟨f,g,i,j,k,m⟩:=Aj ((d.block _ (Aa n.o)).trans n.o);have ar:=Aa ((d.block _ (Aa n.o)).trans n.o);clear q d;go_wp2_with fail;obtain⟨X,C⟩:=ex (t.alloc (T #[.bool h,I U x,Y E l.length c1] 103));rw[←C] at c ⊢;clear C f g i j k m A;have s:=GY h x _ l X (D.o.below c.o.bel) aj.o (by omega);rw[K1.o] at s;refine s.mono ?_;clear s;rintro e F ⟨rfl,B⟩;have a:=HH (c.o.next B);clear B c;obtain⟨f,g,i,j,k,m⟩:=Aj a.o.arg;obtain⟨u,z,r2,r3,r4,r5⟩:=Aj a.o.res;obtain⟨L,M,N,P,Q,R⟩:=Aj a.o.obj;have H:=Aa a.o.obj;have S:=Aa a.o.arg;have K:=Aa a.o.res;have am:=a.o.ge;have ap:t.heap.size≠w.heap.size+1:=by omega
  have aq:w.heap.size+1≠t.heap.size:=by omega
  go_wp2_with fail;refine bK (v:=.tuple #[.agg #[.bool h,I U x,Y E l.length c1],I U 0,.bool false,I J 2]) (by simp[cb,results126,go_sem,u,z,r2]) rfl ?_;exact⟨_,rfl,a.o.last _ _ _⟩
 |true=>
  have K1:=HH W;by_cases hp:p<0
  ·rw[show lookBd h x l p r=(l,0,false,2) by simp[lookBd,Cw,Int.not_le.2 hp]];clear W;go_enter func126,ntmps126;go_wp2_with fail;rw[←A.o];refine(Hu h x _ l W0 (D.o.below B0.o) (by omega)).mono ?_;rintro e t ⟨v1,rfl,q,d⟩;obtain⟨E,c1,rfl⟩:=Ty.shape q;have c:=HH (BM.new (h:=h) (x:=x) A.o q d);obtain⟨f,g,i,j,k,m⟩:=Aj ((d.block _ (Aa n.o)).trans n.o);have ar:=Aa ((d.block _ (Aa n.o)).trans n.o);clear q d;go_wp2_with fail;obtain⟨X,C⟩:=ex (t.alloc (T #[.bool h,I U x,Y E l.length c1] 103));rw[←C] at c ⊢;clear C f g i j k m A;have s:=GY h x _ l X (D.o.below c.o.bel) aj.o (by omega);rw[K1.o] at s;refine s.mono ?_;clear s;rintro e F ⟨rfl,B⟩;have a:=HH (c.o.next B);clear B c;obtain⟨f,g,i,j,k,m⟩:=Aj a.o.arg;obtain⟨u,z,r2,r3,r4,r5⟩:=Aj a.o.res;obtain⟨L,M,N,P,Q,R⟩:=Aj a.o.obj;have H:=Aa a.o.obj;have S:=Aa a.o.arg;have K:=Aa a.o.res;have am:=a.o.ge;have ap:t.heap.size≠w.heap.size+1:=by omega
   have aq:w.heap.size+1≠t.heap.size:=by omega
   go_wp2_with fail;refine bK (v:=.tuple #[.agg #[.bool h,I U x,Y E l.length c1],I U 0,.bool false,I J 2]) (by simp[cb,results126,go_sem,u,z,r2]) rfl ?_;exact⟨_,rfl,a.o.last _ _ _⟩
  ·have aC:0≤p:=by omega
   cases ka:l.any (fun y=>decide (y.proc=p)) with
   |true=>
    rw[show lookBd h x l p r=(l,0,false,2) by simp[lookBd,Cw,ka]];have KA:=HH ka;clear W ka;go_enter func126,ntmps126;go_wp2_with fail;rw[←A.o];refine(Hu h x _ l W0 (D.o.below B0.o) (by omega)).mono ?_;rintro e t ⟨v1,rfl,q,d⟩;obtain⟨E,c1,rfl⟩:=Ty.shape q;have c:=HH (BM.new (h:=h) (x:=x) A.o q d);obtain⟨f,g,i,j,k,m⟩:=Aj ((d.block _ (Aa n.o)).trans n.o);have ar:=Aa ((d.block _ (Aa n.o)).trans n.o);clear q d;go_wp2_with fail;obtain⟨X,C⟩:=ex (t.alloc (T #[.bool h,I U x,Y E l.length c1] 103));rw[←C] at c ⊢;clear C f g i j k m A;have s:=GY h x _ l X (D.o.below c.o.bel) aj.o (by omega);rw[K1.o] at s;refine s.mono ?_;clear s;rintro e F ⟨rfl,B⟩;have a:=HH (c.o.next B);clear B c;obtain⟨f,g,i,j,k,m⟩:=Aj a.o.arg;obtain⟨u,z,r2,r3,r4,r5⟩:=Aj a.o.res;obtain⟨L,M,N,P,Q,R⟩:=Aj a.o.obj;have H:=Aa a.o.obj;have S:=Aa a.o.arg;have K:=Aa a.o.res;have am:=a.o.ge;have ap:t.heap.size≠w.heap.size+1:=by omega
    have aq:w.heap.size+1≠t.heap.size:=by omega
    have aa:=HH (a.o.next ((bJ _ F).alloc (bH _) (T #[Y ao l.length ca] 93)));go_wp2_with fail;have V:=KB p (Y (Z ⟨F.heap.size,0,O⟩) 1 1) [l] (F.alloc (T #[Y ao l.length ca] 93)) (Ds.one rfl (D.o.below a.o.bel)) (by simp) (by rw[IW];omega);rw[IW,KA.o] at V;refine V.mono ?_;clear V;rintro e w3 ⟨rfl,b3⟩;have b:=HH (aa.o.next b3);clear b3 aa a f g i j k m u z r2 r3 r4 r5 L M N P Q R H S K;obtain⟨f,g,i,j,k,m⟩:=Aj b.o.arg;obtain⟨u,z,r2,r3,r4,r5⟩:=Aj b.o.res;obtain⟨L,M,N,P,Q,R⟩:=Aj b.o.obj;have H:=Aa b.o.obj;have S:=Aa b.o.arg;have K:=Aa b.o.res;go_wp2_with fail;refine bK (v:=.tuple #[.agg #[.bool h,I U x,Y E l.length c1],I U 0,.bool false,I J 2]) (by simp[cb,results126,go_sem,u,z,r2]) rfl ?_;exact⟨_,rfl,b.o.last _ _ _⟩
   |false=>
    have KA:=HH ka;have hm:Cw l p=true:=by simp[Cw,aC,ka]
    cases h with
    |true=>
     rw[show lookBd true x l p r=(l,x,true,0) by simp[lookBd,W,hm]];clear W ka hm;go_enter func126,ntmps126;go_wp2_with fail;rw[←A.o];refine(Hu true x _ l W0 (D.o.below B0.o) (by omega)).mono ?_;rintro e t ⟨v1,rfl,q,d⟩;obtain⟨E,c1,rfl⟩:=Ty.shape q;have c:=HH (BM.new (h:=true) (x:=x) A.o q d);obtain⟨f,g,i,j,k,m⟩:=Aj ((d.block _ (Aa n.o)).trans n.o);have ar:=Aa ((d.block _ (Aa n.o)).trans n.o);clear q d;go_wp2_with fail;obtain⟨X,C⟩:=ex (t.alloc (T #[.bool true,I U x,Y E l.length c1] 103));rw[←C] at c ⊢;clear C f g i j k m A;have s:=GY true x _ l X (D.o.below c.o.bel) aj.o (by omega);rw[K1.o] at s;refine s.mono ?_;clear s;rintro e F ⟨rfl,B⟩;have a:=HH (c.o.next B);clear B c;obtain⟨f,g,i,j,k,m⟩:=Aj a.o.arg;obtain⟨u,z,r2,r3,r4,r5⟩:=Aj a.o.res;obtain⟨L,M,N,P,Q,R⟩:=Aj a.o.obj;have H:=Aa a.o.obj;have S:=Aa a.o.arg;have K:=Aa a.o.res;have am:=a.o.ge;have ap:t.heap.size≠w.heap.size+1:=by omega
     have aq:w.heap.size+1≠t.heap.size:=by omega
     have aa:=HH (a.o.next ((bJ _ F).alloc (bH _) (T #[Y ao l.length ca] 93)));go_wp2_with fail;have V:=KB p (Y (Z ⟨F.heap.size,0,O⟩) 1 1) [l] (F.alloc (T #[Y ao l.length ca] 93)) (Ds.one rfl (D.o.below a.o.bel)) (by simp) (by rw[IW];omega);rw[IW,KA.o] at V;refine V.mono ?_;clear V;rintro e w3 ⟨rfl,b3⟩;have b:=HH (aa.o.next b3);clear b3 aa a f g i j k m u z r2 r3 r4 r5 L M N P Q R H S K;obtain⟨f,g,i,j,k,m⟩:=Aj b.o.arg;obtain⟨u,z,r2,r3,r4,r5⟩:=Aj b.o.res;obtain⟨L,M,N,P,Q,R⟩:=Aj b.o.obj;have H:=Aa b.o.obj;have S:=Aa b.o.arg;have K:=Aa b.o.res;go_wp2_with fail
     go_region
     all_goals
      go_wp2_with fail;refine bK (v:=.tuple #[.agg #[.bool true,I U x,Y E l.length c1],I U x,.bool true,I J 0]) (by simp[cb,results126,go_sem,u,z,r2]) rfl ?_;exact⟨_,rfl,b.o.drew.last _ _ _⟩
    |false=>
     rw[show lookBd false x l p r=(Cl l ⟨p,r,0⟩,0,false,0) by simp[lookBd,W,hm]];clear W ka hm;go_enter func126,ntmps126;go_wp2_with fail;rw[←A.o];refine(Hu false x _ l W0 (D.o.below B0.o) (by omega)).mono ?_;rintro e t ⟨v1,rfl,q,d⟩;obtain⟨E,c1,rfl⟩:=Ty.shape q;have c:=HH (BM.new (h:=false) (x:=x) A.o q d);obtain⟨f,g,i,j,k,m⟩:=Aj ((d.block _ (Aa n.o)).trans n.o);have ar:=Aa ((d.block _ (Aa n.o)).trans n.o);clear q d;go_wp2_with fail;obtain⟨X,C⟩:=ex (t.alloc (T #[.bool false,I U x,Y E l.length c1] 103));rw[←C] at c ⊢;clear C f g i j k m A;have s:=GY false x _ l X (D.o.below c.o.bel) aj.o (by omega);rw[K1.o] at s;refine s.mono ?_;clear s;rintro e F ⟨rfl,B⟩;have a:=HH (c.o.next B);clear B c;obtain⟨f,g,i,j,k,m⟩:=Aj a.o.arg;obtain⟨u,z,r2,r3,r4,r5⟩:=Aj a.o.res;obtain⟨L,M,N,P,Q,R⟩:=Aj a.o.obj;have H:=Aa a.o.obj;have S:=Aa a.o.arg;have K:=Aa a.o.res;have am:=a.o.ge;have ap:t.heap.size≠w.heap.size+1:=by omega
     have aq:w.heap.size+1≠t.heap.size:=by omega
     have aa:=HH (a.o.next ((bJ _ F).alloc (bH _) (T #[Y ao l.length ca] 93)));go_wp2_with fail;have V:=KB p (Y (Z ⟨F.heap.size,0,O⟩) 1 1) [l] (F.alloc (T #[Y ao l.length ca] 93)) (Ds.one rfl (D.o.below a.o.bel)) (by simp) (by rw[IW];omega);rw[IW,KA.o] at V;refine V.mono ?_;clear V;rintro e w3 ⟨rfl,b3⟩;have b:=HH (aa.o.next b3);clear b3 aa a f g i j k m u z r2 r3 r4 r5 L M N P Q R H S K;obtain⟨f,g,i,j,k,m⟩:=Aj b.o.arg;obtain⟨u,z,r2,r3,r4,r5⟩:=Aj b.o.res;obtain⟨L,M,N,P,Q,R⟩:=Aj b.o.obj;have H:=Aa b.o.obj;have S:=Aa b.o.arg;have K:=Aa b.o.res;go_wp2_with fail;refine(JV _ l ⟨p,r,0⟩ w3 b.o.fr.rd (by omega)).mono ?_;rintro e w4 ⟨v3,rfl,av,ah⟩;obtain⟨a3,c3,rfl⟩:=Bq av;have M4:=HH (b.o.Yh ah av);clear f g i j k m u z r2 r3 r4 r5 L M N P Q R H S K;obtain⟨u,z,r2,r3,r4,r5⟩:=Aj (b.o.next ah).res;obtain⟨L,M,N,P,Q,R⟩:=Aj (b.o.next ah).obj;have H:=Aa (b.o.next ah).obj;have K:=Aa (b.o.next ah).res;clear av ah b;generalize (Cl l ⟨p,r,0⟩).length=m3 at M4 ⊢;go_wp2_with fail;refine bK (v:=.tuple #[.agg #[.bool false,I U x,Y a3 m3 c3],I U 0,.bool false,I J 0]) (by simp[cb,results126,go_sem,u,z,r2]) rfl ?_;exact⟨_,rfl,M4.o.last _ _ _⟩
structure BV(w W:br)(h0:Bool)(x0:Int)(v0:bq):Prop where
 arg:W.heap[w.heap.size]? =Z (T #[.bool h0,I U x0,v0] 103 (0,0))
 res:W.heap[w.heap.size+1]? =Z (T #[.bool false,I U 0,Y O 0 0] 103 (0,0))
 bel:Bl w W
 sz:w.heap.size+2≤W.heap.size
section
variable {w W W':br} {h0:Bool} {x0:Int} {v0:bq}
def BV.next(m:BV w W h0 x0 v0)(a:Bl W W'):BV w W' h0 x0 v0:=⟨(a.block _ (Aa m.arg)).trans m.arg,(a.block _ (Aa m.res)).trans m.res,m.bel.trans (a.mono m.bel.size),cC m.sz a.size⟩
def BV.grown{row:Option Nat}(m:BV w W h0 x0 v0)(a:W.grownBy W' row)(b:∀ g,row=Z g→w.heap.size+2≤g):BV w W' h0 x0 v0:=by
 refine⟨(a.block _ (Aa m.arg) (fun e=>?_)).trans m.arg,(a.block _ (Aa m.res) (fun e=>?_)).trans m.res,m.bel.grown a m.bel.size (fun g e=>by have:=b g e;omega),cC m.sz a.size⟩
 ·have:=b _ e.symm;omega
 ·have:=b _ e.symm;omega
def BV.start(a:W=(w.alloc (T #[.bool h0,I U x0,v0] 103)).alloc (T #[.bool false,I U 0,Y O 0 0] 103)):BV w W h0 x0 v0:=by
 subst a;exact⟨(b4 _ _ _ (by simp)).trans (bL w _),GF w _ _,((bJ _ w).alloc (bH _) _).alloc (by simp) _,by simp⟩
def BV.last(m:BV w W h0 x0 v0)(a b c:bq):Bl w (((W.setCell ⟨w.heap.size+1,0,O⟩ a).setCell ⟨w.heap.size+1,1,O⟩ b).setCell ⟨w.heap.size+1,2,O⟩ c):=
 ((m.bel.setCell (p:=⟨w.heap.size+1,0,O⟩) (by simp) _).setCell (p:=⟨w.heap.size+1,1,O⟩) (by simp) _).setCell (p:=⟨w.heap.size+1,2,O⟩) (by simp) _
end
def YQ(h:Bool)(x:Int)(y:Int)(v:bq)(l:List Wt)(w:br)(N:Al w 0 v l)(an:Ck l)(hl:l.length≤90000):
  b9 prog 125 #[.agg #[.bool h,I U x,v],I U y] w (NI w (Dh h x l y).1 (Dh h x l y).2.1 (Dh h x l y).2.2.1 (Dh h x l y).2.2.2.1 (I J (Dh h x l y).2.2.2.2)):=by
 obtain⟨F,H,rfl,_,_,M⟩:=N.open_;obtain⟨z,B⟩:=ex ((w.alloc (T #[.bool h,I U x,Y F l.length H] 103)).alloc (T #[.bool false,I U 0,Y O 0 0] 103));have X:Hq (Bl w z):=by subst B;exact((bJ _ w).alloc (bH _) _).alloc (by simp) _
 have BK:Hq (z.heap[w.heap.size]? =Z (T #[.bool h,I U x,Y F l.length H] 103 (0,0))):=by subst B;exact(b4 _ _ _ (by simp)).trans (bL w _)
 obtain⟨n,D,ab⟩:=H3 B N an;have t:=HH (BV.start n.o);obtain⟨i0,hi,aD,aE,aF⟩:=cB OV;clear N an B;cases m:Fi h x l with
 |false=>
  rw[show Dh h x l y=(h,x,l,[],2) by simp[Dh,m]];have E:=HH m;clear m M;go_enter func125,ntmps125;go_wp2_with fail;rw[←n.o];have c:=GY h x _ l z (D.o.below X.o) ab.o (by omega);rw[E.o] at c;refine c.mono ?_;clear c;rintro e w2 ⟨rfl,q⟩;have a:=HH (t.o.next q);clear q t n;obtain⟨P,Q,R,S,V,W⟩:=Aj a.o.arg;obtain⟨d,f,r2,r3,r4,r5⟩:=Aj a.o.res;have L:=Aa a.o.arg;have r:=Aa a.o.res;go_wp2_with fail;refine(Hu h x _ l w2 (D.o.below a.o.bel) (by omega)).mono ?_;rintro e w3 ⟨v3,rfl,K,b3⟩;obtain⟨a3,c3,rfl⟩:=Ty.shape K;have i:=HH (a.o.next b3);have F3:Hq (Ax w3 (w.heap.size+2) (Y a3 l.length c3) l):=Ty.mono K a.o.sz;clear b3 K a P Q R S V W d f r2 r3 r4 r5 L r;obtain⟨d,f,r2,r3,r4,r5⟩:=Aj i.o.res;have r:=Aa i.o.res;go_wp2_with fail;refine bK (v:=.tuple #[.agg #[.bool h,I U x,Y a3 l.length c3],Y O 0 0,I J 2]) (by simp[cb,results125,go_sem,d,f,r2]) rfl ?_;exact⟨_,_,rfl,Ty.mono (Ty.set3 F3.o (Tag.of i.o.res) (by decide) _ _ _) (by omega),cn _ _ _ _,i.o.last _ _ _⟩
 |true=>
  rw[show Dh h x l y=(true,y,[],l.map (·.proc),0) by simp[Dh,m]];obtain⟨E,av⟩:=H2 m M;clear m M;go_enter func125,ntmps125;go_wp2_with fail;rw[←n.o];have c:=GY h x _ l z (D.o.below X.o) ab.o (by omega);rw[E.o] at c;refine c.mono ?_;clear c;rintro e w2 ⟨rfl,q⟩;have a:=HH (t.o.next q);clear q t n;obtain⟨P,Q,R,S,V,W⟩:=Aj a.o.arg;obtain⟨d,f,r2,r3,r4,r5⟩:=Aj a.o.res;have L:=Aa a.o.arg;have r:=Aa a.o.res;go_wp2_with fail;clear P Q R S V W d f r2 r3 r4 r5 L r
  go_loopg [7,9,18] l.length (fun gg s7 _ aI wr=>∃ k:Nat,k≤l.length∧l.length-k≤gg∧aI=I J k∧Hq (BV w wr h x (Y F l.length H)∧OwnI wr (w.heap.size+2) s7 ((l.take k).map (·.proc))))
  case atStart=>exact⟨0,ch _,by omega,rfl,a.o,cn _ _ _ _⟩
  case round=>
   obtain⟨k,hk,hg,rfl,A⟩:=hrel;clear a;by_cases ak:k<l.length
   ·have aB:(k:Int)<(l.length:Int):=by omega
    obtain⟨b',aQ,rfl,_,ag,af⟩:=av.o (by omega);obtain⟨c0,c1,c2⟩:=af k ak;rw[←A.o.1.bel.cell (p:=⟨b',_,O⟩) ag] at c0 c1 c2;have aM:b'<wr.heap.size:=ce ag A.o.1.bel.size;clear af;have aj:((l.take k).map (·.proc)).length=k:=by simp;omega
    have aa:=HH aj;clear aj;have b:=A.o.2;unfold OwnI at b;rw[aa.o] at b;have s:=HH b;have aP:w.heap.size+2≤wr.heap.size:=A.o.1.sz;clear b;go_wp2_with (at_builtin;refine cD _ rfl _ _ 22 rfl (w.heap.size+2) 3 i0 (I J 0) 1 8 underlying22 hi aD aE aF rfl (by decide) _ _ _ rfl ((s.o.alloc _).alloc _) ⟨wr.heap.size+1,0,O⟩ 1 1 [I J l[k].proc] rfl rfl ?c1 ?c2 ?c3 ?c4 ?c5 ?_)
    case c1=>
     intro j u C
     match j,C with
     |0,C=>simp at C;subst C;rw[Cu];go_simp
    case c2=>intro u hu;simp at hu;subst hu;rfl
    case c3=>unfold cM;omega
    case c4=>omega
    case c5=>simp;omega
    intro v' w1 al ai _;obtain⟨au,ar⟩:=H2 al ai;clear al ai;go_wp2
    go_roundg (l.length-(k+1))
    case measure=>omega
    case rel=>
     refine⟨k+1,by omega,by omega,by go_num,(A.o.1.next (((bJ _ wr).alloc (bH _) _).alloc (by simp) _)).grown ar.o (fun g hg=>(s.o.lt g hg).1),?_⟩;unfold OwnI;rw[cd ak,cJ,b0,aa.o,cJ];simpa[eC] using au.o
   ·have aB:¬(k:Int)<(l.length:Int):=by omega
    obtain⟨d,f,r2,r3,r4,r5⟩:=Aj A.o.1.res;have r:=Aa A.o.1.res;have b:=A.o.2;rw[cH (by omega)] at b;obtain⟨a7,m7,c7,rfl,aC⟩:=MS b;clear aC;have s:=HH b;have i:=HH A.o.1;clear b A;go_wp2_with fail;refine bK (v:=.tuple #[.agg #[.bool true,I U y,Y O 0 0],Y a7 m7 c7,I J 0]) (by simp[cb,results125,go_sem,d,f,r2]) rfl ?_;exact⟨_,_,rfl,Ty.nil _ _ _ _,Cx (Hv (Hv (Hv s.o (by omega)) (by omega)) (by omega)) (by omega),i.o.last _ _ _⟩
end Go.Proofs.YtiepijihpgijbaaGreatDoor
