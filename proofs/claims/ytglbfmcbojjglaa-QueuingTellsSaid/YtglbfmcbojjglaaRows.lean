/-
  No cell of these rows narrows 'for every input' (looked for: loops, veiled, ifaces, maps, wideKeys, modest, calm, conditions, laid).
  DERIVED. THE GIVEN ROWS OF THIS SEAT. 21 by the template 'for every input the law returns true; each argument reads behind the call as it read before'; 0 by the template 'total and deterministic' (their statements: YtglbfmcbojjglaaTotals.lean).
  GIVEN WITH THE SEED: the statements are not yours to turn. If you find one false, say at which input.
  Laid BY PROGRAM, IN A SANDBOX (cutbox-rows.mjs): the forced cells as the released guide's own fill.sh prints them over the translation 242abdc4df00b1c4… (all of the seat's roots in one cut). By AI agents, Wed Nov 11 2026. No macro, syntax, notation, axiom, sorry.
-/
import Derived.Test.YtglbfmcbojjglaaChecked
import GoSem.Claim
import GoSem.ClaimJoined
import GoSem.ClaimMapViews
import Derived.JoinedTies
import Derived.KernelRfl
namespace Go.Proofs.Ytglbfmcbojjglaa
/- THE CELL 'sum', in the pinned program and in every row, IS THE sha256 OF THE DUMP (.gsa) THAT YtglbfmcbojjglaaProg.lean LOADS. Nothing in Lean hashes anything: it is a label: what it is worth is what the hold of that sum in a sandbox is worth. -/
noncomputable def Try.pinned : Pinned := { name := "ytglbfmcbojjglaa", sum := "242abdc4df00b1c4ace079fca7aa3dfa594edaaac63bd0298bb9c829cb610f3d", checked := Try.checked }
namespace Rows
def none {H : Type} : Left H := { results := [], args := [] }

/-- 'nacellelaw23.QueuingTells': WHATEVER THE INPUT: true; the input reads as it did. -/
def queuingTellsSpec : ChangeSpec := { name := "queuingTells", fn := fun _ => fun
  | [d1, d2, d3, d4, d5] => { results := [.lit (.bool true)], args := [d1, d2, d3, d4, d5] }
  | _ => none }
def queuingTellsRow : OpenClaim := { program := "ytglbfmcbojjglaa", sum := "242abdc4df00b1c4ace079fca7aa3dfa594edaaac63bd0298bb9c829cb610f3d", func := "nacelle/nacellelaw23.QueuingTells", spec := "queuingTells", inPlace := ["slices.overlaps[nacelle/api.Waiter]"], unfollowed := true, recurses := true, apart := false }
def QueuingTellsSaid : Prop := queuingTellsRow.holds Try.pinned (OpenSpec.ofChange queuingTellsSpec)

/-- ITS FALSE NEIGHBOUR: 'it returns false'. Refute it at one input. -/
def queuingTellsWrong : ChangeSpec := { name := "queuingTells", fn := fun _ => fun
  | [d1, d2, d3, d4, d5] => { results := [.lit (.bool false)], args := [d1, d2, d3, d4, d5] }
  | _ => none }
def QueuingTellsWrongFalsely : Prop := queuingTellsRow.holds Try.pinned (OpenSpec.ofChange queuingTellsWrong)

/-- 'nacellelaw23.QueuingLists': WHATEVER THE INPUT: true; the input reads as it did. -/
def queuingListsSpec : ChangeSpec := { name := "queuingLists", fn := fun _ => fun
  | [d1, d2] => { results := [.lit (.bool true)], args := [d1, d2] }
  | _ => none }
def queuingListsRow : OpenClaim := { program := "ytglbfmcbojjglaa", sum := "242abdc4df00b1c4ace079fca7aa3dfa594edaaac63bd0298bb9c829cb610f3d", func := "nacelle/nacellelaw23.QueuingLists", spec := "queuingLists", inPlace := ["slices.overlaps[nacelle/api.Waiter]"], unfollowed := true, recurses := true, apart := false }
def QueuingListsSaid : Prop := queuingListsRow.holds Try.pinned (OpenSpec.ofChange queuingListsSpec)

/-- ITS FALSE NEIGHBOUR: 'it returns false'. Refute it at one input. -/
def queuingListsWrong : ChangeSpec := { name := "queuingLists", fn := fun _ => fun
  | [d1, d2] => { results := [.lit (.bool false)], args := [d1, d2] }
  | _ => none }
def QueuingListsWrongFalsely : Prop := queuingListsRow.holds Try.pinned (OpenSpec.ofChange queuingListsWrong)

/-- 'nacellelaw23.QueuingFifo': WHATEVER THE INPUT: true; the input reads as it did. -/
def queuingFifoSpec : ChangeSpec := { name := "queuingFifo", fn := fun _ => fun
  | [d1, d2] => { results := [.lit (.bool true)], args := [d1, d2] }
  | _ => none }
def queuingFifoRow : OpenClaim := { program := "ytglbfmcbojjglaa", sum := "242abdc4df00b1c4ace079fca7aa3dfa594edaaac63bd0298bb9c829cb610f3d", func := "nacelle/nacellelaw23.QueuingFifo", spec := "queuingFifo", inPlace := ["slices.overlaps[nacelle/api.Waiter]"], unfollowed := true, recurses := true, apart := false }
def QueuingFifoSaid : Prop := queuingFifoRow.holds Try.pinned (OpenSpec.ofChange queuingFifoSpec)

/-- ITS FALSE NEIGHBOUR: 'it returns false'. Refute it at one input. -/
def queuingFifoWrong : ChangeSpec := { name := "queuingFifo", fn := fun _ => fun
  | [d1, d2] => { results := [.lit (.bool false)], args := [d1, d2] }
  | _ => none }
def QueuingFifoWrongFalsely : Prop := queuingFifoRow.holds Try.pinned (OpenSpec.ofChange queuingFifoWrong)

/-- 'nacellelaw23.QueuingWakes': WHATEVER THE INPUT: true; the input reads as it did. -/
def queuingWakesSpec : ChangeSpec := { name := "queuingWakes", fn := fun _ => fun
  | [d1, d2, d3] => { results := [.lit (.bool true)], args := [d1, d2, d3] }
  | _ => none }
def queuingWakesRow : OpenClaim := { program := "ytglbfmcbojjglaa", sum := "242abdc4df00b1c4ace079fca7aa3dfa594edaaac63bd0298bb9c829cb610f3d", func := "nacelle/nacellelaw23.QueuingWakes", spec := "queuingWakes", inPlace := ["slices.overlaps[nacelle/api.Waiter]"], unfollowed := true, recurses := true, apart := false }
def QueuingWakesSaid : Prop := queuingWakesRow.holds Try.pinned (OpenSpec.ofChange queuingWakesSpec)

/-- ITS FALSE NEIGHBOUR: 'it returns false'. Refute it at one input. -/
def queuingWakesWrong : ChangeSpec := { name := "queuingWakes", fn := fun _ => fun
  | [d1, d2, d3] => { results := [.lit (.bool false)], args := [d1, d2, d3] }
  | _ => none }
def QueuingWakesWrongFalsely : Prop := queuingWakesRow.holds Try.pinned (OpenSpec.ofChange queuingWakesWrong)

/-- 'nacellelaw23.QueuingBounds': WHATEVER THE INPUT: true; the input reads as it did. -/
def queuingBoundsSpec : ChangeSpec := { name := "queuingBounds", fn := fun _ => fun
  | [d1, d2] => { results := [.lit (.bool true)], args := [d1, d2] }
  | _ => none }
def queuingBoundsRow : OpenClaim := { program := "ytglbfmcbojjglaa", sum := "242abdc4df00b1c4ace079fca7aa3dfa594edaaac63bd0298bb9c829cb610f3d", func := "nacelle/nacellelaw23.QueuingBounds", spec := "queuingBounds", inPlace := ["slices.overlaps[nacelle/api.Waiter]"], unfollowed := true, recurses := true, apart := false }
def QueuingBoundsSaid : Prop := queuingBoundsRow.holds Try.pinned (OpenSpec.ofChange queuingBoundsSpec)

/-- ITS FALSE NEIGHBOUR: 'it returns false'. Refute it at one input. -/
def queuingBoundsWrong : ChangeSpec := { name := "queuingBounds", fn := fun _ => fun
  | [d1, d2] => { results := [.lit (.bool false)], args := [d1, d2] }
  | _ => none }
def QueuingBoundsWrongFalsely : Prop := queuingBoundsRow.holds Try.pinned (OpenSpec.ofChange queuingBoundsWrong)

/-- 'nacellelaw23.QueuingOrder': WHATEVER THE INPUT: true; the input reads as it did. -/
def queuingOrderSpec : ChangeSpec := { name := "queuingOrder", fn := fun _ => fun
  | [d1, d2] => { results := [.lit (.bool true)], args := [d1, d2] }
  | _ => none }
def queuingOrderRow : OpenClaim := { program := "ytglbfmcbojjglaa", sum := "242abdc4df00b1c4ace079fca7aa3dfa594edaaac63bd0298bb9c829cb610f3d", func := "nacelle/nacellelaw23.QueuingOrder", spec := "queuingOrder", inPlace := ["slices.overlaps[nacelle/api.Waiter]"], unfollowed := true, recurses := true, apart := false }
def QueuingOrderSaid : Prop := queuingOrderRow.holds Try.pinned (OpenSpec.ofChange queuingOrderSpec)

/-- ITS FALSE NEIGHBOUR: 'it returns false'. Refute it at one input. -/
def queuingOrderWrong : ChangeSpec := { name := "queuingOrder", fn := fun _ => fun
  | [d1, d2] => { results := [.lit (.bool false)], args := [d1, d2] }
  | _ => none }
def QueuingOrderWrongFalsely : Prop := queuingOrderRow.holds Try.pinned (OpenSpec.ofChange queuingOrderWrong)

/-- 'nacellelaw23.QueuingWrong': WHATEVER THE INPUT: true; the input reads as it did. -/
def queuingWrongSpec : ChangeSpec := { name := "queuingWrong", fn := fun _ => fun
  | [d1, d2] => { results := [.lit (.bool true)], args := [d1, d2] }
  | _ => none }
def queuingWrongRow : OpenClaim := { program := "ytglbfmcbojjglaa", sum := "242abdc4df00b1c4ace079fca7aa3dfa594edaaac63bd0298bb9c829cb610f3d", func := "nacelle/nacellelaw23.QueuingWrong", spec := "queuingWrong", inPlace := ["slices.overlaps[nacelle/api.Waiter]"], unfollowed := true, recurses := true, apart := false }
def QueuingWrongSaid : Prop := queuingWrongRow.holds Try.pinned (OpenSpec.ofChange queuingWrongSpec)

/-- ITS FALSE NEIGHBOUR: 'it returns false'. Refute it at one input. -/
def queuingWrongWrong : ChangeSpec := { name := "queuingWrong", fn := fun _ => fun
  | [d1, d2] => { results := [.lit (.bool false)], args := [d1, d2] }
  | _ => none }
def QueuingWrongWrongFalsely : Prop := queuingWrongRow.holds Try.pinned (OpenSpec.ofChange queuingWrongWrong)

/-- 'nacellelaw25.SemaWakes': WHATEVER THE INPUT: true; the input reads as it did. -/
def semaWakesSpec : ChangeSpec := { name := "semaWakes", fn := fun _ => fun
  | [d] => { results := [.lit (.bool true)], args := [d] }
  | _ => none }
def semaWakesRow : OpenClaim := { program := "ytglbfmcbojjglaa", sum := "242abdc4df00b1c4ace079fca7aa3dfa594edaaac63bd0298bb9c829cb610f3d", func := "nacelle/nacellelaw25.SemaWakes", spec := "semaWakes", inPlace := ["slices.overlaps[nacelle/api.Waiter]"], unfollowed := true, recurses := true, apart := false }
def SemaWakesSaid : Prop := semaWakesRow.holds Try.pinned (OpenSpec.ofChange semaWakesSpec)

/-- ITS FALSE NEIGHBOUR: 'it returns false'. Refute it at one input. -/
def semaWakesWrong : ChangeSpec := { name := "semaWakes", fn := fun _ => fun
  | [d] => { results := [.lit (.bool false)], args := [d] }
  | _ => none }
def SemaWakesWrongFalsely : Prop := semaWakesRow.holds Try.pinned (OpenSpec.ofChange semaWakesWrong)

/-- 'nacellelaw25.SemaPasses': WHATEVER THE INPUT: true; the input reads as it did. -/
def semaPassesSpec : ChangeSpec := { name := "semaPasses", fn := fun _ => fun
  | [d] => { results := [.lit (.bool true)], args := [d] }
  | _ => none }
def semaPassesRow : OpenClaim := { program := "ytglbfmcbojjglaa", sum := "242abdc4df00b1c4ace079fca7aa3dfa594edaaac63bd0298bb9c829cb610f3d", func := "nacelle/nacellelaw25.SemaPasses", spec := "semaPasses", inPlace := ["slices.overlaps[nacelle/api.Waiter]"], unfollowed := true, recurses := true, apart := false }
def SemaPassesSaid : Prop := semaPassesRow.holds Try.pinned (OpenSpec.ofChange semaPassesSpec)

/-- ITS FALSE NEIGHBOUR: 'it returns false'. Refute it at one input. -/
def semaPassesWrong : ChangeSpec := { name := "semaPasses", fn := fun _ => fun
  | [d] => { results := [.lit (.bool false)], args := [d] }
  | _ => none }
def SemaPassesWrongFalsely : Prop := semaPassesRow.holds Try.pinned (OpenSpec.ofChange semaPassesWrong)

/-- 'nacellelaw25.SemaCounts': WHATEVER THE INPUT: true; the input reads as it did. -/
def semaCountsSpec : ChangeSpec := { name := "semaCounts", fn := fun _ => fun
  | [d1, d2, d3] => { results := [.lit (.bool true)], args := [d1, d2, d3] }
  | _ => none }
def semaCountsRow : OpenClaim := { program := "ytglbfmcbojjglaa", sum := "242abdc4df00b1c4ace079fca7aa3dfa594edaaac63bd0298bb9c829cb610f3d", func := "nacelle/nacellelaw25.SemaCounts", spec := "semaCounts", inPlace := ["slices.overlaps[nacelle/api.Waiter]"], unfollowed := true, recurses := true, apart := false }
def SemaCountsSaid : Prop := semaCountsRow.holds Try.pinned (OpenSpec.ofChange semaCountsSpec)

/-- ITS FALSE NEIGHBOUR: 'it returns false'. Refute it at one input. -/
def semaCountsWrong : ChangeSpec := { name := "semaCounts", fn := fun _ => fun
  | [d1, d2, d3] => { results := [.lit (.bool false)], args := [d1, d2, d3] }
  | _ => none }
def SemaCountsWrongFalsely : Prop := semaCountsRow.holds Try.pinned (OpenSpec.ofChange semaCountsWrong)

/-- 'nacellelaw25.SemaEvents': WHATEVER THE INPUT: true; the input reads as it did. -/
def semaEventsSpec : ChangeSpec := { name := "semaEvents", fn := fun _ => fun
  | [d1, d2, d3] => { results := [.lit (.bool true)], args := [d1, d2, d3] }
  | _ => none }
def semaEventsRow : OpenClaim := { program := "ytglbfmcbojjglaa", sum := "242abdc4df00b1c4ace079fca7aa3dfa594edaaac63bd0298bb9c829cb610f3d", func := "nacelle/nacellelaw25.SemaEvents", spec := "semaEvents", inPlace := ["slices.overlaps[nacelle/api.Waiter]"], unfollowed := true, recurses := true, apart := false }
def SemaEventsSaid : Prop := semaEventsRow.holds Try.pinned (OpenSpec.ofChange semaEventsSpec)

/-- ITS FALSE NEIGHBOUR: 'it returns false'. Refute it at one input. -/
def semaEventsWrong : ChangeSpec := { name := "semaEvents", fn := fun _ => fun
  | [d1, d2, d3] => { results := [.lit (.bool false)], args := [d1, d2, d3] }
  | _ => none }
def SemaEventsWrongFalsely : Prop := semaEventsRow.holds Try.pinned (OpenSpec.ofChange semaEventsWrong)

/-- 'nacellelaw25.SemaConserves': WHATEVER THE INPUT: true; the input reads as it did. -/
def semaConservesSpec : ChangeSpec := { name := "semaConserves", fn := fun _ => fun
  | [d1, d2] => { results := [.lit (.bool true)], args := [d1, d2] }
  | _ => none }
def semaConservesRow : OpenClaim := { program := "ytglbfmcbojjglaa", sum := "242abdc4df00b1c4ace079fca7aa3dfa594edaaac63bd0298bb9c829cb610f3d", func := "nacelle/nacellelaw25.SemaConserves", spec := "semaConserves", inPlace := ["slices.overlaps[nacelle/api.Waiter]"], unfollowed := true, recurses := true, apart := false }
def SemaConservesSaid : Prop := semaConservesRow.holds Try.pinned (OpenSpec.ofChange semaConservesSpec)

/-- ITS FALSE NEIGHBOUR: 'it returns false'. Refute it at one input. -/
def semaConservesWrong : ChangeSpec := { name := "semaConserves", fn := fun _ => fun
  | [d1, d2] => { results := [.lit (.bool false)], args := [d1, d2] }
  | _ => none }
def SemaConservesWrongFalsely : Prop := semaConservesRow.holds Try.pinned (OpenSpec.ofChange semaConservesWrong)

/-- 'nacellelaw25.SemaCancels': WHATEVER THE INPUT: true; the input reads as it did. -/
def semaCancelsSpec : ChangeSpec := { name := "semaCancels", fn := fun _ => fun
  | [d1, d2] => { results := [.lit (.bool true)], args := [d1, d2] }
  | _ => none }
def semaCancelsRow : OpenClaim := { program := "ytglbfmcbojjglaa", sum := "242abdc4df00b1c4ace079fca7aa3dfa594edaaac63bd0298bb9c829cb610f3d", func := "nacelle/nacellelaw25.SemaCancels", spec := "semaCancels", inPlace := ["slices.overlaps[nacelle/api.Waiter]"], unfollowed := true, recurses := true, apart := false }
def SemaCancelsSaid : Prop := semaCancelsRow.holds Try.pinned (OpenSpec.ofChange semaCancelsSpec)

/-- ITS FALSE NEIGHBOUR: 'it returns false'. Refute it at one input. -/
def semaCancelsWrong : ChangeSpec := { name := "semaCancels", fn := fun _ => fun
  | [d1, d2] => { results := [.lit (.bool false)], args := [d1, d2] }
  | _ => none }
def SemaCancelsWrongFalsely : Prop := semaCancelsRow.holds Try.pinned (OpenSpec.ofChange semaCancelsWrong)

/-- 'nacellelaw25.SemaWrong': WHATEVER THE INPUT: true; the input reads as it did. -/
def semaWrongSpec : ChangeSpec := { name := "semaWrong", fn := fun _ => fun
  | [d1, d2] => { results := [.lit (.bool true)], args := [d1, d2] }
  | _ => none }
def semaWrongRow : OpenClaim := { program := "ytglbfmcbojjglaa", sum := "242abdc4df00b1c4ace079fca7aa3dfa594edaaac63bd0298bb9c829cb610f3d", func := "nacelle/nacellelaw25.SemaWrong", spec := "semaWrong", inPlace := ["slices.overlaps[nacelle/api.Waiter]"], unfollowed := true, recurses := true, apart := false }
def SemaWrongSaid : Prop := semaWrongRow.holds Try.pinned (OpenSpec.ofChange semaWrongSpec)

/-- ITS FALSE NEIGHBOUR: 'it returns false'. Refute it at one input. -/
def semaWrongWrong : ChangeSpec := { name := "semaWrong", fn := fun _ => fun
  | [d1, d2] => { results := [.lit (.bool false)], args := [d1, d2] }
  | _ => none }
def SemaWrongWrongFalsely : Prop := semaWrongRow.holds Try.pinned (OpenSpec.ofChange semaWrongWrong)

/-- 'nacellelaw24.BoardWakes': WHATEVER THE INPUT: true; the input reads as it did. -/
def boardWakesSpec : ChangeSpec := { name := "boardWakes", fn := fun _ => fun
  | [d1, d2] => { results := [.lit (.bool true)], args := [d1, d2] }
  | _ => none }
def boardWakesRow : OpenClaim := { program := "ytglbfmcbojjglaa", sum := "242abdc4df00b1c4ace079fca7aa3dfa594edaaac63bd0298bb9c829cb610f3d", func := "nacelle/nacellelaw24.BoardWakes", spec := "boardWakes", inPlace := ["slices.overlaps[nacelle/api.Waiter]"], unfollowed := true, recurses := true, apart := false }
def BoardWakesSaid : Prop := boardWakesRow.holds Try.pinned (OpenSpec.ofChange boardWakesSpec)

/-- ITS FALSE NEIGHBOUR: 'it returns false'. Refute it at one input. -/
def boardWakesWrong : ChangeSpec := { name := "boardWakes", fn := fun _ => fun
  | [d1, d2] => { results := [.lit (.bool false)], args := [d1, d2] }
  | _ => none }
def BoardWakesWrongFalsely : Prop := boardWakesRow.holds Try.pinned (OpenSpec.ofChange boardWakesWrong)

/-- 'nacellelaw24.BoardShows': WHATEVER THE INPUT: true; the input reads as it did. -/
def boardShowsSpec : ChangeSpec := { name := "boardShows", fn := fun _ => fun
  | [d1, d2, d3] => { results := [.lit (.bool true)], args := [d1, d2, d3] }
  | _ => none }
def boardShowsRow : OpenClaim := { program := "ytglbfmcbojjglaa", sum := "242abdc4df00b1c4ace079fca7aa3dfa594edaaac63bd0298bb9c829cb610f3d", func := "nacelle/nacellelaw24.BoardShows", spec := "boardShows", inPlace := ["slices.overlaps[nacelle/api.Waiter]"], unfollowed := true, recurses := true, apart := false }
def BoardShowsSaid : Prop := boardShowsRow.holds Try.pinned (OpenSpec.ofChange boardShowsSpec)

/-- ITS FALSE NEIGHBOUR: 'it returns false'. Refute it at one input. -/
def boardShowsWrong : ChangeSpec := { name := "boardShows", fn := fun _ => fun
  | [d1, d2, d3] => { results := [.lit (.bool false)], args := [d1, d2, d3] }
  | _ => none }
def BoardShowsWrongFalsely : Prop := boardShowsRow.holds Try.pinned (OpenSpec.ofChange boardShowsWrong)

/-- 'nacellelaw24.BoardBuffers': WHATEVER THE INPUT: true; the input reads as it did. -/
def boardBuffersSpec : ChangeSpec := { name := "boardBuffers", fn := fun _ => fun
  | [d1, d2, d3, d4] => { results := [.lit (.bool true)], args := [d1, d2, d3, d4] }
  | _ => none }
def boardBuffersRow : OpenClaim := { program := "ytglbfmcbojjglaa", sum := "242abdc4df00b1c4ace079fca7aa3dfa594edaaac63bd0298bb9c829cb610f3d", func := "nacelle/nacellelaw24.BoardBuffers", spec := "boardBuffers", inPlace := ["slices.overlaps[nacelle/api.Waiter]"], unfollowed := true, recurses := true, apart := false }
def BoardBuffersSaid : Prop := boardBuffersRow.holds Try.pinned (OpenSpec.ofChange boardBuffersSpec)

/-- ITS FALSE NEIGHBOUR: 'it returns false'. Refute it at one input. -/
def boardBuffersWrong : ChangeSpec := { name := "boardBuffers", fn := fun _ => fun
  | [d1, d2, d3, d4] => { results := [.lit (.bool false)], args := [d1, d2, d3, d4] }
  | _ => none }
def BoardBuffersWrongFalsely : Prop := boardBuffersRow.holds Try.pinned (OpenSpec.ofChange boardBuffersWrong)

/-- 'nacellelaw24.BoardBoards': WHATEVER THE INPUT: true; the input reads as it did. -/
def boardBoardsSpec : ChangeSpec := { name := "boardBoards", fn := fun _ => fun
  | [d1, d2, d3, d4] => { results := [.lit (.bool true)], args := [d1, d2, d3, d4] }
  | _ => none }
def boardBoardsRow : OpenClaim := { program := "ytglbfmcbojjglaa", sum := "242abdc4df00b1c4ace079fca7aa3dfa594edaaac63bd0298bb9c829cb610f3d", func := "nacelle/nacellelaw24.BoardBoards", spec := "boardBoards", inPlace := ["slices.overlaps[nacelle/api.Waiter]"], unfollowed := true, recurses := true, apart := false }
def BoardBoardsSaid : Prop := boardBoardsRow.holds Try.pinned (OpenSpec.ofChange boardBoardsSpec)

/-- ITS FALSE NEIGHBOUR: 'it returns false'. Refute it at one input. -/
def boardBoardsWrong : ChangeSpec := { name := "boardBoards", fn := fun _ => fun
  | [d1, d2, d3, d4] => { results := [.lit (.bool false)], args := [d1, d2, d3, d4] }
  | _ => none }
def BoardBoardsWrongFalsely : Prop := boardBoardsRow.holds Try.pinned (OpenSpec.ofChange boardBoardsWrong)

/-- 'nacellelaw24.BoardConserves': WHATEVER THE INPUT: true; the input reads as it did. -/
def boardConservesSpec : ChangeSpec := { name := "boardConserves", fn := fun _ => fun
  | [d1, d2] => { results := [.lit (.bool true)], args := [d1, d2] }
  | _ => none }
def boardConservesRow : OpenClaim := { program := "ytglbfmcbojjglaa", sum := "242abdc4df00b1c4ace079fca7aa3dfa594edaaac63bd0298bb9c829cb610f3d", func := "nacelle/nacellelaw24.BoardConserves", spec := "boardConserves", inPlace := ["slices.overlaps[nacelle/api.Waiter]"], unfollowed := true, recurses := true, apart := false }
def BoardConservesSaid : Prop := boardConservesRow.holds Try.pinned (OpenSpec.ofChange boardConservesSpec)

/-- ITS FALSE NEIGHBOUR: 'it returns false'. Refute it at one input. -/
def boardConservesWrong : ChangeSpec := { name := "boardConserves", fn := fun _ => fun
  | [d1, d2] => { results := [.lit (.bool false)], args := [d1, d2] }
  | _ => none }
def BoardConservesWrongFalsely : Prop := boardConservesRow.holds Try.pinned (OpenSpec.ofChange boardConservesWrong)

/-- 'nacellelaw24.BoardCancels': WHATEVER THE INPUT: true; the input reads as it did. -/
def boardCancelsSpec : ChangeSpec := { name := "boardCancels", fn := fun _ => fun
  | [d1, d2] => { results := [.lit (.bool true)], args := [d1, d2] }
  | _ => none }
def boardCancelsRow : OpenClaim := { program := "ytglbfmcbojjglaa", sum := "242abdc4df00b1c4ace079fca7aa3dfa594edaaac63bd0298bb9c829cb610f3d", func := "nacelle/nacellelaw24.BoardCancels", spec := "boardCancels", inPlace := ["slices.overlaps[nacelle/api.Waiter]"], unfollowed := true, recurses := true, apart := false }
def BoardCancelsSaid : Prop := boardCancelsRow.holds Try.pinned (OpenSpec.ofChange boardCancelsSpec)

/-- ITS FALSE NEIGHBOUR: 'it returns false'. Refute it at one input. -/
def boardCancelsWrong : ChangeSpec := { name := "boardCancels", fn := fun _ => fun
  | [d1, d2] => { results := [.lit (.bool false)], args := [d1, d2] }
  | _ => none }
def BoardCancelsWrongFalsely : Prop := boardCancelsRow.holds Try.pinned (OpenSpec.ofChange boardCancelsWrong)

/-- 'nacellelaw24.BoardWrong': WHATEVER THE INPUT: true; the input reads as it did. -/
def boardWrongSpec : ChangeSpec := { name := "boardWrong", fn := fun _ => fun
  | [d1, d2] => { results := [.lit (.bool true)], args := [d1, d2] }
  | _ => none }
def boardWrongRow : OpenClaim := { program := "ytglbfmcbojjglaa", sum := "242abdc4df00b1c4ace079fca7aa3dfa594edaaac63bd0298bb9c829cb610f3d", func := "nacelle/nacellelaw24.BoardWrong", spec := "boardWrong", inPlace := ["slices.overlaps[nacelle/api.Waiter]"], unfollowed := true, recurses := true, apart := false }
def BoardWrongSaid : Prop := boardWrongRow.holds Try.pinned (OpenSpec.ofChange boardWrongSpec)

/-- ITS FALSE NEIGHBOUR: 'it returns false'. Refute it at one input. -/
def boardWrongWrong : ChangeSpec := { name := "boardWrong", fn := fun _ => fun
  | [d1, d2] => { results := [.lit (.bool false)], args := [d1, d2] }
  | _ => none }
def BoardWrongWrongFalsely : Prop := boardWrongRow.holds Try.pinned (OpenSpec.ofChange boardWrongWrong)

/- THE SECOND FORM. 'bulk': how many values and letters a reading holds, each counted each time it is reached (what is shared counts as often as it is met; a slice's spare places count too). A statement '..UptoSaid' is the law's where the arguments, and the package variables that the reading takes, are together of bulk at most 1048576: NARROWER than '..Said'. Prove '..Said' where nothing that the law and all that it calls make is longer than what came in: it says more and counts as full. Else prove '..UptoSaid'. A law counts once. -/
mutual
def uptoBulk {H : Type} : DataW H → Nat
  | .lit (.string bytes) => bytes.length + 1
  | .lit _ => 1
  | .nil => 1
  | .ptr d => uptoBulk d + 1
  | .slice elems spare => uptoBulkAll elems + uptoBulkAll spare + 1
  | .agg parts => uptoBulkAll parts + 1
  | .iface _ d => uptoBulk d + 1
  | .map entries => uptoBulkEntries entries + 1
  | .held _ => 1
def uptoBulkAll {H : Type} : List (DataW H) → Nat
  | [] => 0
  | d :: r => uptoBulk d + uptoBulkAll r
def uptoBulkEntries {H : Type} : List (Lit × DataW H) → Nat
  | [] => 0
  | x :: r => uptoBulkEntry x + uptoBulkEntries r
def uptoBulkEntry {H : Type} : Lit × DataW H → Nat
  | (.string bytes, d) => bytes.length + uptoBulk d + 1
  | (_, d) => uptoBulk d + 1
 end
def uptoSmall : (H : Type) → List (DataW H) → Bool := fun _ ds => decide (uptoBulkAll ds ≤ 1048576)
def OpenSpec.upto (s : _root_.Go.ChangeSpec) : _root_.Go.OpenSpec := { _root_.Go.OpenSpec.ofChange s with cond := some uptoSmall }

/-- 'nacellelaw23.QueuingTells', WHERE WHAT IT READS IS OF BULK AT MOST 1048576: true; the input reads as it did. -/
def queuingTellsUptoRow : OpenClaim := { program := "ytglbfmcbojjglaa", sum := "242abdc4df00b1c4ace079fca7aa3dfa594edaaac63bd0298bb9c829cb610f3d", func := "nacelle/nacellelaw23.QueuingTells", spec := "queuingTells", inPlace := ["slices.overlaps[nacelle/api.Waiter]"], unfollowed := true, recurses := true, apart := false, narrowed := true }
def QueuingTellsUptoSaid : Prop := queuingTellsUptoRow.holds Try.pinned (OpenSpec.upto queuingTellsSpec)

/-- 'nacellelaw23.QueuingLists', WHERE WHAT IT READS IS OF BULK AT MOST 1048576: true; the input reads as it did. -/
def queuingListsUptoRow : OpenClaim := { program := "ytglbfmcbojjglaa", sum := "242abdc4df00b1c4ace079fca7aa3dfa594edaaac63bd0298bb9c829cb610f3d", func := "nacelle/nacellelaw23.QueuingLists", spec := "queuingLists", inPlace := ["slices.overlaps[nacelle/api.Waiter]"], unfollowed := true, recurses := true, apart := false, narrowed := true }
def QueuingListsUptoSaid : Prop := queuingListsUptoRow.holds Try.pinned (OpenSpec.upto queuingListsSpec)

/-- 'nacellelaw23.QueuingFifo', WHERE WHAT IT READS IS OF BULK AT MOST 1048576: true; the input reads as it did. -/
def queuingFifoUptoRow : OpenClaim := { program := "ytglbfmcbojjglaa", sum := "242abdc4df00b1c4ace079fca7aa3dfa594edaaac63bd0298bb9c829cb610f3d", func := "nacelle/nacellelaw23.QueuingFifo", spec := "queuingFifo", inPlace := ["slices.overlaps[nacelle/api.Waiter]"], unfollowed := true, recurses := true, apart := false, narrowed := true }
def QueuingFifoUptoSaid : Prop := queuingFifoUptoRow.holds Try.pinned (OpenSpec.upto queuingFifoSpec)

/-- 'nacellelaw23.QueuingWakes', WHERE WHAT IT READS IS OF BULK AT MOST 1048576: true; the input reads as it did. -/
def queuingWakesUptoRow : OpenClaim := { program := "ytglbfmcbojjglaa", sum := "242abdc4df00b1c4ace079fca7aa3dfa594edaaac63bd0298bb9c829cb610f3d", func := "nacelle/nacellelaw23.QueuingWakes", spec := "queuingWakes", inPlace := ["slices.overlaps[nacelle/api.Waiter]"], unfollowed := true, recurses := true, apart := false, narrowed := true }
def QueuingWakesUptoSaid : Prop := queuingWakesUptoRow.holds Try.pinned (OpenSpec.upto queuingWakesSpec)

/-- 'nacellelaw23.QueuingBounds', WHERE WHAT IT READS IS OF BULK AT MOST 1048576: true; the input reads as it did. -/
def queuingBoundsUptoRow : OpenClaim := { program := "ytglbfmcbojjglaa", sum := "242abdc4df00b1c4ace079fca7aa3dfa594edaaac63bd0298bb9c829cb610f3d", func := "nacelle/nacellelaw23.QueuingBounds", spec := "queuingBounds", inPlace := ["slices.overlaps[nacelle/api.Waiter]"], unfollowed := true, recurses := true, apart := false, narrowed := true }
def QueuingBoundsUptoSaid : Prop := queuingBoundsUptoRow.holds Try.pinned (OpenSpec.upto queuingBoundsSpec)

/-- 'nacellelaw23.QueuingOrder', WHERE WHAT IT READS IS OF BULK AT MOST 1048576: true; the input reads as it did. -/
def queuingOrderUptoRow : OpenClaim := { program := "ytglbfmcbojjglaa", sum := "242abdc4df00b1c4ace079fca7aa3dfa594edaaac63bd0298bb9c829cb610f3d", func := "nacelle/nacellelaw23.QueuingOrder", spec := "queuingOrder", inPlace := ["slices.overlaps[nacelle/api.Waiter]"], unfollowed := true, recurses := true, apart := false, narrowed := true }
def QueuingOrderUptoSaid : Prop := queuingOrderUptoRow.holds Try.pinned (OpenSpec.upto queuingOrderSpec)

/-- 'nacellelaw23.QueuingWrong', WHERE WHAT IT READS IS OF BULK AT MOST 1048576: true; the input reads as it did. -/
def queuingWrongUptoRow : OpenClaim := { program := "ytglbfmcbojjglaa", sum := "242abdc4df00b1c4ace079fca7aa3dfa594edaaac63bd0298bb9c829cb610f3d", func := "nacelle/nacellelaw23.QueuingWrong", spec := "queuingWrong", inPlace := ["slices.overlaps[nacelle/api.Waiter]"], unfollowed := true, recurses := true, apart := false, narrowed := true }
def QueuingWrongUptoSaid : Prop := queuingWrongUptoRow.holds Try.pinned (OpenSpec.upto queuingWrongSpec)

/-- 'nacellelaw25.SemaWakes', WHERE WHAT IT READS IS OF BULK AT MOST 1048576: true; the input reads as it did. -/
def semaWakesUptoRow : OpenClaim := { program := "ytglbfmcbojjglaa", sum := "242abdc4df00b1c4ace079fca7aa3dfa594edaaac63bd0298bb9c829cb610f3d", func := "nacelle/nacellelaw25.SemaWakes", spec := "semaWakes", inPlace := ["slices.overlaps[nacelle/api.Waiter]"], unfollowed := true, recurses := true, apart := false, narrowed := true }
def SemaWakesUptoSaid : Prop := semaWakesUptoRow.holds Try.pinned (OpenSpec.upto semaWakesSpec)

/-- 'nacellelaw25.SemaPasses', WHERE WHAT IT READS IS OF BULK AT MOST 1048576: true; the input reads as it did. -/
def semaPassesUptoRow : OpenClaim := { program := "ytglbfmcbojjglaa", sum := "242abdc4df00b1c4ace079fca7aa3dfa594edaaac63bd0298bb9c829cb610f3d", func := "nacelle/nacellelaw25.SemaPasses", spec := "semaPasses", inPlace := ["slices.overlaps[nacelle/api.Waiter]"], unfollowed := true, recurses := true, apart := false, narrowed := true }
def SemaPassesUptoSaid : Prop := semaPassesUptoRow.holds Try.pinned (OpenSpec.upto semaPassesSpec)

/-- 'nacellelaw25.SemaCounts', WHERE WHAT IT READS IS OF BULK AT MOST 1048576: true; the input reads as it did. -/
def semaCountsUptoRow : OpenClaim := { program := "ytglbfmcbojjglaa", sum := "242abdc4df00b1c4ace079fca7aa3dfa594edaaac63bd0298bb9c829cb610f3d", func := "nacelle/nacellelaw25.SemaCounts", spec := "semaCounts", inPlace := ["slices.overlaps[nacelle/api.Waiter]"], unfollowed := true, recurses := true, apart := false, narrowed := true }
def SemaCountsUptoSaid : Prop := semaCountsUptoRow.holds Try.pinned (OpenSpec.upto semaCountsSpec)

/-- 'nacellelaw25.SemaEvents', WHERE WHAT IT READS IS OF BULK AT MOST 1048576: true; the input reads as it did. -/
def semaEventsUptoRow : OpenClaim := { program := "ytglbfmcbojjglaa", sum := "242abdc4df00b1c4ace079fca7aa3dfa594edaaac63bd0298bb9c829cb610f3d", func := "nacelle/nacellelaw25.SemaEvents", spec := "semaEvents", inPlace := ["slices.overlaps[nacelle/api.Waiter]"], unfollowed := true, recurses := true, apart := false, narrowed := true }
def SemaEventsUptoSaid : Prop := semaEventsUptoRow.holds Try.pinned (OpenSpec.upto semaEventsSpec)

/-- 'nacellelaw25.SemaConserves', WHERE WHAT IT READS IS OF BULK AT MOST 1048576: true; the input reads as it did. -/
def semaConservesUptoRow : OpenClaim := { program := "ytglbfmcbojjglaa", sum := "242abdc4df00b1c4ace079fca7aa3dfa594edaaac63bd0298bb9c829cb610f3d", func := "nacelle/nacellelaw25.SemaConserves", spec := "semaConserves", inPlace := ["slices.overlaps[nacelle/api.Waiter]"], unfollowed := true, recurses := true, apart := false, narrowed := true }
def SemaConservesUptoSaid : Prop := semaConservesUptoRow.holds Try.pinned (OpenSpec.upto semaConservesSpec)

/-- 'nacellelaw25.SemaCancels', WHERE WHAT IT READS IS OF BULK AT MOST 1048576: true; the input reads as it did. -/
def semaCancelsUptoRow : OpenClaim := { program := "ytglbfmcbojjglaa", sum := "242abdc4df00b1c4ace079fca7aa3dfa594edaaac63bd0298bb9c829cb610f3d", func := "nacelle/nacellelaw25.SemaCancels", spec := "semaCancels", inPlace := ["slices.overlaps[nacelle/api.Waiter]"], unfollowed := true, recurses := true, apart := false, narrowed := true }
def SemaCancelsUptoSaid : Prop := semaCancelsUptoRow.holds Try.pinned (OpenSpec.upto semaCancelsSpec)

/-- 'nacellelaw25.SemaWrong', WHERE WHAT IT READS IS OF BULK AT MOST 1048576: true; the input reads as it did. -/
def semaWrongUptoRow : OpenClaim := { program := "ytglbfmcbojjglaa", sum := "242abdc4df00b1c4ace079fca7aa3dfa594edaaac63bd0298bb9c829cb610f3d", func := "nacelle/nacellelaw25.SemaWrong", spec := "semaWrong", inPlace := ["slices.overlaps[nacelle/api.Waiter]"], unfollowed := true, recurses := true, apart := false, narrowed := true }
def SemaWrongUptoSaid : Prop := semaWrongUptoRow.holds Try.pinned (OpenSpec.upto semaWrongSpec)

/-- 'nacellelaw24.BoardWakes', WHERE WHAT IT READS IS OF BULK AT MOST 1048576: true; the input reads as it did. -/
def boardWakesUptoRow : OpenClaim := { program := "ytglbfmcbojjglaa", sum := "242abdc4df00b1c4ace079fca7aa3dfa594edaaac63bd0298bb9c829cb610f3d", func := "nacelle/nacellelaw24.BoardWakes", spec := "boardWakes", inPlace := ["slices.overlaps[nacelle/api.Waiter]"], unfollowed := true, recurses := true, apart := false, narrowed := true }
def BoardWakesUptoSaid : Prop := boardWakesUptoRow.holds Try.pinned (OpenSpec.upto boardWakesSpec)

/-- 'nacellelaw24.BoardShows', WHERE WHAT IT READS IS OF BULK AT MOST 1048576: true; the input reads as it did. -/
def boardShowsUptoRow : OpenClaim := { program := "ytglbfmcbojjglaa", sum := "242abdc4df00b1c4ace079fca7aa3dfa594edaaac63bd0298bb9c829cb610f3d", func := "nacelle/nacellelaw24.BoardShows", spec := "boardShows", inPlace := ["slices.overlaps[nacelle/api.Waiter]"], unfollowed := true, recurses := true, apart := false, narrowed := true }
def BoardShowsUptoSaid : Prop := boardShowsUptoRow.holds Try.pinned (OpenSpec.upto boardShowsSpec)

/-- 'nacellelaw24.BoardBuffers', WHERE WHAT IT READS IS OF BULK AT MOST 1048576: true; the input reads as it did. -/
def boardBuffersUptoRow : OpenClaim := { program := "ytglbfmcbojjglaa", sum := "242abdc4df00b1c4ace079fca7aa3dfa594edaaac63bd0298bb9c829cb610f3d", func := "nacelle/nacellelaw24.BoardBuffers", spec := "boardBuffers", inPlace := ["slices.overlaps[nacelle/api.Waiter]"], unfollowed := true, recurses := true, apart := false, narrowed := true }
def BoardBuffersUptoSaid : Prop := boardBuffersUptoRow.holds Try.pinned (OpenSpec.upto boardBuffersSpec)

/-- 'nacellelaw24.BoardBoards', WHERE WHAT IT READS IS OF BULK AT MOST 1048576: true; the input reads as it did. -/
def boardBoardsUptoRow : OpenClaim := { program := "ytglbfmcbojjglaa", sum := "242abdc4df00b1c4ace079fca7aa3dfa594edaaac63bd0298bb9c829cb610f3d", func := "nacelle/nacellelaw24.BoardBoards", spec := "boardBoards", inPlace := ["slices.overlaps[nacelle/api.Waiter]"], unfollowed := true, recurses := true, apart := false, narrowed := true }
def BoardBoardsUptoSaid : Prop := boardBoardsUptoRow.holds Try.pinned (OpenSpec.upto boardBoardsSpec)

/-- 'nacellelaw24.BoardConserves', WHERE WHAT IT READS IS OF BULK AT MOST 1048576: true; the input reads as it did. -/
def boardConservesUptoRow : OpenClaim := { program := "ytglbfmcbojjglaa", sum := "242abdc4df00b1c4ace079fca7aa3dfa594edaaac63bd0298bb9c829cb610f3d", func := "nacelle/nacellelaw24.BoardConserves", spec := "boardConserves", inPlace := ["slices.overlaps[nacelle/api.Waiter]"], unfollowed := true, recurses := true, apart := false, narrowed := true }
def BoardConservesUptoSaid : Prop := boardConservesUptoRow.holds Try.pinned (OpenSpec.upto boardConservesSpec)

/-- 'nacellelaw24.BoardCancels', WHERE WHAT IT READS IS OF BULK AT MOST 1048576: true; the input reads as it did. -/
def boardCancelsUptoRow : OpenClaim := { program := "ytglbfmcbojjglaa", sum := "242abdc4df00b1c4ace079fca7aa3dfa594edaaac63bd0298bb9c829cb610f3d", func := "nacelle/nacellelaw24.BoardCancels", spec := "boardCancels", inPlace := ["slices.overlaps[nacelle/api.Waiter]"], unfollowed := true, recurses := true, apart := false, narrowed := true }
def BoardCancelsUptoSaid : Prop := boardCancelsUptoRow.holds Try.pinned (OpenSpec.upto boardCancelsSpec)

/-- 'nacellelaw24.BoardWrong', WHERE WHAT IT READS IS OF BULK AT MOST 1048576: true; the input reads as it did. -/
def boardWrongUptoRow : OpenClaim := { program := "ytglbfmcbojjglaa", sum := "242abdc4df00b1c4ace079fca7aa3dfa594edaaac63bd0298bb9c829cb610f3d", func := "nacelle/nacellelaw24.BoardWrong", spec := "boardWrong", inPlace := ["slices.overlaps[nacelle/api.Waiter]"], unfollowed := true, recurses := true, apart := false, narrowed := true }
def BoardWrongUptoSaid : Prop := boardWrongUptoRow.holds Try.pinned (OpenSpec.upto boardWrongSpec)

end Rows
end Go.Proofs.Ytglbfmcbojjglaa
