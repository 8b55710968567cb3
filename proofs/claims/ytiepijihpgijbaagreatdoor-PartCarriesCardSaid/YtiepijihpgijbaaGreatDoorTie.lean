/-
  DERIVED. GIVEN WITH THE SEED: THE PROGRAM's TIES (one call each: nine closed facts by the kernel) AND EACH ROW's TIE, after the 31st guide's Derived/Test/Toyas{Tie, Card}.lean. No idea stands in it: it is a product of the set-up. Laid BY PROGRAM, IN A SANDBOX (cutbox-door.mjs). By AI agents, Wed Nov 11 2026. No macro, syntax, notation, axiom, sorry.
-/
import Derived.Test.YtiepijihpgijbaaGreatDoorRows
import Derived.LaidByTextLater
import Derived.SevenTiedAt
import Derived.LaidSub
import Derived.LaidOnce
namespace Go.Proofs.YtiepijihpgijbaaGreatDoor
open Go
set_option maxRecDepth 100000
theorem seatTie1 : Tryz.prog.laidByTextLater [("math/bits.deBruijn32tab", Rows.laid_math_bits_deBruijn32tab), ("math/bits.deBruijn64tab", Rows.laid_math_bits_deBruijn64tab), ("internal/strconv.uint64pow10", Rows.laid_internal_strconv_uint64pow10), ("nacelle/proc.operands", Rows.laid_nacelle_proc_operands), ("nacelle/proc.instructions", Rows.laid_nacelle_proc_instructions), ("unicode.White_Space", Rows.laid_unicode_White_Space), ("strings.asciiSpace", Rows.laid_strings_asciiSpace), ("nacelle/part.dormant", Rows.laid_nacelle_part_dormant)] [.data, .data, .data, .data, .funcs, .listed, .data, .data] true :=
  Program.laidByTextLater_by_one 88 8 257 (by kernel_rfl) (by kernel_rfl) (by kernel_rfl) (by kernel_rfl) (by kernel_rfl) (by kernel_rfl) (fun _ _ => by kernel_rfl)
theorem noOwnUnsafe : Tryz.pinned.checked.prog.headLifts.contains "ownunsafe" = false := by kernel_rfl
theorem tie : Tryz.prog.laidByTextLater [("math/bits.deBruijn32tab", Rows.laid_math_bits_deBruijn32tab), ("math/bits.deBruijn64tab", Rows.laid_math_bits_deBruijn64tab), ("internal/strconv.uint64pow10", Rows.laid_internal_strconv_uint64pow10), ("nacelle/proc.operands", Rows.laid_nacelle_proc_operands), ("nacelle/proc.instructions", Rows.laid_nacelle_proc_instructions), ("unicode.White_Space", Rows.laid_unicode_White_Space), ("strings.asciiSpace", Rows.laid_strings_asciiSpace), ("nacelle/part.dormant", Rows.laid_nacelle_part_dormant)] [.data, .data, .data, .data, .funcs, .listed, .data, .data] true :=
  Program.laidByTextLater.sub seatTie1 ["math/bits.deBruijn32tab", "math/bits.deBruijn64tab", "internal/strconv.uint64pow10", "nacelle/proc.operands", "nacelle/proc.instructions", "unicode.White_Space", "strings.asciiSpace", "nacelle/part.dormant"] (by kernel_rfl) (by kernel_rfl)
theorem partPicks_row_tie : Rows.partPicksRow.laidByTextAt .later Tryz.pinned [.data, .data, .data, .data, .funcs, .listed, .data, .data] true :=
  OpenClaim.laidByTextAt_later rfl rfl tie noOwnUnsafe
theorem partOthers_row_tie : Rows.partOthersRow.laidByTextAt .later Tryz.pinned [.data, .data, .data, .data, .funcs, .listed, .data, .data] true :=
  OpenClaim.laidByTextAt_later rfl rfl tie noOwnUnsafe
theorem partSame_row_tie : Rows.partSameRow.laidByTextAt .later Tryz.pinned [.data, .data, .data, .data, .funcs, .listed, .data, .data] true :=
  OpenClaim.laidByTextAt_later rfl rfl tie noOwnUnsafe
theorem partAnew_row_tie : Rows.partAnewRow.laidByTextAt .later Tryz.pinned [.data, .data, .data, .data, .funcs, .listed, .data, .data] true :=
  OpenClaim.laidByTextAt_later rfl rfl tie noOwnUnsafe
theorem partCarries_row_tie : Rows.partCarriesRow.laidByTextAt .later Tryz.pinned [.data, .data, .data, .data, .funcs, .listed, .data, .data] true :=
  OpenClaim.laidByTextAt_later rfl rfl tie noOwnUnsafe
theorem partPicksUpto_row_tie : Rows.partPicksUptoRow.laidByTextAt .later Tryz.pinned [.data, .data, .data, .data, .funcs, .listed, .data, .data] true :=
  OpenClaim.laidByTextAt_later rfl rfl tie noOwnUnsafe
theorem partOthersUpto_row_tie : Rows.partOthersUptoRow.laidByTextAt .later Tryz.pinned [.data, .data, .data, .data, .funcs, .listed, .data, .data] true :=
  OpenClaim.laidByTextAt_later rfl rfl tie noOwnUnsafe
theorem partSameUpto_row_tie : Rows.partSameUptoRow.laidByTextAt .later Tryz.pinned [.data, .data, .data, .data, .funcs, .listed, .data, .data] true :=
  OpenClaim.laidByTextAt_later rfl rfl tie noOwnUnsafe
theorem partAnewUpto_row_tie : Rows.partAnewUptoRow.laidByTextAt .later Tryz.pinned [.data, .data, .data, .data, .funcs, .listed, .data, .data] true :=
  OpenClaim.laidByTextAt_later rfl rfl tie noOwnUnsafe
theorem partCarriesUpto_row_tie : Rows.partCarriesUptoRow.laidByTextAt .later Tryz.pinned [.data, .data, .data, .data, .funcs, .listed, .data, .data] true :=
  OpenClaim.laidByTextAt_later rfl rfl tie noOwnUnsafe
end Go.Proofs.YtiepijihpgijbaaGreatDoor
