/-
  What is listed is tied to the program's text: each closed fact by itself. Conditions: none.
-/
import Derived.Test.YtlomlmbbiopaaaaGreatDoorRows
import Derived.LaidByTextLater
import Derived.SevenTiedAt
namespace Go.Proofs.YtlomlmbbiopaaaaGreatDoor
open Go
set_option maxRecDepth 100000
abbrev tieL : List (String × DataW Unit) := [("ratchet/sha.table", Rows.laid_ratchet_sha_table), ("strconv.ErrSyntax", Rows.laid_strconv_ErrSyntax), ("strconv.ErrRange", Rows.laid_strconv_ErrRange), ("internal/strconv.uint64pow10", Rows.laid_internal_strconv_uint64pow10), ("math/bits.deBruijn32tab", Rows.laid_math_bits_deBruijn32tab), ("math/bits.deBruijn64tab", Rows.laid_math_bits_deBruijn64tab)]
theorem tw1 : Tryz.prog.worded (varsWordLater true) = true := by kernel_rfl
theorem tw2 : Tryz.prog.worded (varsWordLater !true) = false := by kernel_rfl
theorem tw3 : Tryz.prog.worded rootWordLater = true := by kernel_rfl
theorem tw4 : tieL.map (fun x => Tryz.prog.kindOfLater x.1) = ([.data, .sentinel, .sentinel, .data, .data, .data] : List LaidKind).map some := by kernel_rfl
theorem tw5 : (Tryz.prog.funcNamed "gosem.cut.vars").isSome = true := by kernel_rfl
theorem tw6 : varsNamedLaterB Tryz.prog (varsId Tryz.prog) tieL = true := by kernel_rfl
theorem tw7 : ∀ os tape, varsDone Tryz.prog 67 (varsId Tryz.prog) os tape = true := fun _ _ => by kernel_rfl
theorem tw8 : ∀ os tape, (DataW.laidRun Tryz.prog (varsWorld Tryz.prog 67 (varsId Tryz.prog) os tape).memory 8 (tieL.map (·.1))).map (·.1) = some tieL := fun _ _ => by kernel_rfl
theorem tw9 : ∀ os tape, (DataW.laidRun Tryz.prog (varsWorld Tryz.prog 67 (varsId Tryz.prog) os tape).memory 8 (tieL.map (·.1))).map (fun x => decide x.2.Nodup && laidRowsB Tryz.prog (varsWorld Tryz.prog 67 (varsId Tryz.prog) os tape).memory x.2) = some true := fun _ _ => by kernel_rfl
theorem tie : Tryz.prog.laidByTextLater tieL [.data, .sentinel, .sentinel, .data, .data, .data] true :=
  Program.laidByTextLater_by_run 67 8 tw1 tw2 tw3 tw4 tw5 tw6 tw7 tw8 tw9
theorem noOwnUnsafe : Tryz.pinned.checked.prog.headLifts.contains "ownunsafe" = false := by kernel_rfl
theorem traceRaw_row_tie : Rows.traceRawRow.laidByTextAt .later Tryz.pinned [.data, .sentinel, .sentinel, .data, .data, .data] true :=
  OpenClaim.laidByTextAt_later rfl rfl tie noOwnUnsafe
theorem traceRawUpto_row_tie : Rows.traceRawUptoRow.laidByTextAt .later Tryz.pinned [.data, .sentinel, .sentinel, .data, .data, .data] true :=
  OpenClaim.laidByTextAt_later rfl rfl tie noOwnUnsafe
end Go.Proofs.YtlomlmbbiopaaaaGreatDoor
