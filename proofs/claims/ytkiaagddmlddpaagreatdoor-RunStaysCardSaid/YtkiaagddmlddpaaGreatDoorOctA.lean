/-
  Bytes: Clone. Conditions: none beside each theorem's own.
-/
import Derived.Test.YtkiaagddmlddpaaGreatDoorProg
import Derived.Test.YtkiaagddmlddpaaGreatDoorSxT
import Derived.Test.YtkiaagddmlddpaaGreatDoorSxU
namespace Go.Proofs.YtkiaagddmlddpaaGreatDoor
open Go.RowKit Go.Sx
set_option linter.unusedVariables false
set_option linter.unusedSimpArgs false
set_option linter.unnecessarySimpa false
set_option maxRecDepth 100000
def byteC (n : Int) : Array Value := #[.int .u8 n]
theorem byteF : CellF byteC 1 := ⟨fun _ => rfl, fun _ => rfl⟩
theorem bytesOK : ElemOK Tryz.prog 23 5 1 1 := ⟨by kernel_rfl, ⟨Tryz.t5, .int .u8 0, by kernel_rfl, by kernel_rfl, by kernel_rfl, by kernel_rfl, by kernel_rfl⟩, by decide⟩
theorem cloneS_spec {w0 w : World} {L : List Asn} {b : Nat} {c : Nat} (l : List Int) (hl : l.length ≤ 1000000000000) (hs : St w0 ((Sl (some ⟨b, 0, none⟩) c 5 1 byteC l) :: L) w) : Calls Tryz.prog 52 #[.slice (some ⟨b, 0, none⟩) l.length c] w (Ret fun rv w' => ∃ (ao : Option Addr) (co : Nat), rv = .slice ao l.length co ∧ St w0 ((Sl ao co 5 1 byteC l) :: (Sl (some ⟨b, 0, none⟩) c 5 1 byteC l) :: L) w') := by
  refine enter (args := [.slice (some ⟨b, 0, none⟩) l.length c]) Tryz.func52 rfl Tryz.ntmps52 (Nat.le_of_ble_eq_true (by kernel_rfl)) ?_
  refine GoC.slots (S' := [(0, .slice (some ⟨b, 0, none⟩) l.length c)]) rfl ?_
  refine GoC.seq ?_
  refine GoC.regT [1] (.rd 0 .done) (by kernel_rfl) (by kernel_rfl) ?_
  refine GoR.phaseK [(0, .gen [])] [2, 0] [] [(2, .slice none 0 0), (0, .slice (some ⟨b, 0, none⟩) l.length c)] (by kernel_rfl) rfl ak0 ?_
  refine GoR.done (GoQ.thn (GoC.seq (GoC.seq ?_)))
  refine GoC.regT [3, 3] (.rd 0 (.rd 1 .done)) (by kernel_rfl) (by kernel_rfl) ?_
  refine GoR.phaseK [(0, .gen []), (1, .gen [])] [4, 2, 0] [] [(4, .bool false), (2, .slice none 0 0), (0, .slice (some ⟨b, 0, none⟩) l.length c)] (by kernel_rfl) rfl ak0 ?_
  refine GoR.done (GoQ.thn (GoC.condF (by kernel_rfl) (GoC.skip (GoQ.thn (GoC.seq ?_)))))
  refine GoC.regT [15, 15, 15, 15] (.ef 0 (.rd 1 (.ef 2 (.rd 3 .done)))) (by kernel_rfl) (by kernel_rfl) ?_
  refine GoR.sliceLit0 rfl (by kernel_rfl) (t := 23) (e := 5) (by kernel_rfl) (by kernel_rfl) (ti := Tryz.t5) (by kernel_rfl) hs ?_
  intro b1 w2 hs3 hz4
  have hs5 : St w0 ((Sl (some ⟨b1, 0, none⟩) 0 5 1 byteC ([] : List Int)) :: (Sl (some ⟨b, 0, none⟩) c 5 1 byteC l) :: L) w2 := St.slOf (l := ([] : List Int)) (f := byteC) hs3 hz4 (byteF).size (by simp only [List.length_cons, List.length_nil, maxLen]; omega) (by kernel_rfl)
  refine ⟨(opn (by kernel_rfl)), ?_⟩
  refine GoR.phaseK [(1, .gen [])] [6, 5, 2] [] [(6, .slice (some ⟨b, 0, none⟩) l.length c), (5, .slice (some ⟨b1, 0, none⟩) 0 0), (2, .slice none 0 0)] (by kernel_rfl) rfl ak0 ?_
  refine GoR.append rfl (by kernel_rfl) bytesOK byteF (ad := some ⟨b1, 0, none⟩) (c := 0) (xs := ([] : List Int)) (ys := l) (adx := some ⟨b, 0, none⟩) (cx := c) (0 : Int) (by kernel_rfl) hs5 (hs5.rows 1 rfl (byteF).size (0 : Int)) (fun h => nomatch h) (by simp only [List.length_append, List.length_cons, List.length_nil, List.length_map] at *; omega) (by simp only [List.length_append, List.length_cons, List.length_nil, List.length_map] at *; omega) ?_
  intro ad8 c9 w6 hs7
  refine ⟨(opn (by kernel_rfl)), ?_⟩
  refine GoR.phaseK [(3, .gen [])] [2] [] [(2, .slice ad8 ((l).length) c9)] (by kernel_rfl) rfl ak0 ?_
  refine GoR.done (GoQ.thn (GoC.ret ?_))
  refine GoQ.done (.inl rfl) (v := .slice ad8 ((l).length) c9) (fun a hf => results1 rfl (by kernel_rfl) a hf) ?_
  exact ⟨ad8, c9, (by simp), hs7⟩
theorem cloneN_spec {w0 w : World} {L : List Asn} (hs : St w0 (L) w) : Calls Tryz.prog 52 #[.slice none 0 0] w (Ret fun rv w' => rv = .slice none 0 0 ∧ St w0 (L) w') := by
  refine enter (args := [.slice none 0 0]) Tryz.func52 rfl Tryz.ntmps52 (Nat.le_of_ble_eq_true (by kernel_rfl)) ?_
  refine GoC.slots (S' := [(0, .slice none 0 0)]) rfl ?_
  refine GoC.seq ?_
  refine GoC.regT [1] (.rd 0 .done) (by kernel_rfl) (by kernel_rfl) ?_
  refine GoR.phaseK [(0, .gen [])] [2, 0] [] [(2, .slice none 0 0), (0, .slice none 0 0)] (by kernel_rfl) rfl ak0 ?_
  refine GoR.done (GoQ.thn (GoC.seq (GoC.seq ?_)))
  refine GoC.regT [3, 3] (.rd 0 (.rd 1 .done)) (by kernel_rfl) (by kernel_rfl) ?_
  refine GoR.phaseK [(0, .gen []), (1, .gen [])] [4, 2, 0] [] [(4, .bool true), (2, .slice none 0 0), (0, .slice none 0 0)] (by kernel_rfl) rfl ak0 ?_
  refine GoR.done (GoQ.thn (GoC.condT (by kernel_rfl) (GoC.seq ?_)))
  refine GoC.regT [1] (.rd 0 .done) (by kernel_rfl) (by kernel_rfl) ?_
  refine GoR.phaseK [(0, .gen [])] [2, 0] [] [(2, .slice none 0 0), (0, .slice none 0 0)] (by kernel_rfl) rfl ak0 ?_
  refine GoR.done (GoQ.thn (GoC.ret (GoQ.skipCR ?_)))
  refine GoQ.done (.inl rfl) (v := .slice none 0 0) (fun a hf => results1 rfl (by kernel_rfl) a hf) ?_
  exact ⟨rfl, hs⟩
end Go.Proofs.YtkiaagddmlddpaaGreatDoor
