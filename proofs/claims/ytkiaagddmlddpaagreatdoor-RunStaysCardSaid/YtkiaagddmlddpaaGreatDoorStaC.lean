/-
  The closures of Bytes: number, text. Conditions: none beside each theorem's own.
-/
import Derived.Test.YtkiaagddmlddpaaGreatDoorOctW
import Derived.Test.YtkiaagddmlddpaaGreatDoorSxY
namespace Go.Proofs.YtkiaagddmlddpaaGreatDoor
open Go.RowKit Go.Sx
set_option linter.unusedVariables false
set_option linter.unusedSimpArgs false
set_option linter.unnecessarySimpa false
set_option maxRecDepth 100000
/-- The bytes of a text: how long it is, and it. -/
def txtB (s : ByteArray) : List Int := wd (s.size : Nat) ++ strB s
theorem txtB_length (s : ByteArray) : (txtB s).length = 8 + s.size := by simp only [txtB, List.length_append, wd_length, strB_length]
theorem num_spec {w0 w : World} {L : List Asn} {ad : Option Addr} {c : Nat} {bb : Nat} (l : List Int) (n : Int) (hl : l.length ≤ 900000) (hn : 0 ≤ n ∧ n ≤ 18446744073709551615) (hs : St w0 ((Cel bb #[.slice ad l.length c] 23) :: (Sl ad c 5 1 byteC l) :: L) w) : Calls Tryz.prog 24 #[.int .u64 n, .pointer (some ⟨bb, 0, none⟩)] w (Ret fun rv w' => ∃ (ao : Option Addr) (co : Nat), rv = .tuple #[] ∧ St w0 ((Cel bb #[.slice ao ((l ++ wd n).length) co] 23) :: (Sl ao co 5 1 byteC (l ++ wd n)) :: L) w') := by
  refine enter (args := [.int .u64 n, .pointer (some ⟨bb, 0, none⟩)]) Tryz.func24 rfl Tryz.ntmps24 (Nat.le_of_ble_eq_true (by kernel_rfl)) ?_
  refine GoC.slots (S' := [(0, .int .u64 n), (1, .pointer (some ⟨bb, 0, none⟩))]) rfl ?_
  refine GoC.regT [15, 15, 15, 15] (.rd 0 (.rd 1 (.ef 2 (.ef 3 .done)))) (by kernel_rfl) (by kernel_rfl) ?_
  refine GoR.phaseK [(0, .gen [.slice ad l.length c]), (1, .gen [])] [4, 3, 1] [(0, [.cell ⟨bb, 0, none⟩ (.slice ad l.length c)])] [(4, .int .u64 n), (3, .slice ad l.length c), (1, .pointer (some ⟨bb, 0, none⟩))] (by kernel_rfl) rfl (ak (okc (hs.cell 0 rfl (by kernel_rfl)) ok0) ak0) ?_
  have hs1 : St w0 ((Sl ad c 5 1 byteC l) :: (Cel bb #[.slice ad l.length c] 23) :: L) w := (hs.pull 1 rfl)
  refine GoR.call rfl rfl (by kernel_rfl) (f := 25) (args := #[.slice ad l.length c, .int .u64 n]) (by kernel_rfl) Tryz.call25 (word_spec l n (by first | omega | (simp only [List.length_append, List.length_cons, List.length_nil, wd_length] at *; omega)) (by omega) hs1) ?_
  rintro v5 w6 ⟨ao2, co3, rfl, hs4⟩
  refine ⟨(opn (by kernel_rfl)), ?_⟩
  refine GoR.store rfl rfl (by kernel_rfl) (b := bb) (off := 0) (v := .slice ao2 ((l ++ wd n).length) co3) (by kernel_rfl) (by kernel_rfl) (ti := Tryz.t23) (by kernel_rfl) hs4 1 rfl (by kernel_rfl) (by kernel_rfl) (Nat.le_of_ble_eq_true (by kernel_rfl)) (cs' := #[.slice ao2 ((l ++ wd n).length) co3]) (L' := (Sl ao2 co3 5 1 byteC (l ++ wd n)) :: (Cel bb #[.slice ao2 ((l ++ wd n).length) co3] 23) :: L) (by kernel_rfl) rfl ?_
  intro w7 hs8
  refine ⟨(opn (by kernel_rfl)), ?_⟩
  refine GoR.done ?_
  refine GoQ.done (.inr rfl) (fun a hf => results0 rfl a hf) ?_
  have hs9 : St w0 ((Cel bb #[.slice ao2 ((l ++ wd n).length) co3] 23) :: (Sl ao2 co3 5 1 byteC (l ++ wd n)) :: L) w7 := ((hs8.pull 0 rfl).pull 1 rfl)
  exact ⟨ao2, co3, rfl, hs9⟩
theorem txt_spec {w0 w : World} {L : List Asn} {ad : Option Addr} {c : Nat} {bb : Nat} {nb : Nat} (l : List Int) (x : ByteArray) (hl : l.length ≤ 800000) (hx : x.size ≤ 1000) (hs : St w0 ((Cel nb #[.func (.func 24) #[] #[.pointer (some ⟨bb, 0, none⟩)]] 75) :: (Cel bb #[.slice ad l.length c] 23) :: (Sl ad c 5 1 byteC l) :: L) w) : Calls Tryz.prog 26 #[.string x, .pointer (some ⟨nb, 0, none⟩), .pointer (some ⟨bb, 0, none⟩)] w (Ret fun rv w' => ∃ (ao : Option Addr) (co : Nat), rv = .tuple #[] ∧ St w0 ((Cel nb #[.func (.func 24) #[] #[.pointer (some ⟨bb, 0, none⟩)]] 75) :: (Cel bb #[.slice ao ((l ++ txtB x).length) co] 23) :: (Sl ao co 5 1 byteC (l ++ txtB x)) :: L) w') := by
  refine enter (args := [.string x, .pointer (some ⟨nb, 0, none⟩), .pointer (some ⟨bb, 0, none⟩)]) Tryz.func26 rfl Tryz.ntmps26 (Nat.le_of_ble_eq_true (by kernel_rfl)) ?_
  refine GoC.slots (S' := [(0, .string x), (1, .pointer (some ⟨nb, 0, none⟩)), (2, .pointer (some ⟨bb, 0, none⟩))]) rfl ?_
  refine GoC.seq ?_
  refine GoC.regT [31, 31, 31, 31, 31] (.rd 0 (.rd 1 (.rd 2 (.rd 3 (.ef 4 .done))))) (by kernel_rfl) (by kernel_rfl) ?_
  refine GoR.phaseK [(0, .gen [.func (.func 24) #[] #[.pointer (some ⟨bb, 0, none⟩)]]), (1, .gen []), (2, .gen []), (3, .as_ (.int .u64 (x.size : Nat)) (.gen []))] [7, 4, 0, 2] [(0, [.cell ⟨nb, 0, none⟩ (.func (.func 24) #[] #[.pointer (some ⟨bb, 0, none⟩)])]), (3, [.prop (Value.int .u64 (IntKind.u64.wrap (x.size : Nat)) = Value.int .u64 (x.size : Nat))])] [(7, .int .u64 (x.size : Nat)), (4, .func (.func 24) #[] #[.pointer (some ⟨bb, 0, none⟩)]), (0, .string x), (2, .pointer (some ⟨bb, 0, none⟩))] (by kernel_rfl) rfl (ak (okc (hs.cell 0 rfl (by kernel_rfl)) ok0) (ak (okp (u64ok (by omega) (by omega)) ok0) ak0)) ?_
  have hs1 : St w0 ((Cel bb #[.slice ad l.length c] 23) :: (Sl ad c 5 1 byteC l) :: (Cel nb #[.func (.func 24) #[] #[.pointer (some ⟨bb, 0, none⟩)]] 75) :: L) w := ((hs.pull 2 rfl).pull 2 rfl)
  refine GoR.call rfl rfl (by kernel_rfl) (f := 24) (args := #[.int .u64 (x.size : Nat), .pointer (some ⟨bb, 0, none⟩)]) (by kernel_rfl) Tryz.call24 (num_spec l (x.size : Nat) (by first | omega | (simp only [List.length_append, wd_length, strB_length, txtB_length, List.length_cons, List.length_nil] at *; omega)) (by first | assumption | omega) hs1) ?_
  rintro v5 w6 ⟨ao2, co3, rfl, hs4⟩
  refine ⟨(opn (by kernel_rfl)), ?_⟩
  refine GoR.done (GoQ.thn ?_)
  refine GoC.regT [15, 15, 15, 15] (.rd 0 (.rd 1 (.ef 2 (.ef 3 .done)))) (by kernel_rfl) (by kernel_rfl) ?_
  refine GoR.phaseK [(0, .gen [.slice ao2 ((l ++ wd (x.size : Nat)).length) co3]), (1, .gen [])] [10, 9, 2] [(0, [.cell ⟨bb, 0, none⟩ (.slice ao2 ((l ++ wd (x.size : Nat)).length) co3)])] [(10, .string x), (9, .slice ao2 ((l ++ wd (x.size : Nat)).length) co3), (2, .pointer (some ⟨bb, 0, none⟩))] (by kernel_rfl) rfl (ak (okc (hs4.cell 0 rfl (by kernel_rfl)) ok0) ak0) ?_
  have hs9 : St w0 ((Sl ao2 co3 5 1 byteC (l ++ wd (x.size : Nat))) :: (Cel bb #[.slice ao2 ((l ++ wd (x.size : Nat)).length) co3] 23) :: (Cel nb #[.func (.func 24) #[] #[.pointer (some ⟨bb, 0, none⟩)]] 75) :: L) w6 := (hs4.pull 1 rfl)
  refine GoR.appendStr rfl (by kernel_rfl) bytesOK (u := 9) (by kernel_rfl) (f := byteC) rfl (ad := ao2) (c := co3) (xs := l ++ wd (x.size : Nat)) (s := x) (by kernel_rfl) hs9 (by first | omega | (simp only [List.length_append, wd_length, strB_length, txtB_length, List.length_cons, List.length_nil] at *; omega)) ?_
  intro ad10 c11 w7 hs8
  refine ⟨(opn (by kernel_rfl)), ?_⟩
  refine GoR.store rfl rfl (by kernel_rfl) (b := bb) (off := 0) (v := .slice ad10 (((l ++ wd (x.size : Nat)) ++ strB x).length) c11) (by kernel_rfl) (by kernel_rfl) (ti := Tryz.t23) (by kernel_rfl) hs8 1 rfl (by kernel_rfl) (by kernel_rfl) (Nat.le_of_ble_eq_true (by kernel_rfl)) (cs' := #[.slice ad10 (((l ++ wd (x.size : Nat)) ++ strB x).length) c11]) (L' := (Sl ad10 c11 5 1 byteC ((l ++ wd (x.size : Nat)) ++ strB x)) :: (Cel bb #[.slice ad10 (((l ++ wd (x.size : Nat)) ++ strB x).length) c11] 23) :: (Cel nb #[.func (.func 24) #[] #[.pointer (some ⟨bb, 0, none⟩)]] 75) :: L) (by kernel_rfl) rfl ?_
  intro w12 hs13
  refine ⟨(opn (by kernel_rfl)), ?_⟩
  refine GoR.done ?_
  refine GoQ.done (.inr rfl) (fun a hf => results0 rfl a hf) ?_
  have hs15 : St w0 ((Cel nb #[.func (.func 24) #[] #[.pointer (some ⟨bb, 0, none⟩)]] 75) :: (Cel bb #[.slice ad10 (((l ++ wd (x.size : Nat)) ++ strB x).length) c11] 23) :: (Sl ad10 c11 5 1 byteC ((l ++ wd (x.size : Nat)) ++ strB x)) :: L) w12 := (((hs13.pull 0 rfl).pull 1 rfl).pull 2 rfl)
  exact ⟨ad10, c11, rfl, by rw [show l ++ txtB x = (l ++ wd (x.size : Nat)) ++ strB x from (List.append_assoc _ _ _).symm]; exact hs15⟩
end Go.Proofs.YtkiaagddmlddpaaGreatDoor
