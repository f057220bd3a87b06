/-
  Several texts in one.
  Package sha: turn. Conditions: none.
  Package sha: words. Conditions: none.
  Package sha: Block. Conditions: where it is told, what ratchet/sha.table holds.
  A Hash of package sha in memory; what Write does, as a plain function. Conditions: none beside each theorem's own.
  Package sha: Write. Conditions: where it is told, what ratchet/sha.table holds.
  Package sha: Start, New. Conditions: none.
  Package sha: Sum. Conditions: where it is told, what ratchet/sha.table holds.
-/
import Derived.Test.YtkiaagddmlddpaaGreatDoorProg
import Derived.Test.YtkiaagddmlddpaaGreatDoorSxU
import Derived.Test.YtkiaagddmlddpaaGreatDoorOctA
import Derived.Test.YtkiaagddmlddpaaGreatDoorSxR
import Derived.Test.YtkiaagddmlddpaaGreatDoorSxT
/-! ShaA -/
namespace Go.Proofs.YtkiaagddmlddpaaGreatDoor
open Go.RowKit Go.Sx
set_option linter.unusedVariables false
set_option linter.unusedSimpArgs false
set_option linter.unnecessarySimpa false
set_option maxRecDepth 100000
def rotl (x : Int) (k : Int) : Int :=
  (iOr .u32 (iShl .u32 x (iAnd .u64 (IntKind.u64.wrap k) 31)) (iShr .u32 x (IntKind.u64.wrap (32 - (iAnd .u64 (IntKind.u64.wrap k) 31)))))
theorem rotl_spec {w0 w : World} {L : List Asn} (x : Int) (k : Int) (hs : St w0 L w) : Calls Tryz.prog 83 #[.int .u32 x, .int .i64 k] w (Ret fun rv w' => rv = .int .u32 (rotl x k) ∧ St w0 L w') := by
  refine enter (args := [.int .u32 x, .int .i64 k]) Tryz.func83 rfl Tryz.ntmps83 (Nat.le_of_ble_eq_true (by kernel_rfl)) ?_
  refine GoC.slots (S' := [(0, .int .u32 x), (1, .int .i64 k)]) rfl ?_
  refine GoC.seq ?_
  refine GoC.regT [1] (.rd 0 .done) (by kernel_rfl) (by kernel_rfl) ?_
  refine GoR.phaseK [(0, .gen [])] [4, 0, 1] [] [(4, .int .u32 0), (0, .int .u32 x), (1, .int .i64 k)] (by kernel_rfl) rfl ak0 ?_
  refine GoR.done (GoQ.thn (GoC.seq ?_))
  refine GoC.regT [15, 15, 15, 15] (.rd 0 (.rd 1 (.rd 2 (.rd 3 .done)))) (by kernel_rfl) (by kernel_rfl) ?_
  refine GoR.phaseK [(0, .gen []), (1, .gen []), (2, .gen []), (3, .gen [])] [5, 4, 0] [] [(5, .int .u64 (iAnd .u64 (IntKind.u64.wrap k) 31)), (4, .int .u32 0), (0, .int .u32 x)] (by kernel_rfl) rfl ak0 ?_
  refine GoR.done (GoQ.thn (GoC.seq ?_))
  refine GoC.regT [511, 511, 511, 511, 511, 511, 511, 511, 511] (.rd 0 (.rd 1 (.rd 2 (.rd 3 (.rd 4 (.rd 5 (.rd 6 (.rd 7 (.rd 8 .done))))))))) (by kernel_rfl) (by kernel_rfl) ?_
  refine GoR.phaseK [(0, .gen []), (1, .gen []), (2, .shift (iShl .u32 x (iAnd .u64 (IntKind.u64.wrap k) 31))), (3, .gen []), (4, .gen []), (5, .gen []), (6, .shift (iShr .u32 x (IntKind.u64.wrap (32 - (iAnd .u64 (IntKind.u64.wrap k) 31))))), (7, .gen []), (8, .gen [])] [4] [(2, [.prop ((0 : Int) ≤ iAnd .u64 (IntKind.u64.wrap k) 31 ∧ IntKind.u32.wrap (x * 2 ^ (min (Int.toNat (iAnd .u64 (IntKind.u64.wrap k) 31)) (IntKind.bits .u32))) = iShl .u32 x (iAnd .u64 (IntKind.u64.wrap k) 31))]), (6, [.prop ((0 : Int) ≤ IntKind.u64.wrap (32 - (iAnd .u64 (IntKind.u64.wrap k) 31)) ∧ Int.fdiv x (2 ^ (min (Int.toNat (IntKind.u64.wrap (32 - (iAnd .u64 (IntKind.u64.wrap k) 31)))) (IntKind.bits .u32))) = iShr .u32 x (IntKind.u64.wrap (32 - (iAnd .u64 (IntKind.u64.wrap k) 31))))])] [(4, .int .u32 (iOr .u32 (iShl .u32 x (iAnd .u64 (IntKind.u64.wrap k) 31)) (iShr .u32 x (IntKind.u64.wrap (32 - (iAnd .u64 (IntKind.u64.wrap k) 31))))))] (by kernel_rfl) rfl (ak (okp ⟨(by first | omega | exact uwrap_nn rfl _), rfl⟩ ok0) (ak (okp ⟨(by first | omega | exact uwrap_nn rfl _), rfl⟩ ok0) ak0)) ?_
  refine GoR.done (GoQ.thn (GoC.ret ?_))
  refine GoQ.done (.inl rfl) (v := .int .u32 (iOr .u32 (iShl .u32 x (iAnd .u64 (IntKind.u64.wrap k) 31)) (iShr .u32 x (IntKind.u64.wrap (32 - (iAnd .u64 (IntKind.u64.wrap k) 31)))))) (fun a hf => results1 rfl (by kernel_rfl) a hf) ?_
  have hr : rotl x k = (iOr .u32 (iShl .u32 x (iAnd .u64 (IntKind.u64.wrap k) 31)) (iShr .u32 x (IntKind.u64.wrap (32 - (iAnd .u64 (IntKind.u64.wrap k) 31))))) := by rw [rotl]
  exact ⟨by first | (rw [hr]; done) | (rw [hr]; rfl), hs.drop 0⟩
def turnR (x : Int) (n : Int) : Int :=
  (rotl x (IntKind.i64.wrap (0 - n)))
theorem turnR_spec {w0 w : World} {L : List Asn} (x : Int) (n : Int) (hs : St w0 L w) : Calls Tryz.prog 65 #[.int .u32 x, .int .i64 n] w (Ret fun rv w' => rv = .int .u32 (turnR x n) ∧ St w0 L w') := by
  refine enter (args := [.int .u32 x, .int .i64 n]) Tryz.func65 rfl Tryz.ntmps65 (Nat.le_of_ble_eq_true (by kernel_rfl)) ?_
  refine GoC.slots (S' := [(0, .int .u32 x), (1, .int .i64 n)]) rfl ?_
  refine GoC.seq ?_
  refine GoC.regT [1] (.rd 0 .done) (by kernel_rfl) (by kernel_rfl) ?_
  refine GoR.phaseK [(0, .gen [])] [4, 0, 1] [] [(4, .int .u32 0), (0, .int .u32 x), (1, .int .i64 n)] (by kernel_rfl) rfl ak0 ?_
  refine GoR.done (GoQ.thn (GoC.seq ?_))
  refine GoC.regT [31, 31, 31, 31, 31] (.rd 0 (.rd 1 (.rd 2 (.ef 3 (.rd 4 .done))))) (by kernel_rfl) (by kernel_rfl) ?_
  refine GoR.phaseK [(0, .gen []), (1, .gen []), (2, .gen [])] [7, 5, 4] [] [(7, .int .i64 (IntKind.i64.wrap (0 - n))), (5, .int .u32 x), (4, .int .u32 0)] (by kernel_rfl) rfl ak0 ?_
  refine GoR.call rfl rfl (by kernel_rfl) (f := 83) (args := #[.int .u32 x, .int .i64 (IntKind.i64.wrap (0 - n))]) (by kernel_rfl) Tryz.call83 (rotl_spec x (IntKind.i64.wrap (0 - n))  hs) ?_
  rintro v2 w3 ⟨rfl, hs1⟩
  refine ⟨(opn (by kernel_rfl)), ?_⟩
  refine GoR.phaseK [(4, .gen [])] [4] [] [(4, .int .u32 (rotl x (IntKind.i64.wrap (0 - n))))] (by kernel_rfl) rfl ak0 ?_
  refine GoR.done (GoQ.thn (GoC.ret ?_))
  refine GoQ.done (.inl rfl) (v := .int .u32 (rotl x (IntKind.i64.wrap (0 - n)))) (fun a hf => results1 rfl (by kernel_rfl) a hf) ?_
  have hr : turnR x n = (rotl x (IntKind.i64.wrap (0 - n))) := by rw [turnR]
  exact ⟨by first | (rw [hr]; done) | (rw [hr]; rfl), hs1.drop 0⟩
/-- f at 0, 1, .. n - 1, one behind the other. -/
def iter {α : Type} (f : Nat → α → α) : Nat → α → α
  | 0, a => a
  | n + 1, a => f n (iter f n a)
theorem iter_zero {α : Type} (f : Nat → α → α) (a : α) : iter f 0 a = a := rfl
theorem iter_succ {α : Type} (f : Nat → α → α) (n : Nat) (a : α) : iter f (n + 1) a = f n (iter f n a) := rfl
def w32C (n : Int) : Array Value := #[.int .u32 n]
theorem w32F : CellF w32C 1 := ⟨fun _ => rfl, fun _ => rfl⟩
end Go.Proofs.YtkiaagddmlddpaaGreatDoor

/-! ShaB -/
namespace Go.Proofs.YtkiaagddmlddpaaGreatDoor
open Go.RowKit Go.Sx
set_option linter.unusedVariables false
set_option linter.unusedSimpArgs false
set_option linter.unnecessarySimpa false
set_option maxRecDepth 100000
def fillW (bl : List Int) (k j : Nat) (vl : List Int) : List Int := vl.set k (iOr .u32 (iShl .u32 (vl.getD k (0 : Int)) 8) (IntKind.u32.wrap (bl.getD ((4 * k) + j) (0 : Int))))
def fillR (bl : List Int) (k : Nat) (wl : List Int) : List Int := iter (fillW bl k) 4 wl
def fillsW (bl : List Int) : List Int := iter (fillR bl) 16 (List.replicate 64 0)
theorem fills_eq (bl : List Int) (F : Nat → List Int → List Int) : iter (fillR bl) 16 (List.replicate 64 0) = iter F (16 - 16) (fillsW bl) := by rw [Nat.sub_self, iter_zero, fillsW]
def schedW (i : Nat) (xl : List Int) : List Int := xl.set i (IntKind.u32.wrap ((IntKind.u32.wrap ((IntKind.u32.wrap ((xl.getD (i - 16) (0 : Int)) + (iXor .u32 (iXor .u32 (turnR (xl.getD (i - 15) (0 : Int)) 7) (turnR (xl.getD (i - 15) (0 : Int)) 18)) (iShr .u32 (xl.getD (i - 15) (0 : Int)) 3)))) + (xl.getD (i - 7) (0 : Int)))) + (iXor .u32 (iXor .u32 (turnR (xl.getD (i - 2) (0 : Int)) 17) (turnR (xl.getD (i - 2) (0 : Int)) 19)) (iShr .u32 (xl.getD (i - 2) (0 : Int)) 10))))
def wordsL (bl : List Int) : List Int := iter (fun n => schedW (n + 16)) 48 (fillsW bl)
theorem words_spec {w0 w : World} {L : List Asn} {p : Nat} (bl : List Int) (hb : bl.length = 64) (hs : St w0 ((Cel p (arrCells byteC bl) 114) :: L) w) : Calls Tryz.prog 64 #[.pointer (some ⟨p, 0, none⟩)] w (Ret fun rv w' => rv = .agg (arrCells w32C (wordsL bl)) ∧ St w0 ((Cel p (arrCells byteC bl) 114) :: L) w') := by
  refine enter (args := [.pointer (some ⟨p, 0, none⟩)]) Tryz.func64 rfl Tryz.ntmps64 (Nat.le_of_ble_eq_true (by kernel_rfl)) ?_
  refine GoC.slots (S' := [(0, .pointer (some ⟨p, 0, none⟩))]) rfl ?_
  refine GoC.seq ?_
  refine GoC.regT [1] (.ef 0 .done) (by kernel_rfl) (by kernel_rfl) ?_
  refine GoR.alloc rfl rfl (by kernel_rfl) (z := .agg #[.int .u32 0, .int .u32 0, .int .u32 0, .int .u32 0, .int .u32 0, .int .u32 0, .int .u32 0, .int .u32 0, .int .u32 0, .int .u32 0, .int .u32 0, .int .u32 0, .int .u32 0, .int .u32 0, .int .u32 0, .int .u32 0, .int .u32 0, .int .u32 0, .int .u32 0, .int .u32 0, .int .u32 0, .int .u32 0, .int .u32 0, .int .u32 0, .int .u32 0, .int .u32 0, .int .u32 0, .int .u32 0, .int .u32 0, .int .u32 0, .int .u32 0, .int .u32 0, .int .u32 0, .int .u32 0, .int .u32 0, .int .u32 0, .int .u32 0, .int .u32 0, .int .u32 0, .int .u32 0, .int .u32 0, .int .u32 0, .int .u32 0, .int .u32 0, .int .u32 0, .int .u32 0, .int .u32 0, .int .u32 0, .int .u32 0, .int .u32 0, .int .u32 0, .int .u32 0, .int .u32 0, .int .u32 0, .int .u32 0, .int .u32 0, .int .u32 0, .int .u32 0, .int .u32 0, .int .u32 0, .int .u32 0, .int .u32 0, .int .u32 0, .int .u32 0]) (by kernel_rfl) hs (cs := #[.int .u32 0, .int .u32 0, .int .u32 0, .int .u32 0, .int .u32 0, .int .u32 0, .int .u32 0, .int .u32 0, .int .u32 0, .int .u32 0, .int .u32 0, .int .u32 0, .int .u32 0, .int .u32 0, .int .u32 0, .int .u32 0, .int .u32 0, .int .u32 0, .int .u32 0, .int .u32 0, .int .u32 0, .int .u32 0, .int .u32 0, .int .u32 0, .int .u32 0, .int .u32 0, .int .u32 0, .int .u32 0, .int .u32 0, .int .u32 0, .int .u32 0, .int .u32 0, .int .u32 0, .int .u32 0, .int .u32 0, .int .u32 0, .int .u32 0, .int .u32 0, .int .u32 0, .int .u32 0, .int .u32 0, .int .u32 0, .int .u32 0, .int .u32 0, .int .u32 0, .int .u32 0, .int .u32 0, .int .u32 0, .int .u32 0, .int .u32 0, .int .u32 0, .int .u32 0, .int .u32 0, .int .u32 0, .int .u32 0, .int .u32 0, .int .u32 0, .int .u32 0, .int .u32 0, .int .u32 0, .int .u32 0, .int .u32 0, .int .u32 0, .int .u32 0]) (by kernel_rfl) ?_
  intro b1 w2 hs3
  refine ⟨(opn (by kernel_rfl)), ?_⟩
  refine GoR.done (GoQ.thn (GoC.seq (GoC.seq ?_)))
  refine GoC.regT [7, 7, 7] (.rd 0 (.rd 1 (.rd 2 .done))) (by kernel_rfl) (by kernel_rfl) ?_
  refine GoR.phaseK [(0, .as_ (.slice (some ⟨b1, 0, none⟩) 16 64) (.sub 0 16)), (1, .gen []), (2, .gen [])] [11, 10, 2, 0] [(0, [.prop ((16 : Int) = ((16 : Nat) : Int)), .prop ((((none : Option Operand)) = none → (0 : Nat) = 0) ∧ ((some (Operand.const (.int .i64 16))) = none → (16 : Nat) = 64) ∧ (0 : Nat) ≤ 16 ∧ (16 : Nat) ≤ 64), .prop (Value.slice (some (if 64 = 0 then Addr.mk b1 0 none else (Addr.mk b1 0 none).add (0 * 1))) (16 - 0) (64 - 0) = Value.slice (some ⟨b1, 0, none⟩) 16 64)])] [(11, .int .i64 0), (10, .int .i64 16), (2, .pointer (some ⟨b1, 0, none⟩)), (0, .pointer (some ⟨p, 0, none⟩))] (by kernel_rfl) rfl (ak (okp (by omega) (okp ⟨(by first | (intro _; rfl) | (intro hc; cases hc)), (by first | (intro _; rfl) | (intro hc; cases hc)), (by omega), (by omega)⟩ (okp (subArr0 _ _ _ _ _ (by decide)) ok0))) ak0) ?_
  refine GoR.done (GoQ.thn (GoC.block ?_))
  have hs4 : St w0 ((Cel b1 (arrCells w32C (List.replicate 64 0)) 135) :: (Cel p (arrCells byteC bl) 114) :: L) w2 := Eq.mp (by kernel_rfl) hs3
  refine GoC.loop (T := Nat × (List Int)) (fun gg => [(0, .pointer (some ⟨p, 0, none⟩)), (2, .pointer (some ⟨b1, 0, none⟩)), (10, .int .i64 16), (11, .int .i64 (gg.1 : Nat))]) (fun gg w => (gg.1 ≤ 16 ∧ gg.2 = iter (fillR bl) gg.1 (List.replicate 64 0) ∧ gg.2.length = 64) ∧ St w0 ((Cel b1 (arrCells w32C gg.2) 135) :: (Cel p (arrCells byteC bl) 114) :: L) w) (fun gg => 16 - gg.1) (0, (List.replicate 64 0)) [0, 2, 10, 11] (by kernel_rfl) ⟨⟨Nat.zero_le _, rfl, rfl⟩, hs4⟩ ?_
  rintro ⟨k, wl⟩ w5 ⟨hp0, hs6⟩
  have hp : k ≤ 16 ∧ wl = iter (fillR bl) k (List.replicate 64 0) ∧ wl.length = 64 := hp0
  have hs7 : St w0 ((Cel b1 (arrCells w32C wl) 135) :: (Cel p (arrCells byteC bl) 114) :: L) w5 := hs6
  refine GoC.slots (S' := [(0, .pointer (some ⟨p, 0, none⟩)), (2, .pointer (some ⟨b1, 0, none⟩)), (10, .int .i64 16), (11, .int .i64 (k : Nat))]) rfl ?_
  refine GoC.seq ?_
  refine GoC.regT [1] (.rd 0 .done) (by kernel_rfl) (by kernel_rfl) ?_
  refine GoR.phaseK [(0, .gen [])] [12, 0, 2, 10, 11] [] [(12, .bool (decide (((k : Nat) : Int) < 16))), (0, .pointer (some ⟨p, 0, none⟩)), (2, .pointer (some ⟨b1, 0, none⟩)), (10, .int .i64 16), (11, .int .i64 (k : Nat))] (by kernel_rfl) rfl ak0 ?_
  refine GoR.done (GoQ.thn (GoC.seq ?_))
  refine GoC.cond (t := decide (((k : Nat) : Int) < 16)) (by kernel_rfl) (fun h8 => ?_) (fun h8 => ?_)
  · have h8' : ((k : Nat) : Int) < 16 := of_decide_eq_true h8
    refine GoC.skip (GoQ.thn (GoC.seq (GoC.block (GoC.seq ?_))))
    refine GoC.regT [3, 3] (.rd 0 (.rd 1 .done)) (by kernel_rfl) (by kernel_rfl) ?_
    refine GoR.phaseK [(0, .gen []), (1, .gen [])] [3, 0, 2, 10, 11] [] [(3, .int .i64 (k : Nat)), (0, .pointer (some ⟨p, 0, none⟩)), (2, .pointer (some ⟨b1, 0, none⟩)), (10, .int .i64 16), (11, .int .i64 (k : Nat))] (by kernel_rfl) rfl ak0 ?_
    refine GoR.done (GoQ.thn (GoC.seq ?_))
    refine GoC.regT [1023, 1023, 1023, 1023, 1023, 1023, 1023, 1023, 1023, 1023] (.rd 0 (.rd 1 (.rd 2 (.rd 3 (.rd 4 (.rd 5 (.rd 6 (.rd 7 (.rd 8 (.rd 9 .done)))))))))) (by kernel_rfl) (by kernel_rfl) ?_
    refine GoR.phaseK [(0, .gen []), (1, .gen []), (2, .gen []), (3, .as_ (.int .i64 (4 * (k : Nat))) (.gen [])), (4, .gen []), (5, .as_ (.int .i64 (4 * (k : Nat))) (.gen [])), (6, .as_ (.int .i64 ((4 * (k : Nat)) + 4)) (.gen [])), (7, .as_ (.slice (some ⟨p, 0 + ((4 * k) * 1), none⟩) 4 (64 - (4 * k))) (.sub (4 * k) (4 * k + 4))), (8, .gen []), (9, .gen [])] [23, 22, 21, 3, 0, 2, 10, 11] [(3, [.prop (Value.int .i64 (IntKind.i64.wrap (4 * (k : Nat))) = Value.int .i64 (4 * (k : Nat)))]), (5, [.prop (Value.int .i64 (IntKind.i64.wrap (4 * (k : Nat))) = Value.int .i64 (4 * (k : Nat)))]), (6, [.prop (Value.int .i64 (IntKind.i64.wrap ((4 * (k : Nat)) + 4)) = Value.int .i64 ((4 * (k : Nat)) + 4))]), (7, [.prop ((4 * (k : Nat) : Int) = ((4 * k : Nat) : Int)), .prop (((4 * (k : Nat)) + 4 : Int) = ((4 * k + 4 : Nat) : Int)), .prop (((some (Operand.tmp 17)) = none → (4 * k : Nat) = 0) ∧ ((some (Operand.tmp 20)) = none → (4 * k + 4 : Nat) = 64) ∧ (4 * k : Nat) ≤ 4 * k + 4 ∧ (4 * k + 4 : Nat) ≤ 64), .prop (Value.slice (some (if 64 = 4 * k then Addr.mk p 0 none else (Addr.mk p 0 none).add ((4 * k) * 1))) ((4 * k + 4) - (4 * k)) (64 - (4 * k)) = Value.slice (some ⟨p, 0 + ((4 * k) * 1), none⟩) 4 (64 - (4 * k)))])] [(23, .int .i64 0), (22, .int .i64 4), (21, .slice (some ⟨p, 0 + ((4 * k) * 1), none⟩) 4 (64 - (4 * k))), (3, .int .i64 (k : Nat)), (0, .pointer (some ⟨p, 0, none⟩)), (2, .pointer (some ⟨b1, 0, none⟩)), (10, .int .i64 16), (11, .int .i64 (k : Nat))] (by kernel_rfl) rfl (ak (okp (i64ok (by omega) (by omega)) ok0) (ak (okp (i64ok (by omega) (by omega)) ok0) (ak (okp (i64ok (by omega) (by omega)) ok0) (ak (okp (by omega) (okp (by omega) (okp ⟨(by first | (intro _; rfl) | (intro hc; cases hc)), (by first | (intro _; rfl) | (intro hc; cases hc)), (by omega), (by omega)⟩ (okp (subArrL (by omega) (by omega)) ok0)))) ak0)))) ?_
    refine GoR.done (GoQ.thn (GoC.block ?_))
    refine GoC.loop (T := Nat × (List Int)) (fun gg => [(0, .pointer (some ⟨p, 0, none⟩)), (2, .pointer (some ⟨b1, 0, none⟩)), (3, .int .i64 (k : Nat)), (10, .int .i64 16), (11, .int .i64 (k : Nat)), (21, .slice (some ⟨p, 0 + ((4 * k) * 1), none⟩) 4 (64 - (4 * k))), (22, .int .i64 4), (23, .int .i64 (gg.1 : Nat))]) (fun gg w => (gg.1 ≤ 4 ∧ gg.2 = iter (fillW bl k) gg.1 wl ∧ gg.2.length = 64) ∧ St w0 ((Cel b1 (arrCells w32C gg.2) 135) :: (Cel p (arrCells byteC bl) 114) :: L) w) (fun gg => 4 - gg.1) (0, wl) [0, 2, 3, 10, 11, 21, 22, 23] (by kernel_rfl) ⟨⟨Nat.zero_le _, rfl, hp.2.2⟩, hs7⟩ ?_
    rintro ⟨j, vl⟩ w9 ⟨hp10, hs10⟩
    have hp1 : j ≤ 4 ∧ vl = iter (fillW bl k) j wl ∧ vl.length = 64 := hp10
    have hs11 : St w0 ((Cel b1 (arrCells w32C vl) 135) :: (Cel p (arrCells byteC bl) 114) :: L) w9 := hs10
    refine GoC.slots (S' := [(0, .pointer (some ⟨p, 0, none⟩)), (2, .pointer (some ⟨b1, 0, none⟩)), (3, .int .i64 (k : Nat)), (10, .int .i64 16), (11, .int .i64 (k : Nat)), (21, .slice (some ⟨p, 0 + ((4 * k) * 1), none⟩) 4 (64 - (4 * k))), (22, .int .i64 4), (23, .int .i64 (j : Nat))]) rfl ?_
    refine GoC.seq ?_
    refine GoC.regT [1] (.rd 0 .done) (by kernel_rfl) (by kernel_rfl) ?_
    refine GoR.phaseK [(0, .gen [])] [24, 0, 2, 3, 10, 11, 21, 22, 23] [] [(24, .bool (decide (((j : Nat) : Int) < 4))), (0, .pointer (some ⟨p, 0, none⟩)), (2, .pointer (some ⟨b1, 0, none⟩)), (3, .int .i64 (k : Nat)), (10, .int .i64 16), (11, .int .i64 (k : Nat)), (21, .slice (some ⟨p, 0 + ((4 * k) * 1), none⟩) 4 (64 - (4 * k))), (22, .int .i64 4), (23, .int .i64 (j : Nat))] (by kernel_rfl) rfl ak0 ?_
    refine GoR.done (GoQ.thn (GoC.seq ?_))
    refine GoC.cond (t := decide (((j : Nat) : Int) < 4)) (by kernel_rfl) (fun h12 => ?_) (fun h12 => ?_)
    · have h12' : ((j : Nat) : Int) < 4 := of_decide_eq_true h12
      refine GoC.skip (GoQ.thn (GoC.seq (GoC.block (GoC.seq ?_))))
      refine GoC.regT [7, 7, 7] (.rd 0 (.rd 1 (.rd 2 .done))) (by kernel_rfl) (by kernel_rfl) ?_
      refine GoR.phaseK [(0, .as_ (.pointer (some ⟨p, 0 + (((4 * k) + j) * 1), none⟩)) .at_), (1, .gen [.int .u8 (bl.getD ((4 * k) + j) (0 : Int))]), (2, .gen [])] [5, 0, 2, 3, 10, 11, 21, 22, 23] [(0, [.prop (0 ≤ ((j : Nat) : Int) ∧ ((j : Nat) : Int) < (4 : Int)), .prop (Value.pointer (some (Addr.add ⟨p, 0 + ((4 * k) * 1), none⟩ (Int.toNat (j : Nat) * 1))) = Value.pointer (some ⟨p, 0 + (((4 * k) + j) * 1), none⟩))]), (1, [.cell ⟨p, 0 + (((4 * k) + j) * 1), none⟩ (.int .u8 (bl.getD ((4 * k) + j) (0 : Int)))])] [(5, .int .u8 (bl.getD ((4 * k) + j) (0 : Int))), (0, .pointer (some ⟨p, 0, none⟩)), (2, .pointer (some ⟨b1, 0, none⟩)), (3, .int .i64 (k : Nat)), (10, .int .i64 16), (11, .int .i64 (k : Nat)), (21, .slice (some ⟨p, 0 + ((4 * k) * 1), none⟩) 4 (64 - (4 * k))), (22, .int .i64 4), (23, .int .i64 (j : Nat))] (by kernel_rfl) rfl (ak (okp (by omega) (okp (ptrAddM _ _ _ _) ok0)) (ak (okc (RowsAt.at0 (arr_rows hs11 1 rfl (byteF).size (0 : Int)) (k := ((4 * k) + j)) (by first | omega | (simp only [List.length_set]; omega) | (simp only [List.length_set, List.length_append, List.length_cons, List.length_nil]; omega)) (j := 0) (by decide) (by kernel_rfl)) ok0) ak0)) ?_
      refine GoR.done (GoQ.thn ?_)
      refine GoC.regT [1023, 1023, 1023, 1023, 1023, 1023, 1023, 1023, 1023, 1023] (.rd 0 (.rd 1 (.rd 2 (.rd 3 (.rd 4 (.rd 5 (.rd 6 (.rd 7 (.rd 8 (.ef 9 .done)))))))))) (by kernel_rfl) (by kernel_rfl) ?_
      refine GoR.phaseK [(0, .gen []), (1, .gen []), (2, .as_ (.pointer (some ⟨b1, 0 + (k * 1), none⟩)) .at_), (3, .gen [.int .u32 (vl.getD k (0 : Int))]), (4, .shift (iShl .u32 (vl.getD k (0 : Int)) 8)), (5, .gen []), (6, .gen []), (7, .gen []), (8, .as_ (.pointer (some ⟨b1, 0 + (k * 1), none⟩)) .at_)] [35, 34, 0, 2, 3, 10, 11, 21, 22, 23] [(2, [.prop (0 ≤ ((k : Nat) : Int) ∧ ((k : Nat) : Int) < (64 : Int)), .prop (Value.pointer (some (Addr.add ⟨b1, 0, none⟩ (Int.toNat (k : Nat) * 1))) = Value.pointer (some ⟨b1, 0 + (k * 1), none⟩))]), (3, [.cell ⟨b1, 0 + (k * 1), none⟩ (.int .u32 (vl.getD k (0 : Int)))]), (4, [.prop ((0 : Int) ≤ 8 ∧ IntKind.u32.wrap ((vl.getD k (0 : Int)) * 2 ^ (min (Int.toNat 8) (IntKind.bits .u32))) = iShl .u32 (vl.getD k (0 : Int)) 8)]), (8, [.prop (0 ≤ ((k : Nat) : Int) ∧ ((k : Nat) : Int) < (64 : Int)), .prop (Value.pointer (some (Addr.add ⟨b1, 0, none⟩ (Int.toNat (k : Nat) * 1))) = Value.pointer (some ⟨b1, 0 + (k * 1), none⟩))])] [(35, .pointer (some ⟨b1, 0 + (k * 1), none⟩)), (34, .int .u32 (iOr .u32 (iShl .u32 (vl.getD k (0 : Int)) 8) (IntKind.u32.wrap (bl.getD ((4 * k) + j) (0 : Int))))), (0, .pointer (some ⟨p, 0, none⟩)), (2, .pointer (some ⟨b1, 0, none⟩)), (3, .int .i64 (k : Nat)), (10, .int .i64 16), (11, .int .i64 (k : Nat)), (21, .slice (some ⟨p, 0 + ((4 * k) * 1), none⟩) 4 (64 - (4 * k))), (22, .int .i64 4), (23, .int .i64 (j : Nat))] (by kernel_rfl) rfl (ak (okp (by omega) (okp (ptrAdd _ _ _) ok0)) (ak (okc (RowsAt.at0 (arr_rows hs11 0 rfl (w32F).size (0 : Int)) (k := k) (by first | omega | (simp only [List.length_set]; omega) | (simp only [List.length_set, List.length_append, List.length_cons, List.length_nil]; omega)) (j := 0) (by decide) (by kernel_rfl)) ok0) (ak (okp ⟨(by first | omega | exact uwrap_nn rfl _), rfl⟩ ok0) (ak (okp (by omega) (okp (ptrAdd _ _ _) ok0)) ak0)))) ?_
      refine GoR.store rfl rfl (by kernel_rfl) (b := b1) (off := 0 + (k * 1)) (v := .int .u32 (iOr .u32 (iShl .u32 (vl.getD k (0 : Int)) 8) (IntKind.u32.wrap (bl.getD ((4 * k) + j) (0 : Int))))) (by kernel_rfl) (by kernel_rfl) (ti := Tryz.t111) (by kernel_rfl) hs11 0 rfl (by kernel_rfl) (by kernel_rfl) (by rw [Nat.zero_add]; exact arr_room (f := w32C) (size := 1) (l := vl) (k := k) (w32F).size (by first | omega | (simp only [List.length_set]; omega) | (simp only [List.length_set, List.length_append, List.length_cons, List.length_nil]; omega))) (cs' := arrCells w32C (vl.set k (iOr .u32 (iShl .u32 (vl.getD k (0 : Int)) 8) (IntKind.u32.wrap (bl.getD ((4 * k) + j) (0 : Int)))))) (L' := (Cel b1 (arrCells w32C (vl.set k (iOr .u32 (iShl .u32 (vl.getD k (0 : Int)) 8) (IntKind.u32.wrap (bl.getD ((4 * k) + j) (0 : Int)))))) 135) :: (Cel p (arrCells byteC bl) 114) :: L) (by rw [Nat.zero_add]; exact splice_arr (f := w32C) (size := 1) (l := vl) (k := k) (w32F).size (by first | omega | (simp only [List.length_set]; omega) | (simp only [List.length_set, List.length_append, List.length_cons, List.length_nil]; omega)) (iOr .u32 (iShl .u32 (vl.getD k (0 : Int)) 8) (IntKind.u32.wrap (bl.getD ((4 * k) + j) (0 : Int))))) rfl ?_
      intro w13 hs14
      refine ⟨(opn (by kernel_rfl)), ?_⟩
      refine GoR.done (GoQ.blkN (GoQ.thn ?_))
      refine GoC.regT [3, 3] (.rd 0 (.rd 1 .done)) (by kernel_rfl) (by kernel_rfl) ?_
      refine GoR.phaseK [(0, .as_ (.int .i64 ((j : Nat) + 1)) (.gen [])), (1, .gen [])] [23, 0, 2, 3, 10, 11, 21, 22] [(0, [.prop (Value.int .i64 (IntKind.i64.wrap ((j : Nat) + 1)) = Value.int .i64 ((j : Nat) + 1))])] [(23, .int .i64 ((j : Nat) + 1)), (0, .pointer (some ⟨p, 0, none⟩)), (2, .pointer (some ⟨b1, 0, none⟩)), (3, .int .i64 (k : Nat)), (10, .int .i64 16), (11, .int .i64 (k : Nat)), (21, .slice (some ⟨p, 0 + ((4 * k) * 1), none⟩) 4 (64 - (4 * k))), (22, .int .i64 4)] (by kernel_rfl) rfl (ak (okp (i64ok (by omega) (by omega)) ok0) ak0) ?_
      refine GoR.done ?_
      exact GoQ.back (j + 1, vl.set k (iOr .u32 (iShl .u32 (vl.getD k (0 : Int)) 8) (IntKind.u32.wrap (bl.getD ((4 * k) + j) (0 : Int))))) [0, 2, 3, 10, 11, 21, 22, 23] (by kernel_rfl) (by show 4 - (j + 1) < 4 - j; omega) ⟨⟨by omega, by rw [iter_succ, ← hp1.2.1]; rfl, by simp only [List.length_set]; exact hp1.2.2⟩, hs14⟩
    · have h12' : ¬ (((j : Nat) : Int) < 4) := of_decide_eq_false h12
      refine GoC.exit (GoQ.skipC (GoQ.skipL (GoQ.hit (GoQ.blkN (GoQ.thn ?_)))))
      refine GoC.regT [3, 3] (.rd 0 (.rd 1 .done)) (by kernel_rfl) (by kernel_rfl) ?_
      refine GoR.phaseK [(0, .as_ (.int .i64 ((k : Nat) + 1)) (.gen [])), (1, .gen [])] [11, 0, 2, 10] [(0, [.prop (Value.int .i64 (IntKind.i64.wrap ((k : Nat) + 1)) = Value.int .i64 ((k : Nat) + 1))])] [(11, .int .i64 ((k : Nat) + 1)), (0, .pointer (some ⟨p, 0, none⟩)), (2, .pointer (some ⟨b1, 0, none⟩)), (10, .int .i64 16)] (by kernel_rfl) rfl (ak (okp (i64ok (by omega) (by omega)) ok0) ak0) ?_
      refine GoR.done ?_
      exact GoQ.back (k + 1, vl) [0, 2, 10, 11] (by kernel_rfl) (by show 16 - (k + 1) < 16 - k; omega) ⟨⟨by omega, by rw [hp1.2.1, show j = 4 by omega, hp.2.1]; exact (iter_succ (fillR bl) k _).symm, hp1.2.2⟩, hs11⟩
  · have h8' : ¬ (((k : Nat) : Int) < 16) := of_decide_eq_false h8
    refine GoC.exit (GoQ.skipC (GoQ.skipL (GoQ.hit (GoQ.thn (GoC.seq (GoC.seq ?_))))))
    refine GoC.regT [1] (.rd 0 .done) (by kernel_rfl) (by kernel_rfl) ?_
    refine GoR.phaseK [(0, .gen [])] [6, 2] [] [(6, .int .i64 16), (2, .pointer (some ⟨b1, 0, none⟩))] (by kernel_rfl) rfl ak0 ?_
    refine GoR.done (GoQ.thn (GoC.block ?_))
    refine GoC.loop (T := Nat × (List Int)) (fun gg => [(2, .pointer (some ⟨b1, 0, none⟩)), (6, .int .i64 (gg.1 : Nat))]) (fun gg w => (16 ≤ gg.1 ∧ gg.1 ≤ 64 ∧ gg.2 = iter (fun n => schedW (n + 16)) (gg.1 - 16) (fillsW bl) ∧ gg.2.length = 64) ∧ St w0 ((Cel b1 (arrCells w32C gg.2) 135) :: (Cel p (arrCells byteC bl) 114) :: L) w) (fun gg => 64 - gg.1) (16, wl) [2, 6] (by kernel_rfl) ⟨⟨by omega, by omega, (by show wl = iter (fun n => schedW (n + 16)) (16 - 16) (fillsW bl); rw [Nat.sub_self, iter_zero, hp.2.1, show k = 16 by omega, fillsW]), hp.2.2⟩, hs7⟩ ?_
    rintro ⟨i, xl⟩ w15 ⟨hp20, hs16⟩
    have hp2 : 16 ≤ i ∧ i ≤ 64 ∧ xl = iter (fun n => schedW (n + 16)) (i - 16) (fillsW bl) ∧ xl.length = 64 := hp20
    have hs17 : St w0 ((Cel b1 (arrCells w32C xl) 135) :: (Cel p (arrCells byteC bl) 114) :: L) w15 := hs16
    refine GoC.slots (S' := [(2, .pointer (some ⟨b1, 0, none⟩)), (6, .int .i64 (i : Nat))]) rfl ?_
    refine GoC.seq (GoC.seq ?_)
    refine GoC.regT [3, 3] (.rd 0 (.rd 1 .done)) (by kernel_rfl) (by kernel_rfl) ?_
    refine GoR.phaseK [(0, .gen []), (1, .gen [])] [39, 2, 6] [] [(39, .bool (decide (((i : Nat) : Int) < 64))), (2, .pointer (some ⟨b1, 0, none⟩)), (6, .int .i64 (i : Nat))] (by kernel_rfl) rfl ak0 ?_
    refine GoR.done (GoQ.thn ?_)
    refine GoC.cond (t := decide (((i : Nat) : Int) < 64)) (by kernel_rfl) (fun h18 => ?_) (fun h18 => ?_)
    · have h18' : ((i : Nat) : Int) < 64 := of_decide_eq_true h18
      refine GoC.skip (GoQ.thn (GoC.seq (GoC.block (GoC.seq ?_))))
      refine GoC.regD [0, 1, 3, 7, 0, 16, 48, 112, 15, 511] (.rd 0 (.rd 1 (.rd 2 (.rd 3 (.rd 4 (.rd 5 (.rd 6 (.rd 7 (.rd 8 (.rd 9 .done)))))))))) (by kernel_rfl) (by kernel_rfl) noPan_body (by kernel_rfl) hs17 ?_
      intro w19 hs20 hw21
      refine GoR.phaseK [(0, .gen []), (1, .as_ (.int .i64 (i - 15 : Nat)) (.gen [])), (2, .as_ (.pointer (some ⟨b1, 0 + ((i - 15) * 1), none⟩)) .at_), (3, .gen [.int .u32 (xl.getD (i - 15) (0 : Int))]), (4, .gen []), (5, .as_ (.int .i64 (i - 2 : Nat)) (.gen [])), (6, .as_ (.pointer (some ⟨b1, 0 + ((i - 2) * 1), none⟩)) .at_), (7, .gen [.int .u32 (xl.getD (i - 2) (0 : Int))]), (8, .gen []), (9, .gen [])] [8, 7, 2, 6] [(1, [.prop (Value.int .i64 (IntKind.i64.wrap ((i : Nat) - 15)) = Value.int .i64 (i - 15 : Nat))]), (2, [.prop (0 ≤ ((i - 15 : Nat) : Int) ∧ ((i - 15 : Nat) : Int) < (64 : Int)), .prop (Value.pointer (some (Addr.add ⟨b1, 0, none⟩ (Int.toNat (i - 15 : Nat) * 1))) = Value.pointer (some ⟨b1, 0 + ((i - 15) * 1), none⟩))]), (3, [.cell ⟨b1, 0 + ((i - 15) * 1), none⟩ (.int .u32 (xl.getD (i - 15) (0 : Int)))]), (5, [.prop (Value.int .i64 (IntKind.i64.wrap ((i : Nat) - 2)) = Value.int .i64 (i - 2 : Nat))]), (6, [.prop (0 ≤ ((i - 2 : Nat) : Int) ∧ ((i - 2 : Nat) : Int) < (64 : Int)), .prop (Value.pointer (some (Addr.add ⟨b1, 0, none⟩ (Int.toNat (i - 2 : Nat) * 1))) = Value.pointer (some ⟨b1, 0 + ((i - 2) * 1), none⟩))]), (7, [.cell ⟨b1, 0 + ((i - 2) * 1), none⟩ (.int .u32 (xl.getD (i - 2) (0 : Int)))])] [(8, .int .u32 (xl.getD (i - 2) (0 : Int))), (7, .int .u32 (xl.getD (i - 15) (0 : Int))), (2, .pointer (some ⟨b1, 0, none⟩)), (6, .int .i64 (i : Nat))] (by kernel_rfl) rfl (ak (okp (i64eq (by omega) (by omega) (by omega)) ok0) (ak (okp (by omega) (okp (ptrAdd _ _ _) ok0)) (ak (okc (RowsAt.at0 (arr_rows hs20 0 rfl (w32F).size (0 : Int)) (k := (i - 15)) (by first | omega | (simp only [List.length_set]; omega) | (simp only [List.length_set, List.length_append, List.length_cons, List.length_nil]; omega)) (j := 0) (by decide) (by kernel_rfl)) ok0) (ak (okp (i64eq (by omega) (by omega) (by omega)) ok0) (ak (okp (by omega) (okp (ptrAdd _ _ _) ok0)) (ak (okc (RowsAt.at0 (arr_rows hs20 0 rfl (w32F).size (0 : Int)) (k := (i - 2)) (by first | omega | (simp only [List.length_set]; omega) | (simp only [List.length_set, List.length_append, List.length_cons, List.length_nil]; omega)) (j := 0) (by decide) (by kernel_rfl)) ok0) ak0)))))) ?_
      refine GoR.done (GoQ.thn ?_)
      refine GoC.regD [0, 0, 2, 6, 14, 0, 32, 0, 224, 480, 0, 1024, 4064, 8190, 0, 16384, 49152, 114688, 262142, 0, 524768, 0, 3670496, 7864800, 0, 16777216, 66585056, 134217726, 268435455, 536870911] (.rd 0 (.rd 1 (.rd 2 (.rd 3 (.rd 4 (.rd 5 (.rd 7 (.rd 10 (.rd 11 (.rd 14 (.rd 15 (.rd 16 (.rd 17 (.rd 19 (.rd 21 (.rd 24 (.rd 25 (.ef 6 (.ef 8 (.rd 9 (.rd 12 (.rd 13 (.rd 18 (.ef 20 (.ef 22 (.rd 23 (.rd 26 (.rd 27 (.rd 28 (.ef 29 .done)))))))))))))))))))))))))))))) (by kernel_rfl) (by kernel_rfl) noPan_body (by kernel_rfl) hs20 ?_
      intro w22 hs23 hw24
      refine GoR.phaseK [(0, .gen []), (1, .gen []), (2, .as_ (.int .i64 (i - 16 : Nat)) (.gen [])), (3, .as_ (.pointer (some ⟨b1, 0 + ((i - 16) * 1), none⟩)) .at_), (4, .gen [.int .u32 (xl.getD (i - 16) (0 : Int))]), (5, .gen []), (7, .gen []), (10, .gen []), (11, .shift (iShr .u32 (xl.getD (i - 15) (0 : Int)) 3)), (14, .gen []), (15, .as_ (.int .i64 (i - 7 : Nat)) (.gen [])), (16, .as_ (.pointer (some ⟨b1, 0 + ((i - 7) * 1), none⟩)) .at_), (17, .gen [.int .u32 (xl.getD (i - 7) (0 : Int))]), (19, .gen []), (21, .gen []), (24, .gen []), (25, .shift (iShr .u32 (xl.getD (i - 2) (0 : Int)) 10))] [75, 71, 69, 67, 61, 57, 55, 54, 50, 2, 6] [(2, [.prop (Value.int .i64 (IntKind.i64.wrap ((i : Nat) - 16)) = Value.int .i64 (i - 16 : Nat))]), (3, [.prop (0 ≤ ((i - 16 : Nat) : Int) ∧ ((i - 16 : Nat) : Int) < (64 : Int)), .prop (Value.pointer (some (Addr.add ⟨b1, 0, none⟩ (Int.toNat (i - 16 : Nat) * 1))) = Value.pointer (some ⟨b1, 0 + ((i - 16) * 1), none⟩))]), (4, [.cell ⟨b1, 0 + ((i - 16) * 1), none⟩ (.int .u32 (xl.getD (i - 16) (0 : Int)))]), (11, [.prop ((0 : Int) ≤ 3 ∧ Int.fdiv (xl.getD (i - 15) (0 : Int)) (2 ^ (min (Int.toNat 3) (IntKind.bits .u32))) = iShr .u32 (xl.getD (i - 15) (0 : Int)) 3)]), (15, [.prop (Value.int .i64 (IntKind.i64.wrap ((i : Nat) - 7)) = Value.int .i64 (i - 7 : Nat))]), (16, [.prop (0 ≤ ((i - 7 : Nat) : Int) ∧ ((i - 7 : Nat) : Int) < (64 : Int)), .prop (Value.pointer (some (Addr.add ⟨b1, 0, none⟩ (Int.toNat (i - 7 : Nat) * 1))) = Value.pointer (some ⟨b1, 0 + ((i - 7) * 1), none⟩))]), (17, [.cell ⟨b1, 0 + ((i - 7) * 1), none⟩ (.int .u32 (xl.getD (i - 7) (0 : Int)))]), (25, [.prop ((0 : Int) ≤ 10 ∧ Int.fdiv (xl.getD (i - 2) (0 : Int)) (2 ^ (min (Int.toNat 10) (IntKind.bits .u32))) = iShr .u32 (xl.getD (i - 2) (0 : Int)) 10)])] [(75, .int .u32 (iShr .u32 (xl.getD (i - 2) (0 : Int)) 10)), (71, .int .u32 (xl.getD (i - 2) (0 : Int))), (69, .int .u32 (xl.getD (i - 2) (0 : Int))), (67, .int .u32 (xl.getD (i - 7) (0 : Int))), (61, .int .u32 (iShr .u32 (xl.getD (i - 15) (0 : Int)) 3)), (57, .int .u32 (xl.getD (i - 15) (0 : Int))), (55, .int .u32 (xl.getD (i - 15) (0 : Int))), (54, .int .u32 (xl.getD (i - 16) (0 : Int))), (50, .int .i64 (i : Nat)), (2, .pointer (some ⟨b1, 0, none⟩)), (6, .int .i64 (i : Nat))] (by kernel_rfl) rfl (ak (okp (i64eq (by omega) (by omega) (by omega)) ok0) (ak (okp (by omega) (okp (ptrAdd _ _ _) ok0)) (ak (okc (RowsAt.at0 (arr_rows hs23 0 rfl (w32F).size (0 : Int)) (k := (i - 16)) (by first | omega | (simp only [List.length_set]; omega) | (simp only [List.length_set, List.length_append, List.length_cons, List.length_nil]; omega)) (j := 0) (by decide) (by kernel_rfl)) ok0) (ak (okp ⟨(by first | omega | exact uwrap_nn rfl _), rfl⟩ ok0) (ak (okp (i64eq (by omega) (by omega) (by omega)) ok0) (ak (okp (by omega) (okp (ptrAdd _ _ _) ok0)) (ak (okc (RowsAt.at0 (arr_rows hs23 0 rfl (w32F).size (0 : Int)) (k := (i - 7)) (by first | omega | (simp only [List.length_set]; omega) | (simp only [List.length_set, List.length_append, List.length_cons, List.length_nil]; omega)) (j := 0) (by decide) (by kernel_rfl)) ok0) (ak (okp ⟨(by first | omega | exact uwrap_nn rfl _), rfl⟩ ok0) ak0)))))))) ?_
      refine GoR.call rfl rfl (by kernel_rfl) (f := 65) (args := #[.int .u32 (xl.getD (i - 15) (0 : Int)), .int .i64 7]) (by kernel_rfl) Tryz.call65 (turnR_spec (xl.getD (i - 15) (0 : Int)) 7  hs23) ?_
      rintro v26 w27 ⟨rfl, hs25⟩
      refine ⟨(opl (n := [.prop ((0 : Int) ≤ 10 ∧ Int.fdiv (xl.getD (i - 2) (0 : Int)) (2 ^ (min (Int.toNat 10) (IntKind.bits .u32))) = iShr .u32 (xl.getD (i - 2) (0 : Int)) 10), .cell ⟨b1, 0 + ((i - 7) * 1), none⟩ (.int .u32 (xl.getD (i - 7) (0 : Int))), .prop (0 ≤ ((i - 7 : Nat) : Int) ∧ ((i - 7 : Nat) : Int) < (64 : Int)), .prop (Value.pointer (some (Addr.add ⟨b1, 0, none⟩ (Int.toNat (i - 7 : Nat) * 1))) = Value.pointer (some ⟨b1, 0 + ((i - 7) * 1), none⟩)), .prop (Value.int .i64 (IntKind.i64.wrap ((i : Nat) - 7)) = Value.int .i64 (i - 7 : Nat)), .prop ((0 : Int) ≤ 3 ∧ Int.fdiv (xl.getD (i - 15) (0 : Int)) (2 ^ (min (Int.toNat 3) (IntKind.bits .u32))) = iShr .u32 (xl.getD (i - 15) (0 : Int)) 3), .cell ⟨b1, 0 + ((i - 16) * 1), none⟩ (.int .u32 (xl.getD (i - 16) (0 : Int))), .prop (0 ≤ ((i - 16 : Nat) : Int) ∧ ((i - 16 : Nat) : Int) < (64 : Int)), .prop (Value.pointer (some (Addr.add ⟨b1, 0, none⟩ (Int.toNat (i - 16 : Nat) * 1))) = Value.pointer (some ⟨b1, 0 + ((i - 16) * 1), none⟩)), .prop (Value.int .i64 (IntKind.i64.wrap ((i : Nat) - 16)) = Value.int .i64 (i - 16 : Nat))]) (by kernel_rfl) (okp ⟨(by first | omega | exact uwrap_nn rfl _), rfl⟩ (okc (RowsAt.at0 (arr_rows hs25 0 rfl (w32F).size (0 : Int)) (k := (i - 7)) (by first | omega | (simp only [List.length_set]; omega) | (simp only [List.length_set, List.length_append, List.length_cons, List.length_nil]; omega)) (j := 0) (by decide) (by kernel_rfl)) (okp (by omega) (okp (ptrAdd _ _ _) (okp (i64eq (by omega) (by omega) (by omega)) (okp ⟨(by first | omega | exact uwrap_nn rfl _), rfl⟩ (okc (RowsAt.at0 (arr_rows hs25 0 rfl (w32F).size (0 : Int)) (k := (i - 16)) (by first | omega | (simp only [List.length_set]; omega) | (simp only [List.length_set, List.length_append, List.length_cons, List.length_nil]; omega)) (j := 0) (by decide) (by kernel_rfl)) (okp (by omega) (okp (ptrAdd _ _ _) (okp (i64eq (by omega) (by omega) (by omega)) ok0))))))))))), ?_⟩
      refine GoR.call rfl rfl (by kernel_rfl) (f := 65) (args := #[.int .u32 (xl.getD (i - 15) (0 : Int)), .int .i64 18]) (by kernel_rfl) Tryz.call65 (turnR_spec (xl.getD (i - 15) (0 : Int)) 18  hs25) ?_
      rintro v29 w30 ⟨rfl, hs28⟩
      refine ⟨(opl (n := [.prop ((0 : Int) ≤ 10 ∧ Int.fdiv (xl.getD (i - 2) (0 : Int)) (2 ^ (min (Int.toNat 10) (IntKind.bits .u32))) = iShr .u32 (xl.getD (i - 2) (0 : Int)) 10), .cell ⟨b1, 0 + ((i - 7) * 1), none⟩ (.int .u32 (xl.getD (i - 7) (0 : Int))), .prop (0 ≤ ((i - 7 : Nat) : Int) ∧ ((i - 7 : Nat) : Int) < (64 : Int)), .prop (Value.pointer (some (Addr.add ⟨b1, 0, none⟩ (Int.toNat (i - 7 : Nat) * 1))) = Value.pointer (some ⟨b1, 0 + ((i - 7) * 1), none⟩)), .prop (Value.int .i64 (IntKind.i64.wrap ((i : Nat) - 7)) = Value.int .i64 (i - 7 : Nat)), .prop ((0 : Int) ≤ 3 ∧ Int.fdiv (xl.getD (i - 15) (0 : Int)) (2 ^ (min (Int.toNat 3) (IntKind.bits .u32))) = iShr .u32 (xl.getD (i - 15) (0 : Int)) 3), .cell ⟨b1, 0 + ((i - 16) * 1), none⟩ (.int .u32 (xl.getD (i - 16) (0 : Int))), .prop (0 ≤ ((i - 16 : Nat) : Int) ∧ ((i - 16 : Nat) : Int) < (64 : Int)), .prop (Value.pointer (some (Addr.add ⟨b1, 0, none⟩ (Int.toNat (i - 16 : Nat) * 1))) = Value.pointer (some ⟨b1, 0 + ((i - 16) * 1), none⟩)), .prop (Value.int .i64 (IntKind.i64.wrap ((i : Nat) - 16)) = Value.int .i64 (i - 16 : Nat))]) (by kernel_rfl) (okp ⟨(by first | omega | exact uwrap_nn rfl _), rfl⟩ (okc (RowsAt.at0 (arr_rows hs28 0 rfl (w32F).size (0 : Int)) (k := (i - 7)) (by first | omega | (simp only [List.length_set]; omega) | (simp only [List.length_set, List.length_append, List.length_cons, List.length_nil]; omega)) (j := 0) (by decide) (by kernel_rfl)) (okp (by omega) (okp (ptrAdd _ _ _) (okp (i64eq (by omega) (by omega) (by omega)) (okp ⟨(by first | omega | exact uwrap_nn rfl _), rfl⟩ (okc (RowsAt.at0 (arr_rows hs28 0 rfl (w32F).size (0 : Int)) (k := (i - 16)) (by first | omega | (simp only [List.length_set]; omega) | (simp only [List.length_set, List.length_append, List.length_cons, List.length_nil]; omega)) (j := 0) (by decide) (by kernel_rfl)) (okp (by omega) (okp (ptrAdd _ _ _) (okp (i64eq (by omega) (by omega) (by omega)) ok0))))))))))), ?_⟩
      refine GoR.phaseK [(9, .gen []), (12, .gen []), (13, .gen []), (18, .gen [])] [68, 75, 71, 69, 50, 2, 6] [] [(68, .int .u32 (IntKind.u32.wrap ((IntKind.u32.wrap ((xl.getD (i - 16) (0 : Int)) + (iXor .u32 (iXor .u32 (turnR (xl.getD (i - 15) (0 : Int)) 7) (turnR (xl.getD (i - 15) (0 : Int)) 18)) (iShr .u32 (xl.getD (i - 15) (0 : Int)) 3)))) + (xl.getD (i - 7) (0 : Int))))), (75, .int .u32 (iShr .u32 (xl.getD (i - 2) (0 : Int)) 10)), (71, .int .u32 (xl.getD (i - 2) (0 : Int))), (69, .int .u32 (xl.getD (i - 2) (0 : Int))), (50, .int .i64 (i : Nat)), (2, .pointer (some ⟨b1, 0, none⟩)), (6, .int .i64 (i : Nat))] (by kernel_rfl) rfl ak0 ?_
      refine GoR.call rfl rfl (by kernel_rfl) (f := 65) (args := #[.int .u32 (xl.getD (i - 2) (0 : Int)), .int .i64 17]) (by kernel_rfl) Tryz.call65 (turnR_spec (xl.getD (i - 2) (0 : Int)) 17  hs28) ?_
      rintro v32 w33 ⟨rfl, hs31⟩
      refine ⟨(opl (n := [.prop ((0 : Int) ≤ 10 ∧ Int.fdiv (xl.getD (i - 2) (0 : Int)) (2 ^ (min (Int.toNat 10) (IntKind.bits .u32))) = iShr .u32 (xl.getD (i - 2) (0 : Int)) 10), .cell ⟨b1, 0 + ((i - 7) * 1), none⟩ (.int .u32 (xl.getD (i - 7) (0 : Int))), .prop (0 ≤ ((i - 7 : Nat) : Int) ∧ ((i - 7 : Nat) : Int) < (64 : Int)), .prop (Value.pointer (some (Addr.add ⟨b1, 0, none⟩ (Int.toNat (i - 7 : Nat) * 1))) = Value.pointer (some ⟨b1, 0 + ((i - 7) * 1), none⟩)), .prop (Value.int .i64 (IntKind.i64.wrap ((i : Nat) - 7)) = Value.int .i64 (i - 7 : Nat)), .prop ((0 : Int) ≤ 3 ∧ Int.fdiv (xl.getD (i - 15) (0 : Int)) (2 ^ (min (Int.toNat 3) (IntKind.bits .u32))) = iShr .u32 (xl.getD (i - 15) (0 : Int)) 3), .cell ⟨b1, 0 + ((i - 16) * 1), none⟩ (.int .u32 (xl.getD (i - 16) (0 : Int))), .prop (0 ≤ ((i - 16 : Nat) : Int) ∧ ((i - 16 : Nat) : Int) < (64 : Int)), .prop (Value.pointer (some (Addr.add ⟨b1, 0, none⟩ (Int.toNat (i - 16 : Nat) * 1))) = Value.pointer (some ⟨b1, 0 + ((i - 16) * 1), none⟩)), .prop (Value.int .i64 (IntKind.i64.wrap ((i : Nat) - 16)) = Value.int .i64 (i - 16 : Nat))]) (by kernel_rfl) (okp ⟨(by first | omega | exact uwrap_nn rfl _), rfl⟩ (okc (RowsAt.at0 (arr_rows hs31 0 rfl (w32F).size (0 : Int)) (k := (i - 7)) (by first | omega | (simp only [List.length_set]; omega) | (simp only [List.length_set, List.length_append, List.length_cons, List.length_nil]; omega)) (j := 0) (by decide) (by kernel_rfl)) (okp (by omega) (okp (ptrAdd _ _ _) (okp (i64eq (by omega) (by omega) (by omega)) (okp ⟨(by first | omega | exact uwrap_nn rfl _), rfl⟩ (okc (RowsAt.at0 (arr_rows hs31 0 rfl (w32F).size (0 : Int)) (k := (i - 16)) (by first | omega | (simp only [List.length_set]; omega) | (simp only [List.length_set, List.length_append, List.length_cons, List.length_nil]; omega)) (j := 0) (by decide) (by kernel_rfl)) (okp (by omega) (okp (ptrAdd _ _ _) (okp (i64eq (by omega) (by omega) (by omega)) ok0))))))))))), ?_⟩
      refine GoR.call rfl rfl (by kernel_rfl) (f := 65) (args := #[.int .u32 (xl.getD (i - 2) (0 : Int)), .int .i64 19]) (by kernel_rfl) Tryz.call65 (turnR_spec (xl.getD (i - 2) (0 : Int)) 19  hs31) ?_
      rintro v35 w36 ⟨rfl, hs34⟩
      refine ⟨(opl (n := [.prop ((0 : Int) ≤ 10 ∧ Int.fdiv (xl.getD (i - 2) (0 : Int)) (2 ^ (min (Int.toNat 10) (IntKind.bits .u32))) = iShr .u32 (xl.getD (i - 2) (0 : Int)) 10), .cell ⟨b1, 0 + ((i - 7) * 1), none⟩ (.int .u32 (xl.getD (i - 7) (0 : Int))), .prop (0 ≤ ((i - 7 : Nat) : Int) ∧ ((i - 7 : Nat) : Int) < (64 : Int)), .prop (Value.pointer (some (Addr.add ⟨b1, 0, none⟩ (Int.toNat (i - 7 : Nat) * 1))) = Value.pointer (some ⟨b1, 0 + ((i - 7) * 1), none⟩)), .prop (Value.int .i64 (IntKind.i64.wrap ((i : Nat) - 7)) = Value.int .i64 (i - 7 : Nat)), .prop ((0 : Int) ≤ 3 ∧ Int.fdiv (xl.getD (i - 15) (0 : Int)) (2 ^ (min (Int.toNat 3) (IntKind.bits .u32))) = iShr .u32 (xl.getD (i - 15) (0 : Int)) 3), .cell ⟨b1, 0 + ((i - 16) * 1), none⟩ (.int .u32 (xl.getD (i - 16) (0 : Int))), .prop (0 ≤ ((i - 16 : Nat) : Int) ∧ ((i - 16 : Nat) : Int) < (64 : Int)), .prop (Value.pointer (some (Addr.add ⟨b1, 0, none⟩ (Int.toNat (i - 16 : Nat) * 1))) = Value.pointer (some ⟨b1, 0 + ((i - 16) * 1), none⟩)), .prop (Value.int .i64 (IntKind.i64.wrap ((i : Nat) - 16)) = Value.int .i64 (i - 16 : Nat))]) (by kernel_rfl) (okp ⟨(by first | omega | exact uwrap_nn rfl _), rfl⟩ (okc (RowsAt.at0 (arr_rows hs34 0 rfl (w32F).size (0 : Int)) (k := (i - 7)) (by first | omega | (simp only [List.length_set]; omega) | (simp only [List.length_set, List.length_append, List.length_cons, List.length_nil]; omega)) (j := 0) (by decide) (by kernel_rfl)) (okp (by omega) (okp (ptrAdd _ _ _) (okp (i64eq (by omega) (by omega) (by omega)) (okp ⟨(by first | omega | exact uwrap_nn rfl _), rfl⟩ (okc (RowsAt.at0 (arr_rows hs34 0 rfl (w32F).size (0 : Int)) (k := (i - 16)) (by first | omega | (simp only [List.length_set]; omega) | (simp only [List.length_set, List.length_append, List.length_cons, List.length_nil]; omega)) (j := 0) (by decide) (by kernel_rfl)) (okp (by omega) (okp (ptrAdd _ _ _) (okp (i64eq (by omega) (by omega) (by omega)) ok0))))))))))), ?_⟩
      refine GoR.phaseK [(23, .gen []), (26, .gen []), (27, .gen []), (28, .as_ (.pointer (some ⟨b1, 0 + (i * 1), none⟩)) .at_)] [78, 77, 2, 6] [(28, [.prop (0 ≤ ((i : Nat) : Int) ∧ ((i : Nat) : Int) < (64 : Int)), .prop (Value.pointer (some (Addr.add ⟨b1, 0, none⟩ (Int.toNat (i : Nat) * 1))) = Value.pointer (some ⟨b1, 0 + (i * 1), none⟩))])] [(78, .pointer (some ⟨b1, 0 + (i * 1), none⟩)), (77, .int .u32 (IntKind.u32.wrap ((IntKind.u32.wrap ((IntKind.u32.wrap ((xl.getD (i - 16) (0 : Int)) + (iXor .u32 (iXor .u32 (turnR (xl.getD (i - 15) (0 : Int)) 7) (turnR (xl.getD (i - 15) (0 : Int)) 18)) (iShr .u32 (xl.getD (i - 15) (0 : Int)) 3)))) + (xl.getD (i - 7) (0 : Int)))) + (iXor .u32 (iXor .u32 (turnR (xl.getD (i - 2) (0 : Int)) 17) (turnR (xl.getD (i - 2) (0 : Int)) 19)) (iShr .u32 (xl.getD (i - 2) (0 : Int)) 10))))), (2, .pointer (some ⟨b1, 0, none⟩)), (6, .int .i64 (i : Nat))] (by kernel_rfl) rfl (ak (okp (by omega) (okp (ptrAdd _ _ _) ok0)) ak0) ?_
      refine GoR.store rfl rfl (by kernel_rfl) (b := b1) (off := 0 + (i * 1)) (v := .int .u32 (IntKind.u32.wrap ((IntKind.u32.wrap ((IntKind.u32.wrap ((xl.getD (i - 16) (0 : Int)) + (iXor .u32 (iXor .u32 (turnR (xl.getD (i - 15) (0 : Int)) 7) (turnR (xl.getD (i - 15) (0 : Int)) 18)) (iShr .u32 (xl.getD (i - 15) (0 : Int)) 3)))) + (xl.getD (i - 7) (0 : Int)))) + (iXor .u32 (iXor .u32 (turnR (xl.getD (i - 2) (0 : Int)) 17) (turnR (xl.getD (i - 2) (0 : Int)) 19)) (iShr .u32 (xl.getD (i - 2) (0 : Int)) 10))))) (by kernel_rfl) (by kernel_rfl) (ti := Tryz.t111) (by kernel_rfl) hs34 0 rfl (by kernel_rfl) (by kernel_rfl) (by rw [Nat.zero_add]; exact arr_room (f := w32C) (size := 1) (l := xl) (k := i) (w32F).size (by first | omega | (simp only [List.length_set]; omega) | (simp only [List.length_set, List.length_append, List.length_cons, List.length_nil]; omega))) (cs' := arrCells w32C (xl.set i (IntKind.u32.wrap ((IntKind.u32.wrap ((IntKind.u32.wrap ((xl.getD (i - 16) (0 : Int)) + (iXor .u32 (iXor .u32 (turnR (xl.getD (i - 15) (0 : Int)) 7) (turnR (xl.getD (i - 15) (0 : Int)) 18)) (iShr .u32 (xl.getD (i - 15) (0 : Int)) 3)))) + (xl.getD (i - 7) (0 : Int)))) + (iXor .u32 (iXor .u32 (turnR (xl.getD (i - 2) (0 : Int)) 17) (turnR (xl.getD (i - 2) (0 : Int)) 19)) (iShr .u32 (xl.getD (i - 2) (0 : Int)) 10)))))) (L' := (Cel b1 (arrCells w32C (xl.set i (IntKind.u32.wrap ((IntKind.u32.wrap ((IntKind.u32.wrap ((xl.getD (i - 16) (0 : Int)) + (iXor .u32 (iXor .u32 (turnR (xl.getD (i - 15) (0 : Int)) 7) (turnR (xl.getD (i - 15) (0 : Int)) 18)) (iShr .u32 (xl.getD (i - 15) (0 : Int)) 3)))) + (xl.getD (i - 7) (0 : Int)))) + (iXor .u32 (iXor .u32 (turnR (xl.getD (i - 2) (0 : Int)) 17) (turnR (xl.getD (i - 2) (0 : Int)) 19)) (iShr .u32 (xl.getD (i - 2) (0 : Int)) 10)))))) 135) :: (Cel p (arrCells byteC bl) 114) :: L) (by rw [Nat.zero_add]; exact splice_arr (f := w32C) (size := 1) (l := xl) (k := i) (w32F).size (by first | omega | (simp only [List.length_set]; omega) | (simp only [List.length_set, List.length_append, List.length_cons, List.length_nil]; omega)) (IntKind.u32.wrap ((IntKind.u32.wrap ((IntKind.u32.wrap ((xl.getD (i - 16) (0 : Int)) + (iXor .u32 (iXor .u32 (turnR (xl.getD (i - 15) (0 : Int)) 7) (turnR (xl.getD (i - 15) (0 : Int)) 18)) (iShr .u32 (xl.getD (i - 15) (0 : Int)) 3)))) + (xl.getD (i - 7) (0 : Int)))) + (iXor .u32 (iXor .u32 (turnR (xl.getD (i - 2) (0 : Int)) 17) (turnR (xl.getD (i - 2) (0 : Int)) 19)) (iShr .u32 (xl.getD (i - 2) (0 : Int)) 10))))) rfl ?_
      intro w37 hs38
      refine ⟨(opn (by kernel_rfl)), ?_⟩
      refine GoR.done (GoQ.blkN (GoQ.thn ?_))
      refine GoC.regT [7, 7, 7] (.rd 0 (.rd 1 (.rd 2 .done))) (by kernel_rfl) (by kernel_rfl) ?_
      refine GoR.phaseK [(0, .gen []), (1, .as_ (.int .i64 ((i : Nat) + 1)) (.gen [])), (2, .gen [])] [6, 2] [(1, [.prop (Value.int .i64 (IntKind.i64.wrap ((i : Nat) + 1)) = Value.int .i64 ((i : Nat) + 1))])] [(6, .int .i64 ((i : Nat) + 1)), (2, .pointer (some ⟨b1, 0, none⟩))] (by kernel_rfl) rfl (ak (okp (i64ok (by omega) (by omega)) ok0) ak0) ?_
      refine GoR.done ?_
      exact GoQ.back (i + 1, xl.set i (IntKind.u32.wrap ((IntKind.u32.wrap ((IntKind.u32.wrap ((xl.getD (i - 16) (0 : Int)) + (iXor .u32 (iXor .u32 (turnR (xl.getD (i - 15) (0 : Int)) 7) (turnR (xl.getD (i - 15) (0 : Int)) 18)) (iShr .u32 (xl.getD (i - 15) (0 : Int)) 3)))) + (xl.getD (i - 7) (0 : Int)))) + (iXor .u32 (iXor .u32 (turnR (xl.getD (i - 2) (0 : Int)) 17) (turnR (xl.getD (i - 2) (0 : Int)) 19)) (iShr .u32 (xl.getD (i - 2) (0 : Int)) 10))))) [2, 6] (by kernel_rfl) (by show 64 - (i + 1) < 64 - i; omega) ⟨⟨by omega, by omega, by rw [show i + 1 - 16 = (i - 16) + 1 by omega, iter_succ, ← hp2.2.2.1, show i - 16 + 16 = i by omega]; rfl, by simp only [List.length_set]; exact hp2.2.2.2⟩, hs38⟩
    · have h18' : ¬ (((i : Nat) : Int) < 64) := of_decide_eq_false h18
      refine GoC.exit (GoQ.skipC (GoQ.skipL (GoQ.hit (GoQ.thn (GoC.seq ?_)))))
      refine GoC.regT [3, 3] (.rd 0 (.ef 1 .done)) (by kernel_rfl) (by kernel_rfl) ?_
      refine GoR.phaseK [(0, .agg (arrCells w32C xl))] [79, 2] [(0, [.prop (Array.size ((arrCells w32C xl)) = 64), .cells ⟨b1, 0, none⟩ (arrCells w32C xl)])] [(79, .agg (arrCells w32C xl)), (2, .pointer (some ⟨b1, 0, none⟩))] (by kernel_rfl) rfl (ak (okp (arrvSize w32F (show (xl).length = 64 from (by first | assumption | omega | decide)) rfl) (oka (hs17.cells 0 0 rfl (by simp)) ok0)) ak0) ?_
      refine GoR.store rfl rfl (by kernel_rfl) (b := b1) (off := 0) (v := .agg (arrCells w32C xl)) (by kernel_rfl) (by kernel_rfl) (ti := Tryz.t135) (by kernel_rfl) hs17 0 rfl (arrvCells w32F (show (xl).length = 64 from (by first | assumption | omega | decide)) (by kernel_rfl)) (arrvOne w32F) (arrvRoom w32F (show (xl).length = 64 from (by first | assumption | omega | decide)) (by rw [arrvSize w32F (show (xl).length = 64 from (by first | assumption | omega | decide)) (m := 64) rfl]; rfl)) (cs' := arrCells w32C xl) (L' := (Cel b1 (arrCells w32C xl) 135) :: (Cel p (arrCells byteC bl) 114) :: L) (arrvPut w32F (show (xl).length = 64 from (by first | assumption | omega | decide)) (by rw [arrvSize w32F (show (xl).length = 64 from (by first | assumption | omega | decide)) (m := 64) rfl]; rfl)) rfl ?_
      intro w39 hs40
      refine ⟨(opn (by kernel_rfl)), ?_⟩
      refine GoR.done (GoQ.thn (GoC.ret ?_))
      refine GoQ.done (.inl rfl) (v := .agg (arrCells w32C xl)) (fun a hf => resultsA rfl (by kernel_rfl) (ti := Tryz.t135) (by kernel_rfl) (by kernel_rfl) (vs := (arrCells w32C xl)) (arrvSize w32F (show (xl).length = 64 from (by first | assumption | omega | decide)) (by kernel_rfl)) (hs40.cells 0 0 rfl (by simp)) a hf) ?_
      have hs41 : St w0 ((Cel p (arrCells byteC bl) 114) :: L) w39 := hs40.drop 1
      exact ⟨(by rw [hp2.2.2.1, show i = 64 by omega]; rfl), hs41⟩
end Go.Proofs.YtkiaagddmlddpaaGreatDoor

/-! ShaC -/
namespace Go.Proofs.YtkiaagddmlddpaaGreatDoor
open Go.RowKit Go.Sx
set_option linter.unusedVariables false
set_option linter.unusedSimpArgs false
set_option linter.unnecessarySimpa false
set_option maxRecDepth 100000
theorem iter_inv {α : Type} {f : Nat → α → α} {p : α → Prop} (hf : ∀ n a, p a → p (f n a)) (n : Nat) {a : α} (ha : p a) : p (iter f n a) := by
  induction n with
  | zero => exact ha
  | succ n ih => exact hf n _ ih
theorem fillsW_length (bl : List Int) : (fillsW bl).length = 64 :=
  iter_inv (p := fun l : List Int => l.length = 64) (fun k a h => iter_inv (p := fun l : List Int => l.length = 64) (fun j b h => by unfold fillW; rw [List.length_set]; exact h) 4 h) 16 (by rw [List.length_replicate])
theorem wordsL_length (bl : List Int) : (wordsL bl).length = 64 :=
  iter_inv (p := fun l : List Int => l.length = 64) (fun k a h => by unfold schedW; rw [List.length_set]; exact h) 48 (fillsW_length bl)
/-- What ratchet/sha.table holds. -/
def shaT : List Int := [1116352408,1899447441,3049323471,3921009573,961987163,1508970993,2453635748,2870763221,3624381080,310598401,607225278,1426881987,1925078388,2162078206,2614888103,3248222580,3835390401,4022224774,264347078,604807628,770255983,1249150122,1555081692,1996064986,2554220882,2821834349,2952996808,3210313671,3336571891,3584528711,113926993,338241895,666307205,773529912,1294757372,1396182291,1695183700,1986661051,2177026350,2456956037,2730485921,2820302411,3259730800,3345764771,3516065817,3600352804,4094571909,275423344,430227734,506948616,659060556,883997877,958139571,1322822218,1537002063,1747873779,1955562222,2024104815,2227730452,2361852424,2428436474,2756734187,3204031479,3329325298]
theorem shaT_length : shaT.length = 64 := by decide
def TabR (w : World) : Prop := RowsAt w (some ⟨0, 0, none⟩) 64 1 (fun k => w32C (shaT.getD k 0))
abbrev T8 := Int × Int × Int × Int × Int × Int × Int × Int
def rndW (ws : List Int) (k : Nat) (t : T8) : T8 := (IntKind.u32.wrap ((IntKind.u32.wrap ((IntKind.u32.wrap ((IntKind.u32.wrap ((IntKind.u32.wrap (t.2.2.2.2.2.2.2 + (iXor .u32 (iXor .u32 (turnR t.2.2.2.2.1 6) (turnR t.2.2.2.2.1 11)) (turnR t.2.2.2.2.1 25)))) + (iXor .u32 (iAnd .u32 t.2.2.2.2.1 t.2.2.2.2.2.1) (iAnd .u32 (iNot .u32 t.2.2.2.2.1) t.2.2.2.2.2.2.1)))) + (shaT.getD k 0))) + ((ws).getD k 0))) + (IntKind.u32.wrap ((iXor .u32 (iXor .u32 (turnR t.1 2) (turnR t.1 13)) (turnR t.1 22)) + (iXor .u32 (iXor .u32 (iAnd .u32 t.1 t.2.1) (iAnd .u32 t.1 t.2.2.1)) (iAnd .u32 t.2.1 t.2.2.1))))),
  t.1,
  t.2.1,
  t.2.2.1,
  IntKind.u32.wrap (t.2.2.2.1 + (IntKind.u32.wrap ((IntKind.u32.wrap ((IntKind.u32.wrap ((IntKind.u32.wrap (t.2.2.2.2.2.2.2 + (iXor .u32 (iXor .u32 (turnR t.2.2.2.2.1 6) (turnR t.2.2.2.2.1 11)) (turnR t.2.2.2.2.1 25)))) + (iXor .u32 (iAnd .u32 t.2.2.2.2.1 t.2.2.2.2.2.1) (iAnd .u32 (iNot .u32 t.2.2.2.2.1) t.2.2.2.2.2.2.1)))) + (shaT.getD k 0))) + ((ws).getD k 0)))),
  t.2.2.2.2.1,
  t.2.2.2.2.2.1,
  t.2.2.2.2.2.2.1)
def list8 (t : T8) : List Int := [t.1, t.2.1, t.2.2.1, t.2.2.2.1, t.2.2.2.2.1, t.2.2.2.2.2.1, t.2.2.2.2.2.2.1, t.2.2.2.2.2.2.2]
def sumW (al : List Int) (j : Nat) (vl : List Int) : List Int := vl.set j (IntKind.u32.wrap ((vl.getD j (0 : Int)) + ((al).getD j 0)))
def blockL (s bl : List Int) : List Int := iter (sumW (list8 (iter (rndW (wordsL bl)) 64 (s.getD 0 (0 : Int), s.getD 1 (0 : Int), s.getD 2 (0 : Int), s.getD 3 (0 : Int), s.getD 4 (0 : Int), s.getD 5 (0 : Int), s.getD 6 (0 : Int), s.getD 7 (0 : Int))))) 8 s
theorem block_eq {s bl : List Int} {xa xb xc xd xe xf xg xh : Int} (h : (xa, xb, xc, xd, xe, xf, xg, xh) = iter (rndW (wordsL bl)) 64 (s.getD 0 (0 : Int), s.getD 1 (0 : Int), s.getD 2 (0 : Int), s.getD 3 (0 : Int), s.getD 4 (0 : Int), s.getD 5 (0 : Int), s.getD 6 (0 : Int), s.getD 7 (0 : Int))) : iter (sumW [xa, xb, xc, xd, xe, xf, xg, xh]) 8 s = blockL s bl := by
  unfold blockL
  rw [← h]
  rfl
theorem blockL_length {s : List Int} (h : s.length = 8) (bl : List Int) : (blockL s bl).length = 8 :=
  iter_inv (p := fun l : List Int => l.length = 8) (fun k a h => by unfold sumW; rw [List.length_set]; exact h) 8 h
theorem block_spec {w0 w : World} {L : List Asn} (s : List Int) (bl : List Int) (hs8 : s.length = 8) (hb : bl.length = 64) (hT : ∀ w, St w0 L w → TabR w) (hs : St w0 (L) w) : Calls Tryz.prog 48 #[.agg (arrCells w32C s), .agg (arrCells byteC bl)] w (Ret fun rv w' => rv = .agg (arrCells w32C (blockL s bl)) ∧ St w0 (L) w') := by
  refine enter (args := [.agg (arrCells w32C s), .agg (arrCells byteC bl)]) Tryz.func48 rfl Tryz.ntmps48 (Nat.le_of_ble_eq_true (by kernel_rfl)) ?_
  refine GoC.slots (S' := [(0, .agg (arrCells w32C s)), (1, .agg (arrCells byteC bl))]) rfl ?_
  refine GoC.seq ?_
  refine GoC.regT [7, 7, 7] (.ef 0 (.ef 1 (.ef 2 .done))) (by kernel_rfl) (by kernel_rfl) ?_
  refine GoR.box rfl rfl (by kernel_rfl) (v := .agg (arrCells w32C s)) (by kernel_rfl) hs (cs := (arrCells w32C s)) (by kernel_rfl) ?_
  intro b1 w2 hs3
  refine ⟨(opn (by kernel_rfl)), ?_⟩
  refine GoR.box rfl rfl (by kernel_rfl) (v := .agg (arrCells byteC bl)) (by kernel_rfl) hs3 (cs := (arrCells byteC bl)) (by kernel_rfl) ?_
  intro b4 w5 hs6
  refine ⟨(opn (by kernel_rfl)), ?_⟩
  refine GoR.alloc rfl rfl (by kernel_rfl) (z := .agg #[.int .u32 0, .int .u32 0, .int .u32 0, .int .u32 0, .int .u32 0, .int .u32 0, .int .u32 0, .int .u32 0]) (by kernel_rfl) hs6 (cs := #[.int .u32 0, .int .u32 0, .int .u32 0, .int .u32 0, .int .u32 0, .int .u32 0, .int .u32 0, .int .u32 0]) (by kernel_rfl) ?_
  intro b7 w8 hs9
  refine ⟨(opn (by kernel_rfl)), ?_⟩
  refine GoR.done (GoQ.thn (GoC.seq ?_))
  refine GoC.regD [0, 1, 0, 4, 0, 16, 0, 64, 0, 256, 0, 1024, 0, 4096, 0, 16384, 3, 65551, 196671, 459007, 984063, 2035711, 4145151, 8388607] (.rd 0 (.rd 1 (.rd 2 (.rd 3 (.rd 4 (.rd 5 (.rd 6 (.rd 7 (.rd 8 (.rd 9 (.rd 10 (.rd 11 (.rd 12 (.rd 13 (.rd 14 (.rd 15 (.rd 16 (.rd 17 (.rd 18 (.rd 19 (.rd 20 (.rd 21 (.rd 22 (.rd 23 .done)))))))))))))))))))))))) (by kernel_rfl) (by kernel_rfl) noPan_body (by kernel_rfl) hs9 ?_
  intro w10 hs11 hw12
  refine GoR.phaseK [(0, .as_ (.pointer (some ⟨b1, 0, none⟩)) .at_), (1, .gen [.int .u32 (s.getD 0 (0 : Int))]), (2, .as_ (.pointer (some ⟨b1, 1, none⟩)) .at_), (3, .gen [.int .u32 (s.getD 1 (0 : Int))]), (4, .as_ (.pointer (some ⟨b1, 2, none⟩)) .at_), (5, .gen [.int .u32 (s.getD 2 (0 : Int))]), (6, .as_ (.pointer (some ⟨b1, 3, none⟩)) .at_), (7, .gen [.int .u32 (s.getD 3 (0 : Int))]), (8, .as_ (.pointer (some ⟨b1, 4, none⟩)) .at_), (9, .gen [.int .u32 (s.getD 4 (0 : Int))]), (10, .as_ (.pointer (some ⟨b1, 5, none⟩)) .at_), (11, .gen [.int .u32 (s.getD 5 (0 : Int))]), (12, .as_ (.pointer (some ⟨b1, 6, none⟩)) .at_), (13, .gen [.int .u32 (s.getD 6 (0 : Int))]), (14, .as_ (.pointer (some ⟨b1, 7, none⟩)) .at_), (15, .gen [.int .u32 (s.getD 7 (0 : Int))]), (16, .gen []), (17, .gen []), (18, .gen []), (19, .gen []), (20, .gen []), (21, .gen []), (22, .gen []), (23, .gen [])] [12, 11, 10, 9, 8, 7, 6, 5, 4, 3, 2] [(0, [.prop (0 ≤ (0 : Int) ∧ (0 : Int) < (8 : Int)), .prop (Value.pointer (some (Addr.add ⟨b1, 0, none⟩ (Int.toNat 0 * 1))) = Value.pointer (some ⟨b1, 0, none⟩))]), (1, [.cell ⟨b1, 0, none⟩ (.int .u32 (s.getD 0 (0 : Int)))]), (2, [.prop (0 ≤ (1 : Int) ∧ (1 : Int) < (8 : Int)), .prop (Value.pointer (some (Addr.add ⟨b1, 0, none⟩ (Int.toNat 1 * 1))) = Value.pointer (some ⟨b1, 1, none⟩))]), (3, [.cell ⟨b1, 1, none⟩ (.int .u32 (s.getD 1 (0 : Int)))]), (4, [.prop (0 ≤ (2 : Int) ∧ (2 : Int) < (8 : Int)), .prop (Value.pointer (some (Addr.add ⟨b1, 0, none⟩ (Int.toNat 2 * 1))) = Value.pointer (some ⟨b1, 2, none⟩))]), (5, [.cell ⟨b1, 2, none⟩ (.int .u32 (s.getD 2 (0 : Int)))]), (6, [.prop (0 ≤ (3 : Int) ∧ (3 : Int) < (8 : Int)), .prop (Value.pointer (some (Addr.add ⟨b1, 0, none⟩ (Int.toNat 3 * 1))) = Value.pointer (some ⟨b1, 3, none⟩))]), (7, [.cell ⟨b1, 3, none⟩ (.int .u32 (s.getD 3 (0 : Int)))]), (8, [.prop (0 ≤ (4 : Int) ∧ (4 : Int) < (8 : Int)), .prop (Value.pointer (some (Addr.add ⟨b1, 0, none⟩ (Int.toNat 4 * 1))) = Value.pointer (some ⟨b1, 4, none⟩))]), (9, [.cell ⟨b1, 4, none⟩ (.int .u32 (s.getD 4 (0 : Int)))]), (10, [.prop (0 ≤ (5 : Int) ∧ (5 : Int) < (8 : Int)), .prop (Value.pointer (some (Addr.add ⟨b1, 0, none⟩ (Int.toNat 5 * 1))) = Value.pointer (some ⟨b1, 5, none⟩))]), (11, [.cell ⟨b1, 5, none⟩ (.int .u32 (s.getD 5 (0 : Int)))]), (12, [.prop (0 ≤ (6 : Int) ∧ (6 : Int) < (8 : Int)), .prop (Value.pointer (some (Addr.add ⟨b1, 0, none⟩ (Int.toNat 6 * 1))) = Value.pointer (some ⟨b1, 6, none⟩))]), (13, [.cell ⟨b1, 6, none⟩ (.int .u32 (s.getD 6 (0 : Int)))]), (14, [.prop (0 ≤ (7 : Int) ∧ (7 : Int) < (8 : Int)), .prop (Value.pointer (some (Addr.add ⟨b1, 0, none⟩ (Int.toNat 7 * 1))) = Value.pointer (some ⟨b1, 7, none⟩))]), (15, [.cell ⟨b1, 7, none⟩ (.int .u32 (s.getD 7 (0 : Int)))])] [(12, .int .u32 (s.getD 7 (0 : Int))), (11, .int .u32 (s.getD 6 (0 : Int))), (10, .int .u32 (s.getD 5 (0 : Int))), (9, .int .u32 (s.getD 4 (0 : Int))), (8, .int .u32 (s.getD 3 (0 : Int))), (7, .int .u32 (s.getD 2 (0 : Int))), (6, .int .u32 (s.getD 1 (0 : Int))), (5, .int .u32 (s.getD 0 (0 : Int))), (4, .pointer (some ⟨b7, 0, none⟩)), (3, .pointer (some ⟨b4, 0, none⟩)), (2, .pointer (some ⟨b1, 0, none⟩))] (by kernel_rfl) rfl (ak (okp (by omega) (okp (ptrAdd _ _ _) ok0)) (ak (okc (RowsAt.at0 (arr_rows hs11 2 rfl (w32F).size (0 : Int)) (k := 0) (by first | omega | (simp only [List.length_set]; omega) | (simp only [List.length_set, List.length_append, List.length_cons, List.length_nil]; omega)) (j := 0) (by decide) (by kernel_rfl)) ok0) (ak (okp (by omega) (okp (ptrAdd _ _ _) ok0)) (ak (okc (RowsAt.at0 (arr_rows hs11 2 rfl (w32F).size (0 : Int)) (k := 1) (by first | omega | (simp only [List.length_set]; omega) | (simp only [List.length_set, List.length_append, List.length_cons, List.length_nil]; omega)) (j := 0) (by decide) (by kernel_rfl)) ok0) (ak (okp (by omega) (okp (ptrAdd _ _ _) ok0)) (ak (okc (RowsAt.at0 (arr_rows hs11 2 rfl (w32F).size (0 : Int)) (k := 2) (by first | omega | (simp only [List.length_set]; omega) | (simp only [List.length_set, List.length_append, List.length_cons, List.length_nil]; omega)) (j := 0) (by decide) (by kernel_rfl)) ok0) (ak (okp (by omega) (okp (ptrAdd _ _ _) ok0)) (ak (okc (RowsAt.at0 (arr_rows hs11 2 rfl (w32F).size (0 : Int)) (k := 3) (by first | omega | (simp only [List.length_set]; omega) | (simp only [List.length_set, List.length_append, List.length_cons, List.length_nil]; omega)) (j := 0) (by decide) (by kernel_rfl)) ok0) (ak (okp (by omega) (okp (ptrAdd _ _ _) ok0)) (ak (okc (RowsAt.at0 (arr_rows hs11 2 rfl (w32F).size (0 : Int)) (k := 4) (by first | omega | (simp only [List.length_set]; omega) | (simp only [List.length_set, List.length_append, List.length_cons, List.length_nil]; omega)) (j := 0) (by decide) (by kernel_rfl)) ok0) (ak (okp (by omega) (okp (ptrAdd _ _ _) ok0)) (ak (okc (RowsAt.at0 (arr_rows hs11 2 rfl (w32F).size (0 : Int)) (k := 5) (by first | omega | (simp only [List.length_set]; omega) | (simp only [List.length_set, List.length_append, List.length_cons, List.length_nil]; omega)) (j := 0) (by decide) (by kernel_rfl)) ok0) (ak (okp (by omega) (okp (ptrAdd _ _ _) ok0)) (ak (okc (RowsAt.at0 (arr_rows hs11 2 rfl (w32F).size (0 : Int)) (k := 6) (by first | omega | (simp only [List.length_set]; omega) | (simp only [List.length_set, List.length_append, List.length_cons, List.length_nil]; omega)) (j := 0) (by decide) (by kernel_rfl)) ok0) (ak (okp (by omega) (okp (ptrAdd _ _ _) ok0)) (ak (okc (RowsAt.at0 (arr_rows hs11 2 rfl (w32F).size (0 : Int)) (k := 7) (by first | omega | (simp only [List.length_set]; omega) | (simp only [List.length_set, List.length_append, List.length_cons, List.length_nil]; omega)) (j := 0) (by decide) (by kernel_rfl)) ok0) ak0)))))))))))))))) ?_
  refine GoR.done (GoQ.thn (GoC.seq (GoC.seq ?_)))
  refine GoC.regT [3, 3] (.ef 0 (.rd 1 .done)) (by kernel_rfl) (by kernel_rfl) ?_
  have hs13 : St w0 ((Cel b4 (arrCells byteC bl) 114) :: (Cel b7 #[.int .u32 0, .int .u32 0, .int .u32 0, .int .u32 0, .int .u32 0, .int .u32 0, .int .u32 0, .int .u32 0] 112) :: (Cel b1 (arrCells w32C s) 112) :: L) w10 := (hs11.pull 1 rfl)
  refine GoR.call rfl rfl (by kernel_rfl) (f := 64) (args := #[.pointer (some ⟨b4, 0, none⟩)]) (by kernel_rfl) Tryz.call64 (words_spec bl (by first | assumption | omega) hs13) ?_
  rintro v15 w16 ⟨rfl, hs14⟩
  refine ⟨(opn (by kernel_rfl)), ?_⟩
  refine GoR.phaseK [(1, .gen [])] [36, 35, 12, 11, 10, 9, 8, 7, 6, 5, 4, 2] [] [(36, .int .i64 0), (35, .agg (arrCells w32C (wordsL bl))), (12, .int .u32 (s.getD 7 (0 : Int))), (11, .int .u32 (s.getD 6 (0 : Int))), (10, .int .u32 (s.getD 5 (0 : Int))), (9, .int .u32 (s.getD 4 (0 : Int))), (8, .int .u32 (s.getD 3 (0 : Int))), (7, .int .u32 (s.getD 2 (0 : Int))), (6, .int .u32 (s.getD 1 (0 : Int))), (5, .int .u32 (s.getD 0 (0 : Int))), (4, .pointer (some ⟨b7, 0, none⟩)), (2, .pointer (some ⟨b1, 0, none⟩))] (by kernel_rfl) rfl ak0 ?_
  refine GoR.done (GoQ.thn (GoC.block ?_))
  refine GoC.loop (T := Nat × Int × Int × Int × Int × Int × Int × Int × Int) (fun gg => [(2, .pointer (some ⟨b1, 0, none⟩)), (4, .pointer (some ⟨b7, 0, none⟩)), (5, .int .u32 gg.2.1), (6, .int .u32 gg.2.2.1), (7, .int .u32 gg.2.2.2.1), (8, .int .u32 gg.2.2.2.2.1), (9, .int .u32 gg.2.2.2.2.2.1), (10, .int .u32 gg.2.2.2.2.2.2.1), (11, .int .u32 gg.2.2.2.2.2.2.2.1), (12, .int .u32 gg.2.2.2.2.2.2.2.2), (35, .agg (arrCells w32C (wordsL bl))), (36, .int .i64 (gg.1 : Nat))]) (fun gg w => (gg.1 ≤ 64 ∧ (gg.2.1, gg.2.2.1, gg.2.2.2.1, gg.2.2.2.2.1, gg.2.2.2.2.2.1, gg.2.2.2.2.2.2.1, gg.2.2.2.2.2.2.2.1, gg.2.2.2.2.2.2.2.2) = iter (rndW (wordsL bl)) gg.1 ((s.getD 0 (0 : Int)), (s.getD 1 (0 : Int)), (s.getD 2 (0 : Int)), (s.getD 3 (0 : Int)), (s.getD 4 (0 : Int)), (s.getD 5 (0 : Int)), (s.getD 6 (0 : Int)), (s.getD 7 (0 : Int)))) ∧ St w0 ((Cel b4 (arrCells byteC bl) 114) :: (Cel b7 #[.int .u32 0, .int .u32 0, .int .u32 0, .int .u32 0, .int .u32 0, .int .u32 0, .int .u32 0, .int .u32 0] 112) :: (Cel b1 (arrCells w32C s) 112) :: L) w) (fun gg => 64 - gg.1) (0, (s.getD 0 (0 : Int)), (s.getD 1 (0 : Int)), (s.getD 2 (0 : Int)), (s.getD 3 (0 : Int)), (s.getD 4 (0 : Int)), (s.getD 5 (0 : Int)), (s.getD 6 (0 : Int)), (s.getD 7 (0 : Int))) [2, 4, 5, 6, 7, 8, 9, 10, 11, 12, 35, 36] (by kernel_rfl) ⟨⟨Nat.zero_le _, rfl⟩, hs14⟩ ?_
  rintro ⟨k, xa, xb, xc, xd, xe, xf, xg, xh⟩ w17 ⟨hp0, hs18⟩
  have hp : k ≤ 64 ∧ (xa, xb, xc, xd, xe, xf, xg, xh) = iter (rndW (wordsL bl)) k ((s.getD 0 (0 : Int)), (s.getD 1 (0 : Int)), (s.getD 2 (0 : Int)), (s.getD 3 (0 : Int)), (s.getD 4 (0 : Int)), (s.getD 5 (0 : Int)), (s.getD 6 (0 : Int)), (s.getD 7 (0 : Int))) := hp0
  have hs19 : St w0 ((Cel b4 (arrCells byteC bl) 114) :: (Cel b7 #[.int .u32 0, .int .u32 0, .int .u32 0, .int .u32 0, .int .u32 0, .int .u32 0, .int .u32 0, .int .u32 0] 112) :: (Cel b1 (arrCells w32C s) 112) :: L) w17 := hs18
  refine GoC.slots (S' := [(2, .pointer (some ⟨b1, 0, none⟩)), (4, .pointer (some ⟨b7, 0, none⟩)), (5, .int .u32 xa), (6, .int .u32 xb), (7, .int .u32 xc), (8, .int .u32 xd), (9, .int .u32 xe), (10, .int .u32 xf), (11, .int .u32 xg), (12, .int .u32 xh), (35, .agg (arrCells w32C (wordsL bl))), (36, .int .i64 (k : Nat))]) rfl ?_
  refine GoC.seq ?_
  refine GoC.regT [1] (.rd 0 .done) (by kernel_rfl) (by kernel_rfl) ?_
  refine GoR.phaseK [(0, .gen [])] [37, 2, 4, 5, 6, 7, 8, 9, 10, 11, 12, 35, 36] [] [(37, .bool (decide (((k : Nat) : Int) < 64))), (2, .pointer (some ⟨b1, 0, none⟩)), (4, .pointer (some ⟨b7, 0, none⟩)), (5, .int .u32 xa), (6, .int .u32 xb), (7, .int .u32 xc), (8, .int .u32 xd), (9, .int .u32 xe), (10, .int .u32 xf), (11, .int .u32 xg), (12, .int .u32 xh), (35, .agg (arrCells w32C (wordsL bl))), (36, .int .i64 (k : Nat))] (by kernel_rfl) rfl ak0 ?_
  refine GoR.done (GoQ.thn (GoC.seq ?_))
  refine GoC.cond (t := decide (((k : Nat) : Int) < 64)) (by kernel_rfl) (fun h20 => ?_) (fun h20 => ?_)
  · have h20' : ((k : Nat) : Int) < 64 := of_decide_eq_true h20
    refine GoC.skip (GoQ.thn (GoC.seq (GoC.block (GoC.seq ?_))))
    refine GoC.regT [15, 15, 15, 15] (.rd 0 (.rd 1 (.rd 2 (.rd 3 .done)))) (by kernel_rfl) (by kernel_rfl) ?_
    refine GoR.phaseK [(0, .gen []), (1, .elem (.int .u32 ((wordsL bl).getD k 0))), (2, .gen []), (3, .gen [])] [14, 13, 2, 4, 5, 6, 7, 8, 9, 10, 11, 12, 35, 36] [(1, [.prop (0 ≤ ((k : Nat) : Int) ∧ ((k : Nat) : Int) < (64 : Int)), .prop ((arrCells w32C (wordsL bl))[Int.toNat ((k : Nat)) * 1]? = some (.int .u32 ((wordsL bl).getD k 0)))])] [(14, .int .u32 ((wordsL bl).getD k 0)), (13, .int .i64 (k : Nat)), (2, .pointer (some ⟨b1, 0, none⟩)), (4, .pointer (some ⟨b7, 0, none⟩)), (5, .int .u32 xa), (6, .int .u32 xb), (7, .int .u32 xc), (8, .int .u32 xd), (9, .int .u32 xe), (10, .int .u32 xf), (11, .int .u32 xg), (12, .int .u32 xh), (35, .agg (arrCells w32C (wordsL bl))), (36, .int .i64 (k : Nat))] (by kernel_rfl) rfl (ak (okp (by omega) (okp (elemArr (d := (0 : Int)) (k := k) w32F (by omega) (by first | omega | (simp only [wordsL_length, List.length_cons, List.length_nil]; omega)) (by kernel_rfl)) ok0)) ak0) ?_
    refine GoR.done (GoQ.thn (GoC.seq ?_))
    refine GoC.regD [0, 0, 2, 0, 14, 30, 0, 94, 254, 511, 0, 0, 3072, 0, 8192, 0, 57344, 130048, 262143, 0, 524288, 1572864, 4194303, 0, 16777215, 33554431] (.rd 0 (.rd 1 (.rd 3 (.rd 6 (.rd 10 (.rd 11 (.rd 12 (.rd 13 (.rd 14 (.rd 15 (.rd 16 (.rd 17 (.rd 19 (.rd 20 (.rd 21 (.rd 23 (.ef 2 (.ef 4 (.rd 5 (.ef 7 (.rd 8 (.rd 9 (.rd 18 (.rd 22 (.rd 24 (.rd 25 .done)))))))))))))))))))))))))) (by kernel_rfl) (by kernel_rfl) noPan_body (by kernel_rfl) hs19 ?_
    intro w21 hs22 hw23
    refine GoR.phaseK [(0, .gen []), (1, .gen []), (3, .gen []), (6, .gen []), (10, .gen []), (11, .gen []), (12, .gen []), (13, .gen []), (14, .gen []), (15, .gen []), (16, .gen []), (17, .gen []), (19, .gen []), (20, .as_ (.pointer (some ⟨0, 0 + (k * 1), none⟩)) .at_), (21, .gen [.int .u32 (shaT.getD k 0)]), (23, .gen [])] [63, 61, 57, 46, 43, 41, 40, 2, 4, 5, 6, 7, 8, 9, 10, 11, 12, 35, 36] [(20, [.prop (0 ≤ ((k : Nat) : Int) ∧ ((k : Nat) : Int) < (64 : Int)), .prop (Value.pointer (some (Addr.add ⟨0, 0, none⟩ (Int.toNat (k : Nat) * 1))) = Value.pointer (some ⟨0, 0 + (k * 1), none⟩))]), (21, [.cell ⟨0, 0 + (k * 1), none⟩ (.int .u32 (shaT.getD k 0))])] [(63, .int .u32 ((wordsL bl).getD k 0)), (61, .int .u32 (shaT.getD k 0)), (57, .int .u32 (iXor .u32 (iAnd .u32 xe xf) (iAnd .u32 (iNot .u32 xe) xg))), (46, .int .u32 xe), (43, .int .u32 xe), (41, .int .u32 xe), (40, .int .u32 xh), (2, .pointer (some ⟨b1, 0, none⟩)), (4, .pointer (some ⟨b7, 0, none⟩)), (5, .int .u32 xa), (6, .int .u32 xb), (7, .int .u32 xc), (8, .int .u32 xd), (9, .int .u32 xe), (10, .int .u32 xf), (11, .int .u32 xg), (12, .int .u32 xh), (35, .agg (arrCells w32C (wordsL bl))), (36, .int .i64 (k : Nat))] (by kernel_rfl) rfl (ak (okp (by omega) (okp (ptrAdd _ _ _) ok0)) (ak (okc (RowsAt.at0 (hT _ (hs22.drop 3)) (k := k) (by first | omega | (simp only [List.length_set]; omega) | (simp only [List.length_set, List.length_append, List.length_cons, List.length_nil]; omega)) (j := 0) (by decide) (by kernel_rfl)) ok0) ak0)) ?_
    refine GoR.call rfl rfl (by kernel_rfl) (f := 65) (args := #[.int .u32 xe, .int .i64 6]) (by kernel_rfl) Tryz.call65 (turnR_spec xe 6  hs22) ?_
    rintro v25 w26 ⟨rfl, hs24⟩
    refine ⟨(opl (n := [.cell ⟨0, 0 + (k * 1), none⟩ (.int .u32 (shaT.getD k 0)), .prop (0 ≤ ((k : Nat) : Int) ∧ ((k : Nat) : Int) < (64 : Int)), .prop (Value.pointer (some (Addr.add ⟨0, 0, none⟩ (Int.toNat (k : Nat) * 1))) = Value.pointer (some ⟨0, 0 + (k * 1), none⟩))]) (by kernel_rfl) (okc (RowsAt.at0 (hT _ (hs24.drop 3)) (k := k) (by first | omega | (simp only [List.length_set]; omega) | (simp only [List.length_set, List.length_append, List.length_cons, List.length_nil]; omega)) (j := 0) (by decide) (by kernel_rfl)) (okp (by omega) (okp (ptrAdd _ _ _) ok0)))), ?_⟩
    refine GoR.call rfl rfl (by kernel_rfl) (f := 65) (args := #[.int .u32 xe, .int .i64 11]) (by kernel_rfl) Tryz.call65 (turnR_spec xe 11  hs24) ?_
    rintro v28 w29 ⟨rfl, hs27⟩
    refine ⟨(opl (n := [.cell ⟨0, 0 + (k * 1), none⟩ (.int .u32 (shaT.getD k 0)), .prop (0 ≤ ((k : Nat) : Int) ∧ ((k : Nat) : Int) < (64 : Int)), .prop (Value.pointer (some (Addr.add ⟨0, 0, none⟩ (Int.toNat (k : Nat) * 1))) = Value.pointer (some ⟨0, 0 + (k * 1), none⟩))]) (by kernel_rfl) (okc (RowsAt.at0 (hT _ (hs27.drop 3)) (k := k) (by first | omega | (simp only [List.length_set]; omega) | (simp only [List.length_set, List.length_append, List.length_cons, List.length_nil]; omega)) (j := 0) (by decide) (by kernel_rfl)) (okp (by omega) (okp (ptrAdd _ _ _) ok0)))), ?_⟩
    refine GoR.phaseK [(5, .gen [])] [45, 63, 61, 57, 46, 40, 2, 4, 5, 6, 7, 8, 9, 10, 11, 12, 35, 36] [] [(45, .int .u32 (iXor .u32 (turnR xe 6) (turnR xe 11))), (63, .int .u32 ((wordsL bl).getD k 0)), (61, .int .u32 (shaT.getD k 0)), (57, .int .u32 (iXor .u32 (iAnd .u32 xe xf) (iAnd .u32 (iNot .u32 xe) xg))), (46, .int .u32 xe), (40, .int .u32 xh), (2, .pointer (some ⟨b1, 0, none⟩)), (4, .pointer (some ⟨b7, 0, none⟩)), (5, .int .u32 xa), (6, .int .u32 xb), (7, .int .u32 xc), (8, .int .u32 xd), (9, .int .u32 xe), (10, .int .u32 xf), (11, .int .u32 xg), (12, .int .u32 xh), (35, .agg (arrCells w32C (wordsL bl))), (36, .int .i64 (k : Nat))] (by kernel_rfl) rfl ak0 ?_
    refine GoR.call rfl rfl (by kernel_rfl) (f := 65) (args := #[.int .u32 xe, .int .i64 25]) (by kernel_rfl) Tryz.call65 (turnR_spec xe 25  hs27) ?_
    rintro v31 w32 ⟨rfl, hs30⟩
    refine ⟨(opl (n := [.cell ⟨0, 0 + (k * 1), none⟩ (.int .u32 (shaT.getD k 0)), .prop (0 ≤ ((k : Nat) : Int) ∧ ((k : Nat) : Int) < (64 : Int)), .prop (Value.pointer (some (Addr.add ⟨0, 0, none⟩ (Int.toNat (k : Nat) * 1))) = Value.pointer (some ⟨0, 0 + (k * 1), none⟩))]) (by kernel_rfl) (okc (RowsAt.at0 (hT _ (hs30.drop 3)) (k := k) (by first | omega | (simp only [List.length_set]; omega) | (simp only [List.length_set, List.length_append, List.length_cons, List.length_nil]; omega)) (j := 0) (by decide) (by kernel_rfl)) (okp (by omega) (okp (ptrAdd _ _ _) ok0)))), ?_⟩
    refine GoR.phaseK [(8, .gen []), (9, .gen []), (18, .gen []), (22, .gen []), (24, .gen []), (25, .gen [])] [15, 2, 4, 5, 6, 7, 8, 9, 10, 11, 12, 35, 36] [] [(15, .int .u32 (IntKind.u32.wrap ((IntKind.u32.wrap ((IntKind.u32.wrap ((IntKind.u32.wrap (xh + (iXor .u32 (iXor .u32 (turnR xe 6) (turnR xe 11)) (turnR xe 25)))) + (iXor .u32 (iAnd .u32 xe xf) (iAnd .u32 (iNot .u32 xe) xg)))) + (shaT.getD k 0))) + ((wordsL bl).getD k 0)))), (2, .pointer (some ⟨b1, 0, none⟩)), (4, .pointer (some ⟨b7, 0, none⟩)), (5, .int .u32 xa), (6, .int .u32 xb), (7, .int .u32 xc), (8, .int .u32 xd), (9, .int .u32 xe), (10, .int .u32 xf), (11, .int .u32 xg), (12, .int .u32 xh), (35, .agg (arrCells w32C (wordsL bl))), (36, .int .i64 (k : Nat))] (by kernel_rfl) rfl ak0 ?_
    refine GoR.done (GoQ.thn (GoC.seq ?_))
    refine GoC.regT [2097151, 2097151, 2097151, 2097151, 2097151, 2097151, 2097151, 2097151, 2097151, 2097151, 2097151, 2097151, 2097151, 2097151, 2097151, 2097151, 2097151, 2097151, 2097151, 2097151, 2097151] (.rd 0 (.ef 1 (.rd 2 (.ef 3 (.rd 4 (.rd 5 (.ef 6 (.rd 7 (.rd 8 (.rd 9 (.rd 10 (.rd 11 (.rd 12 (.rd 13 (.rd 14 (.rd 15 (.rd 16 (.rd 17 (.rd 18 (.rd 19 (.rd 20 .done))))))))))))))))))))) (by kernel_rfl) (by kernel_rfl) ?_
    refine GoR.phaseK [(0, .gen [])] [65, 15, 2, 4, 5, 6, 7, 8, 9, 10, 11, 12, 35, 36] [] [(65, .int .u32 xa), (15, .int .u32 (IntKind.u32.wrap ((IntKind.u32.wrap ((IntKind.u32.wrap ((IntKind.u32.wrap (xh + (iXor .u32 (iXor .u32 (turnR xe 6) (turnR xe 11)) (turnR xe 25)))) + (iXor .u32 (iAnd .u32 xe xf) (iAnd .u32 (iNot .u32 xe) xg)))) + (shaT.getD k 0))) + ((wordsL bl).getD k 0)))), (2, .pointer (some ⟨b1, 0, none⟩)), (4, .pointer (some ⟨b7, 0, none⟩)), (5, .int .u32 xa), (6, .int .u32 xb), (7, .int .u32 xc), (8, .int .u32 xd), (9, .int .u32 xe), (10, .int .u32 xf), (11, .int .u32 xg), (12, .int .u32 xh), (35, .agg (arrCells w32C (wordsL bl))), (36, .int .i64 (k : Nat))] (by kernel_rfl) rfl ak0 ?_
    refine GoR.call rfl rfl (by kernel_rfl) (f := 65) (args := #[.int .u32 xa, .int .i64 2]) (by kernel_rfl) Tryz.call65 (turnR_spec xa 2  hs30) ?_
    rintro v34 w35 ⟨rfl, hs33⟩
    refine ⟨(opn (by kernel_rfl)), ?_⟩
    refine GoR.phaseK [(2, .gen [])] [67, 66, 15, 2, 4, 5, 6, 7, 8, 9, 10, 11, 12, 35, 36] [] [(67, .int .u32 xa), (66, .int .u32 (turnR xa 2)), (15, .int .u32 (IntKind.u32.wrap ((IntKind.u32.wrap ((IntKind.u32.wrap ((IntKind.u32.wrap (xh + (iXor .u32 (iXor .u32 (turnR xe 6) (turnR xe 11)) (turnR xe 25)))) + (iXor .u32 (iAnd .u32 xe xf) (iAnd .u32 (iNot .u32 xe) xg)))) + (shaT.getD k 0))) + ((wordsL bl).getD k 0)))), (2, .pointer (some ⟨b1, 0, none⟩)), (4, .pointer (some ⟨b7, 0, none⟩)), (5, .int .u32 xa), (6, .int .u32 xb), (7, .int .u32 xc), (8, .int .u32 xd), (9, .int .u32 xe), (10, .int .u32 xf), (11, .int .u32 xg), (12, .int .u32 xh), (35, .agg (arrCells w32C (wordsL bl))), (36, .int .i64 (k : Nat))] (by kernel_rfl) rfl ak0 ?_
    refine GoR.call rfl rfl (by kernel_rfl) (f := 65) (args := #[.int .u32 xa, .int .i64 13]) (by kernel_rfl) Tryz.call65 (turnR_spec xa 13  hs33) ?_
    rintro v37 w38 ⟨rfl, hs36⟩
    refine ⟨(opn (by kernel_rfl)), ?_⟩
    refine GoR.phaseK [(4, .gen []), (5, .gen [])] [70, 69, 15, 2, 4, 5, 6, 7, 8, 9, 10, 11, 12, 35, 36] [] [(70, .int .u32 xa), (69, .int .u32 (iXor .u32 (turnR xa 2) (turnR xa 13))), (15, .int .u32 (IntKind.u32.wrap ((IntKind.u32.wrap ((IntKind.u32.wrap ((IntKind.u32.wrap (xh + (iXor .u32 (iXor .u32 (turnR xe 6) (turnR xe 11)) (turnR xe 25)))) + (iXor .u32 (iAnd .u32 xe xf) (iAnd .u32 (iNot .u32 xe) xg)))) + (shaT.getD k 0))) + ((wordsL bl).getD k 0)))), (2, .pointer (some ⟨b1, 0, none⟩)), (4, .pointer (some ⟨b7, 0, none⟩)), (5, .int .u32 xa), (6, .int .u32 xb), (7, .int .u32 xc), (8, .int .u32 xd), (9, .int .u32 xe), (10, .int .u32 xf), (11, .int .u32 xg), (12, .int .u32 xh), (35, .agg (arrCells w32C (wordsL bl))), (36, .int .i64 (k : Nat))] (by kernel_rfl) rfl ak0 ?_
    refine GoR.call rfl rfl (by kernel_rfl) (f := 65) (args := #[.int .u32 xa, .int .i64 22]) (by kernel_rfl) Tryz.call65 (turnR_spec xa 22  hs36) ?_
    rintro v40 w41 ⟨rfl, hs39⟩
    refine ⟨(opn (by kernel_rfl)), ?_⟩
    refine GoR.phaseK [(7, .gen []), (8, .gen []), (9, .gen []), (10, .gen []), (11, .gen []), (12, .gen []), (13, .gen []), (14, .gen []), (15, .gen []), (16, .gen []), (17, .gen []), (18, .gen []), (19, .gen []), (20, .gen [])] [16, 15, 2, 4, 5, 6, 7, 8, 9, 10, 11, 12, 35, 36] [] [(16, .int .u32 (IntKind.u32.wrap ((iXor .u32 (iXor .u32 (turnR xa 2) (turnR xa 13)) (turnR xa 22)) + (iXor .u32 (iXor .u32 (iAnd .u32 xa xb) (iAnd .u32 xa xc)) (iAnd .u32 xb xc))))), (15, .int .u32 (IntKind.u32.wrap ((IntKind.u32.wrap ((IntKind.u32.wrap ((IntKind.u32.wrap (xh + (iXor .u32 (iXor .u32 (turnR xe 6) (turnR xe 11)) (turnR xe 25)))) + (iXor .u32 (iAnd .u32 xe xf) (iAnd .u32 (iNot .u32 xe) xg)))) + (shaT.getD k 0))) + ((wordsL bl).getD k 0)))), (2, .pointer (some ⟨b1, 0, none⟩)), (4, .pointer (some ⟨b7, 0, none⟩)), (5, .int .u32 xa), (6, .int .u32 xb), (7, .int .u32 xc), (8, .int .u32 xd), (9, .int .u32 xe), (10, .int .u32 xf), (11, .int .u32 xg), (12, .int .u32 xh), (35, .agg (arrCells w32C (wordsL bl))), (36, .int .i64 (k : Nat))] (by kernel_rfl) rfl ak0 ?_
    refine GoR.done (GoQ.thn ?_)
    refine GoC.regT [1048575, 1048575, 1048575, 1048575, 1048575, 1048575, 1048575, 1048575, 1048575, 1048575, 1048575, 1048575, 1048575, 1048575, 1048575, 1048575, 1048575, 1048575, 1048575, 1048575] (.rd 0 (.rd 1 (.rd 2 (.rd 3 (.rd 4 (.rd 5 (.rd 6 (.rd 7 (.rd 8 (.rd 9 (.rd 10 (.rd 11 (.rd 12 (.rd 13 (.rd 14 (.rd 15 (.rd 16 (.rd 17 (.rd 18 (.rd 19 .done)))))))))))))))))))) (by kernel_rfl) (by kernel_rfl) ?_
    refine GoR.phaseK [(0, .gen []), (1, .gen []), (2, .gen []), (3, .gen []), (4, .gen []), (5, .gen []), (6, .gen []), (7, .gen []), (8, .gen []), (9, .gen []), (10, .gen []), (11, .gen []), (12, .gen []), (13, .gen []), (14, .gen []), (15, .gen []), (16, .gen []), (17, .gen []), (18, .gen []), (19, .gen [])] [12, 11, 10, 9, 8, 7, 6, 5, 2, 4, 35, 36] [] [(12, .int .u32 xg), (11, .int .u32 xf), (10, .int .u32 xe), (9, .int .u32 (IntKind.u32.wrap (xd + (IntKind.u32.wrap ((IntKind.u32.wrap ((IntKind.u32.wrap ((IntKind.u32.wrap (xh + (iXor .u32 (iXor .u32 (turnR xe 6) (turnR xe 11)) (turnR xe 25)))) + (iXor .u32 (iAnd .u32 xe xf) (iAnd .u32 (iNot .u32 xe) xg)))) + (shaT.getD k 0))) + ((wordsL bl).getD k 0)))))), (8, .int .u32 xc), (7, .int .u32 xb), (6, .int .u32 xa), (5, .int .u32 (IntKind.u32.wrap ((IntKind.u32.wrap ((IntKind.u32.wrap ((IntKind.u32.wrap ((IntKind.u32.wrap (xh + (iXor .u32 (iXor .u32 (turnR xe 6) (turnR xe 11)) (turnR xe 25)))) + (iXor .u32 (iAnd .u32 xe xf) (iAnd .u32 (iNot .u32 xe) xg)))) + (shaT.getD k 0))) + ((wordsL bl).getD k 0))) + (IntKind.u32.wrap ((iXor .u32 (iXor .u32 (turnR xa 2) (turnR xa 13)) (turnR xa 22)) + (iXor .u32 (iXor .u32 (iAnd .u32 xa xb) (iAnd .u32 xa xc)) (iAnd .u32 xb xc))))))), (2, .pointer (some ⟨b1, 0, none⟩)), (4, .pointer (some ⟨b7, 0, none⟩)), (35, .agg (arrCells w32C (wordsL bl))), (36, .int .i64 (k : Nat))] (by kernel_rfl) rfl ak0 ?_
    refine GoR.done (GoQ.blkN (GoQ.thn ?_))
    refine GoC.regT [3, 3] (.rd 0 (.rd 1 .done)) (by kernel_rfl) (by kernel_rfl) ?_
    refine GoR.phaseK [(0, .as_ (.int .i64 ((k : Nat) + 1)) (.gen [])), (1, .gen [])] [36, 12, 11, 10, 9, 8, 7, 6, 5, 2, 4, 35] [(0, [.prop (Value.int .i64 (IntKind.i64.wrap ((k : Nat) + 1)) = Value.int .i64 ((k : Nat) + 1))])] [(36, .int .i64 ((k : Nat) + 1)), (12, .int .u32 xg), (11, .int .u32 xf), (10, .int .u32 xe), (9, .int .u32 (IntKind.u32.wrap (xd + (IntKind.u32.wrap ((IntKind.u32.wrap ((IntKind.u32.wrap ((IntKind.u32.wrap (xh + (iXor .u32 (iXor .u32 (turnR xe 6) (turnR xe 11)) (turnR xe 25)))) + (iXor .u32 (iAnd .u32 xe xf) (iAnd .u32 (iNot .u32 xe) xg)))) + (shaT.getD k 0))) + ((wordsL bl).getD k 0)))))), (8, .int .u32 xc), (7, .int .u32 xb), (6, .int .u32 xa), (5, .int .u32 (IntKind.u32.wrap ((IntKind.u32.wrap ((IntKind.u32.wrap ((IntKind.u32.wrap ((IntKind.u32.wrap (xh + (iXor .u32 (iXor .u32 (turnR xe 6) (turnR xe 11)) (turnR xe 25)))) + (iXor .u32 (iAnd .u32 xe xf) (iAnd .u32 (iNot .u32 xe) xg)))) + (shaT.getD k 0))) + ((wordsL bl).getD k 0))) + (IntKind.u32.wrap ((iXor .u32 (iXor .u32 (turnR xa 2) (turnR xa 13)) (turnR xa 22)) + (iXor .u32 (iXor .u32 (iAnd .u32 xa xb) (iAnd .u32 xa xc)) (iAnd .u32 xb xc))))))), (2, .pointer (some ⟨b1, 0, none⟩)), (4, .pointer (some ⟨b7, 0, none⟩)), (35, .agg (arrCells w32C (wordsL bl)))] (by kernel_rfl) rfl (ak (okp (i64ok (by omega) (by omega)) ok0) ak0) ?_
    refine GoR.done ?_
    exact GoQ.back (k + 1, IntKind.u32.wrap ((IntKind.u32.wrap ((IntKind.u32.wrap ((IntKind.u32.wrap ((IntKind.u32.wrap (xh + (iXor .u32 (iXor .u32 (turnR xe 6) (turnR xe 11)) (turnR xe 25)))) + (iXor .u32 (iAnd .u32 xe xf) (iAnd .u32 (iNot .u32 xe) xg)))) + (shaT.getD k 0))) + ((wordsL bl).getD k 0))) + (IntKind.u32.wrap ((iXor .u32 (iXor .u32 (turnR xa 2) (turnR xa 13)) (turnR xa 22)) + (iXor .u32 (iXor .u32 (iAnd .u32 xa xb) (iAnd .u32 xa xc)) (iAnd .u32 xb xc))))), xa, xb, xc, IntKind.u32.wrap (xd + (IntKind.u32.wrap ((IntKind.u32.wrap ((IntKind.u32.wrap ((IntKind.u32.wrap (xh + (iXor .u32 (iXor .u32 (turnR xe 6) (turnR xe 11)) (turnR xe 25)))) + (iXor .u32 (iAnd .u32 xe xf) (iAnd .u32 (iNot .u32 xe) xg)))) + (shaT.getD k 0))) + ((wordsL bl).getD k 0)))), xe, xf, xg) [2, 4, 5, 6, 7, 8, 9, 10, 11, 12, 35, 36] (by kernel_rfl) (by show 64 - (k + 1) < 64 - k; omega) ⟨⟨by omega, by rw [iter_succ, ← hp.2]; rfl⟩, hs39⟩
  · have h20' : ¬ (((k : Nat) : Int) < 64) := of_decide_eq_false h20
    refine GoC.exit (GoQ.skipC (GoQ.skipL (GoQ.hit (GoQ.thn (GoC.seq (GoC.seq ?_))))))
    refine GoC.regT [1023, 1023, 1023, 1023, 1023, 1023, 1023, 1023, 1023, 1023] (.rd 0 (.rd 1 (.rd 2 (.rd 3 (.rd 4 (.rd 5 (.rd 6 (.rd 7 (.rd 8 (.rd 9 .done)))))))))) (by kernel_rfl) (by kernel_rfl) ?_
    refine GoR.phaseK [(0, .gen []), (1, .gen []), (2, .gen []), (3, .gen []), (4, .gen []), (5, .gen []), (6, .gen []), (7, .gen []), (8, .gen []), (9, .gen [])] [107, 106, 2, 4] [] [(107, .int .i64 0), (106, .agg #[.int .u32 xa, .int .u32 xb, .int .u32 xc, .int .u32 xd, .int .u32 xe, .int .u32 xf, .int .u32 xg, .int .u32 xh]), (2, .pointer (some ⟨b1, 0, none⟩)), (4, .pointer (some ⟨b7, 0, none⟩))] (by kernel_rfl) rfl ak0 ?_
    refine GoR.done (GoQ.thn (GoC.block ?_))
    refine GoC.loop (T := Nat × (List Int)) (fun gg => [(2, .pointer (some ⟨b1, 0, none⟩)), (4, .pointer (some ⟨b7, 0, none⟩)), (106, .agg (arrCells w32C ([xa, xb, xc, xd, xe, xf, xg, xh]))), (107, .int .i64 (gg.1 : Nat))]) (fun gg w => (gg.1 ≤ 8 ∧ gg.2 = iter (sumW [xa, xb, xc, xd, xe, xf, xg, xh]) gg.1 s ∧ gg.2.length = 8) ∧ St w0 ((Cel b4 (arrCells byteC bl) 114) :: (Cel b7 #[.int .u32 0, .int .u32 0, .int .u32 0, .int .u32 0, .int .u32 0, .int .u32 0, .int .u32 0, .int .u32 0] 112) :: (Cel b1 (arrCells w32C gg.2) 112) :: L) w) (fun gg => 8 - gg.1) (0, s) [2, 4, 106, 107] (by kernel_rfl) ⟨⟨Nat.zero_le _, rfl, hs8⟩, hs19⟩ ?_
    rintro ⟨j, vl⟩ w42 ⟨hp10, hs43⟩
    have hp1 : j ≤ 8 ∧ vl = iter (sumW [xa, xb, xc, xd, xe, xf, xg, xh]) j s ∧ vl.length = 8 := hp10
    have hs44 : St w0 ((Cel b4 (arrCells byteC bl) 114) :: (Cel b7 #[.int .u32 0, .int .u32 0, .int .u32 0, .int .u32 0, .int .u32 0, .int .u32 0, .int .u32 0, .int .u32 0] 112) :: (Cel b1 (arrCells w32C vl) 112) :: L) w42 := hs43
    refine GoC.slots (S' := [(2, .pointer (some ⟨b1, 0, none⟩)), (4, .pointer (some ⟨b7, 0, none⟩)), (106, .agg (arrCells w32C ([xa, xb, xc, xd, xe, xf, xg, xh]))), (107, .int .i64 (j : Nat))]) rfl ?_
    refine GoC.seq ?_
    refine GoC.regT [1] (.rd 0 .done) (by kernel_rfl) (by kernel_rfl) ?_
    refine GoR.phaseK [(0, .gen [])] [108, 2, 4, 106, 107] [] [(108, .bool (decide (((j : Nat) : Int) < 8))), (2, .pointer (some ⟨b1, 0, none⟩)), (4, .pointer (some ⟨b7, 0, none⟩)), (106, .agg (arrCells w32C ([xa, xb, xc, xd, xe, xf, xg, xh]))), (107, .int .i64 (j : Nat))] (by kernel_rfl) rfl ak0 ?_
    refine GoR.done (GoQ.thn (GoC.seq ?_))
    refine GoC.cond (t := decide (((j : Nat) : Int) < 8)) (by kernel_rfl) (fun h45 => ?_) (fun h45 => ?_)
    · have h45' : ((j : Nat) : Int) < 8 := of_decide_eq_true h45
      refine GoC.skip (GoQ.thn (GoC.seq (GoC.block (GoC.seq ?_))))
      refine GoC.regT [15, 15, 15, 15] (.rd 0 (.rd 1 (.rd 2 (.rd 3 .done)))) (by kernel_rfl) (by kernel_rfl) ?_
      refine GoR.phaseK [(0, .gen []), (1, .elem (.int .u32 (([xa, xb, xc, xd, xe, xf, xg, xh]).getD j 0))), (2, .gen []), (3, .gen [])] [18, 17, 2, 4, 106, 107] [(1, [.prop (0 ≤ ((j : Nat) : Int) ∧ ((j : Nat) : Int) < (8 : Int)), .prop ((arrCells w32C ([xa, xb, xc, xd, xe, xf, xg, xh]))[Int.toNat ((j : Nat)) * 1]? = some (.int .u32 (([xa, xb, xc, xd, xe, xf, xg, xh]).getD j 0)))])] [(18, .int .u32 (([xa, xb, xc, xd, xe, xf, xg, xh]).getD j 0)), (17, .int .i64 (j : Nat)), (2, .pointer (some ⟨b1, 0, none⟩)), (4, .pointer (some ⟨b7, 0, none⟩)), (106, .agg (arrCells w32C ([xa, xb, xc, xd, xe, xf, xg, xh]))), (107, .int .i64 (j : Nat))] (by kernel_rfl) rfl (ak (okp (by omega) (okp (elemArr (d := (0 : Int)) (k := j) w32F (by omega) (by first | omega | (simp only [wordsL_length, List.length_cons, List.length_nil]; omega)) (by kernel_rfl)) ok0)) ak0) ?_
      refine GoR.done (GoQ.thn ?_)
      refine GoC.regT [127, 127, 127, 127, 127, 127, 127] (.rd 0 (.rd 1 (.rd 2 (.rd 3 (.rd 4 (.rd 5 (.ef 6 .done))))))) (by kernel_rfl) (by kernel_rfl) ?_
      refine GoR.phaseK [(0, .gen []), (1, .as_ (.pointer (some ⟨b1, 0 + (j * 1), none⟩)) .at_), (2, .gen [.int .u32 (vl.getD j (0 : Int))]), (3, .gen []), (4, .gen []), (5, .as_ (.pointer (some ⟨b1, 0 + (j * 1), none⟩)) .at_)] [116, 115, 2, 4, 106, 107] [(1, [.prop (0 ≤ ((j : Nat) : Int) ∧ ((j : Nat) : Int) < (8 : Int)), .prop (Value.pointer (some (Addr.add ⟨b1, 0, none⟩ (Int.toNat (j : Nat) * 1))) = Value.pointer (some ⟨b1, 0 + (j * 1), none⟩))]), (2, [.cell ⟨b1, 0 + (j * 1), none⟩ (.int .u32 (vl.getD j (0 : Int)))]), (5, [.prop (0 ≤ ((j : Nat) : Int) ∧ ((j : Nat) : Int) < (8 : Int)), .prop (Value.pointer (some (Addr.add ⟨b1, 0, none⟩ (Int.toNat (j : Nat) * 1))) = Value.pointer (some ⟨b1, 0 + (j * 1), none⟩))])] [(116, .pointer (some ⟨b1, 0 + (j * 1), none⟩)), (115, .int .u32 (IntKind.u32.wrap ((vl.getD j (0 : Int)) + (([xa, xb, xc, xd, xe, xf, xg, xh]).getD j 0)))), (2, .pointer (some ⟨b1, 0, none⟩)), (4, .pointer (some ⟨b7, 0, none⟩)), (106, .agg (arrCells w32C ([xa, xb, xc, xd, xe, xf, xg, xh]))), (107, .int .i64 (j : Nat))] (by kernel_rfl) rfl (ak (okp (by omega) (okp (ptrAdd _ _ _) ok0)) (ak (okc (RowsAt.at0 (arr_rows hs44 2 rfl (w32F).size (0 : Int)) (k := j) (by first | omega | (simp only [List.length_set]; omega) | (simp only [List.length_set, List.length_append, List.length_cons, List.length_nil]; omega)) (j := 0) (by decide) (by kernel_rfl)) ok0) (ak (okp (by omega) (okp (ptrAdd _ _ _) ok0)) ak0))) ?_
      refine GoR.store rfl rfl (by kernel_rfl) (b := b1) (off := 0 + (j * 1)) (v := .int .u32 (IntKind.u32.wrap ((vl.getD j (0 : Int)) + (([xa, xb, xc, xd, xe, xf, xg, xh]).getD j 0)))) (by kernel_rfl) (by kernel_rfl) (ti := Tryz.t111) (by kernel_rfl) hs44 2 rfl (by kernel_rfl) (by kernel_rfl) (by rw [Nat.zero_add]; exact arr_room (f := w32C) (size := 1) (l := vl) (k := j) (w32F).size (by first | omega | (simp only [List.length_set]; omega) | (simp only [List.length_set, List.length_append, List.length_cons, List.length_nil]; omega))) (cs' := arrCells w32C (vl.set j (IntKind.u32.wrap ((vl.getD j (0 : Int)) + (([xa, xb, xc, xd, xe, xf, xg, xh]).getD j 0))))) (L' := (Cel b4 (arrCells byteC bl) 114) :: (Cel b7 #[.int .u32 0, .int .u32 0, .int .u32 0, .int .u32 0, .int .u32 0, .int .u32 0, .int .u32 0, .int .u32 0] 112) :: (Cel b1 (arrCells w32C (vl.set j (IntKind.u32.wrap ((vl.getD j (0 : Int)) + (([xa, xb, xc, xd, xe, xf, xg, xh]).getD j 0))))) 112) :: L) (by rw [Nat.zero_add]; exact splice_arr (f := w32C) (size := 1) (l := vl) (k := j) (w32F).size (by first | omega | (simp only [List.length_set]; omega) | (simp only [List.length_set, List.length_append, List.length_cons, List.length_nil]; omega)) (IntKind.u32.wrap ((vl.getD j (0 : Int)) + (([xa, xb, xc, xd, xe, xf, xg, xh]).getD j 0)))) rfl ?_
      intro w46 hs47
      refine ⟨(opn (by kernel_rfl)), ?_⟩
      refine GoR.done (GoQ.blkN (GoQ.thn ?_))
      refine GoC.regT [3, 3] (.rd 0 (.rd 1 .done)) (by kernel_rfl) (by kernel_rfl) ?_
      refine GoR.phaseK [(0, .as_ (.int .i64 ((j : Nat) + 1)) (.gen [])), (1, .gen [])] [107, 2, 4, 106] [(0, [.prop (Value.int .i64 (IntKind.i64.wrap ((j : Nat) + 1)) = Value.int .i64 ((j : Nat) + 1))])] [(107, .int .i64 ((j : Nat) + 1)), (2, .pointer (some ⟨b1, 0, none⟩)), (4, .pointer (some ⟨b7, 0, none⟩)), (106, .agg (arrCells w32C ([xa, xb, xc, xd, xe, xf, xg, xh])))] (by kernel_rfl) rfl (ak (okp (i64ok (by omega) (by omega)) ok0) ak0) ?_
      refine GoR.done ?_
      exact GoQ.back (j + 1, vl.set j (IntKind.u32.wrap ((vl.getD j (0 : Int)) + (([xa, xb, xc, xd, xe, xf, xg, xh]).getD j 0)))) [2, 4, 106, 107] (by kernel_rfl) (by show 8 - (j + 1) < 8 - j; omega) ⟨⟨by omega, by rw [iter_succ, ← hp1.2.1]; rfl, by simp only [List.length_set]; exact hp1.2.2⟩, hs47⟩
    · have h45' : ¬ (((j : Nat) : Int) < 8) := of_decide_eq_false h45
      refine GoC.exit (GoQ.skipC (GoQ.skipL (GoQ.hit (GoQ.thn (GoC.seq ?_)))))
      refine GoC.regT [3, 3] (.rd 0 (.ef 1 .done)) (by kernel_rfl) (by kernel_rfl) ?_
      refine GoR.phaseK [(0, .agg (arrCells w32C vl))] [118, 4] [(0, [.prop (Array.size ((arrCells w32C vl)) = 8), .cells ⟨b1, 0, none⟩ (arrCells w32C vl)])] [(118, .agg (arrCells w32C vl)), (4, .pointer (some ⟨b7, 0, none⟩))] (by kernel_rfl) rfl (ak (okp (arrvSize w32F (show (vl).length = 8 from hp1.2.2) rfl) (oka (hs44.cells 2 0 rfl (by simp)) ok0)) ak0) ?_
      refine GoR.store rfl rfl (by kernel_rfl) (b := b7) (off := 0) (v := .agg (arrCells w32C vl)) (by kernel_rfl) (by kernel_rfl) (ti := Tryz.t112) (by kernel_rfl) hs44 1 rfl (arrvCells w32F (show (vl).length = 8 from hp1.2.2) (by kernel_rfl)) (arrvOne w32F) (arrvRoom w32F (show (vl).length = 8 from hp1.2.2) (by kernel_rfl)) (cs' := arrCells w32C vl) (L' := (Cel b4 (arrCells byteC bl) 114) :: (Cel b7 (arrCells w32C vl) 112) :: (Cel b1 (arrCells w32C vl) 112) :: L) (arrvPut w32F (show (vl).length = 8 from hp1.2.2) (by kernel_rfl)) rfl ?_
      intro w48 hs49
      refine ⟨(opn (by kernel_rfl)), ?_⟩
      refine GoR.done (GoQ.thn (GoC.ret ?_))
      refine GoQ.done (.inl rfl) (v := .agg (arrCells w32C vl)) (fun a hf => resultsA rfl (by kernel_rfl) (ti := Tryz.t112) (by kernel_rfl) (by kernel_rfl) (vs := (arrCells w32C vl)) (arrvSize w32F (show (vl).length = 8 from hp1.2.2) (by kernel_rfl)) (hs49.cells 1 0 rfl (by simp)) a hf) ?_
      have hs50 : St w0 (L) w48 := hs49.drop 3
      exact ⟨(by rw [hp1.2.1, show j = 8 by omega]; exact congrArg (fun l => Value.agg (arrCells w32C l)) (block_eq (hp.2.trans (by rw [show k = 64 by omega])))), hs50⟩
end Go.Proofs.YtkiaagddmlddpaaGreatDoor

/-! ShaH -/
namespace Go.Proofs.YtkiaagddmlddpaaGreatDoor
open Go.RowKit Go.Sx
set_option linter.unusedVariables false
set_option linter.unusedSimpArgs false
set_option maxRecDepth 100000
set_option linter.unusedSectionVars false

theorem splice_app : ∀ (vs pre mid post : List Value), mid.length = vs.length → splice (pre ++ mid ++ post).toArray pre.length vs = (pre ++ vs ++ post).toArray
  | [], pre, mid, post, h => by
    have : mid = [] := List.length_eq_zero_iff.1 h
    subst this
    rfl
  | v :: vs, pre, m :: mid, post, h => by
    have h1 : mid.length = vs.length := by simpa using h
    have e : ((pre ++ m :: mid ++ post).toArray.setIfInBounds pre.length v) = ((pre ++ [v]) ++ mid ++ post).toArray := by
      apply Array.ext'
      simp [List.set_append]
    have ih := splice_app vs (pre ++ [v]) mid post h1
    rw [List.length_append] at ih
    show splice ((pre ++ m :: mid ++ post).toArray.setIfInBounds pre.length v) (pre.length + 1) vs = _
    rw [e]
    rw [show pre.length + 1 = pre.length + [v].length from rfl, ih]
    congr 1
    simp
  | _ :: _, _, [], _, h => by simp at h
def hashL (s part : List Int) (n all : Int) : List Value := s.map (Value.int .u32) ++ part.map (Value.int .u8) ++ [.int .i64 n, .int .u64 all]
def hashC (s part : List Int) (n all : Int) : Array Value := (hashL s part n all).toArray
theorem w32_flat (l : List Int) : (arrCells w32C l) = (l.map (Value.int .u32)).toArray := by
  apply Array.ext'
  simp only [arrCells]
  induction l with
  | nil => rfl
  | cons a l ih => simp only [List.flatMap_cons, List.map_cons, ih]; rfl
theorem byte_flatL (l : List Int) : (l.flatMap fun x => (byteC x).toList) = l.map (Value.int .u8) := by
  induction l with
  | nil => rfl
  | cons a l ih => simp only [List.flatMap_cons, List.map_cons, ih]; rfl
theorem byte_flat (l : List Int) : (arrCells byteC l) = (l.map (Value.int .u8)).toArray := by
  apply Array.ext'
  simp only [arrCells]
  exact byte_flatL l
section
variable {s part : List Int} {n all : Int} (h8 : s.length = 8) (h64 : part.length = 64)
include h8 h64
theorem hash_size : (hashC s part n all).size = 74 := by
  simp only [hashC, hashL, List.size_toArray, List.length_append, List.length_map, List.length_cons, List.length_nil]; omega
theorem hash_n : (hashC s part n all)[72]? = some (.int .i64 n) := by
  simp only [hashC, hashL, List.getElem?_toArray]
  rw [List.getElem?_append_right (by simp only [List.length_append, List.length_map]; omega)]
  simp only [List.length_append, List.length_map, h8, h64]
  rfl
theorem hash_all : (hashC s part n all)[73]? = some (.int .u64 all) := by
  simp only [hashC, hashL, List.getElem?_toArray]
  rw [List.getElem?_append_right (by simp only [List.length_append, List.length_map]; omega)]
  simp only [List.length_append, List.length_map, h8, h64]
  rfl
theorem hash_s : (hashC s part n all).extract 0 (0 + (arrCells w32C s).size) = arrCells w32C s := by
  rw [w32_flat]
  apply Array.ext'
  simp only [hashC, hashL, List.extract_toArray, List.size_toArray, List.length_map, List.extract_eq_take_drop, List.drop_zero, Nat.zero_add, Nat.sub_zero, List.append_assoc]
  exact List.take_left' (List.length_map ..)
theorem hash_part : (hashC s part n all).extract 8 (8 + (arrCells byteC part).size) = arrCells byteC part := by
  rw [byte_flat]
  apply Array.ext'
  simp only [hashC, hashL, List.extract_toArray, List.size_toArray, List.length_map, List.extract_eq_take_drop, Nat.add_sub_cancel_left]
  rw [List.append_assoc, List.drop_left' (by rw [List.length_map, h8]), List.take_left' (List.length_map ..)]
theorem put_n (m : Int) : splice (hashC s part n all) 72 [.int .i64 m] = hashC s part m all := by
  have := splice_app [.int .i64 m] (s.map (Value.int .u32) ++ part.map (Value.int .u8)) [.int .i64 n] [.int .u64 all] rfl
  rw [show (s.map (Value.int .u32) ++ part.map (Value.int .u8)).length = 72 by simp only [List.length_append, List.length_map]; omega] at this
  simpa [hashC, hashL] using this
theorem put_all (m : Int) : splice (hashC s part n all) 73 [.int .u64 m] = hashC s part n m := by
  have := splice_app [.int .u64 m] (s.map (Value.int .u32) ++ part.map (Value.int .u8) ++ [.int .i64 n]) [.int .u64 all] [] rfl
  rw [show (s.map (Value.int .u32) ++ part.map (Value.int .u8) ++ [Value.int .i64 n]).length = 73 by simp only [List.length_append, List.length_map, List.length_cons, List.length_nil]; omega] at this
  simpa [hashC, hashL] using this
theorem put_s {s' : List Int} (h : s'.length = 8) : splice (hashC s part n all) 0 (Value.cells (.agg (arrCells w32C s'))).toList = hashC s' part n all := by
  have := splice_app (s'.map (Value.int .u32)) [] (s.map (Value.int .u32)) (part.map (Value.int .u8) ++ [.int .i64 n, .int .u64 all]) (by rw [List.length_map, List.length_map, h8, h])
  have e : (Value.cells (.agg (arrCells w32C s'))).toList = s'.map (Value.int .u32) := by show (arrCells w32C s').toList = _; rw [w32_flat]
  rw [e]
  simpa [hashC, hashL] using this
theorem put_whole {s' part' : List Int} {n' all' : Int} (h8' : s'.length = 8) (h64' : part'.length = 64) : splice (hashC s part n all) 0 (Value.cells (.agg (hashC s' part' n' all'))).toList = hashC s' part' n' all' := by
  have := splice_app (hashL s' part' n' all') [] (hashL s part n all) [] (by simp only [hashL, List.length_append, List.length_map, List.length_cons, List.length_nil]; omega)
  rw [List.nil_append, List.append_nil, List.nil_append, List.append_nil] at this
  exact this
/-- A row laid over another one from some place on. -/
def overL (part : List Int) (a : Nat) (ys : List Int) : List Int := part.take a ++ ys ++ part.drop (a + ys.length)
omit h8 in
theorem overL_length {a : Nat} {ys : List Int} (h : a + ys.length ≤ 64) : (overL part a ys).length = 64 := by
  simp only [overL, List.length_append, List.length_take, List.length_drop]; omega
theorem put_part {a : Nat} {ys : List Int} (h : a + ys.length ≤ 64) : splice (hashC s part n all) (8 + a) (ys.flatMap fun x => (byteC x).toList) = hashC s (overL part a ys) n all := by
  have e1 : part = part.take a ++ (part.drop a).take ys.length ++ part.drop (a + ys.length) := by
    rw [List.append_assoc, ← List.drop_drop, List.take_append_drop, List.take_append_drop]
  have := splice_app (ys.map (Value.int .u8)) (s.map (Value.int .u32) ++ (part.take a).map (Value.int .u8)) (((part.drop a).take ys.length).map (Value.int .u8)) ((part.drop (a + ys.length)).map (Value.int .u8) ++ [.int .i64 n, .int .u64 all])
    (by simp only [List.length_map, List.length_take, List.length_drop]; omega)
  rw [show (s.map (Value.int .u32) ++ (part.take a).map (Value.int .u8)).length = 8 + a by simp only [List.length_append, List.length_map, List.length_take]; omega] at this
  rw [byte_flatL]
  have e2 : hashL s part n all = s.map (Value.int .u32) ++ (part.take a).map (Value.int .u8) ++ ((part.drop a).take ys.length).map (Value.int .u8) ++ ((part.drop (a + ys.length)).map (Value.int .u8) ++ [.int .i64 n, .int .u64 all]) := by
    conv => lhs; rw [hashL, e1]
    simp only [List.map_append, List.append_assoc]
  have e3 : hashL s (overL part a ys) n all = s.map (Value.int .u32) ++ (part.take a).map (Value.int .u8) ++ ys.map (Value.int .u8) ++ ((part.drop (a + ys.length)).map (Value.int .u8) ++ [.int .i64 n, .int .u64 all]) := by
    simp only [hashL, overL, List.map_append, List.append_assoc]
  rw [hashC, hashC, e2, e3]
  exact this
end

/-! ### What Write does -/
abbrev HS := List Int × List Int × Nat
structure HOK (h : HS) : Prop where
  s : h.1.length = 8
  part : h.2.1.length = 64
  n : h.2.2 < 64
def wrK (h : HS) (l : List Int) : Nat := min l.length (64 - h.2.2)
def wrPart (h : HS) (l : List Int) : List Int := overL h.2.1 h.2.2 (l.take (wrK h l))
def wrStep (h : HS) (l : List Int) : HS := if h.2.2 + wrK h l = 64 then (blockL h.1 (wrPart h l), wrPart h l, 0) else (h.1, wrPart h l, h.2.2 + wrK h l)
def wrF : Nat → HS → List Int → HS
  | 0, h, _ => h
  | f + 1, h, l => if l.length = 0 then h else wrF f (wrStep h l) (l.drop (wrK h l))
def wrL (h : HS) (l : List Int) : HS := wrF l.length h l
theorem wrK_le (h : HS) (l : List Int) : wrK h l ≤ l.length := Nat.min_le_left _ _
theorem wrPart_length {h : HS} (ok : HOK h) (l : List Int) : (wrPart h l).length = 64 := by
  have h1 := ok.part; have h2 := ok.n
  refine overL_length h1 ?_
  rw [List.length_take]
  unfold wrK
  omega
theorem wrStep_ok {h : HS} (ok : HOK h) (l : List Int) : HOK (wrStep h l) := by
  unfold wrStep
  split
  · exact ⟨blockL_length ok.s _, wrPart_length ok l, by show (0 : Nat) < 64; omega⟩
  · rename_i hn
    refine ⟨ok.s, wrPart_length ok l, ?_⟩
    show h.2.2 + wrK h l < 64
    have h2 := ok.n
    have : wrK h l ≤ 64 - h.2.2 := Nat.min_le_right _ _
    omega
theorem wrF_irrel : ∀ (f g : Nat) (h : HS) (l : List Int), HOK h → l.length ≤ f → l.length ≤ g → wrF f h l = wrF g h l
  | 0, 0, _, _, _, _, _ => rfl
  | 0, g + 1, h, l, ok, hf, _ => by
    have h0 : l.length = 0 := by omega
    rw [wrF, wrF, if_pos h0]
  | f + 1, 0, h, l, ok, _, hg => by
    have h0 : l.length = 0 := by omega
    rw [wrF, wrF, if_pos h0]
  | f + 1, g + 1, h, l, ok, hf, hg => by
    rw [wrF, wrF]
    by_cases h0 : l.length = 0
    · rw [if_pos h0, if_pos h0]
    · rw [if_neg h0, if_neg h0]
      have hk : 1 ≤ wrK h l := by unfold wrK; have := ok.n; omega
      exact wrF_irrel f g _ _ (wrStep_ok ok l) (by rw [List.length_drop]; omega) (by rw [List.length_drop]; omega)
theorem wrL_step {h : HS} (ok : HOK h) {l : List Int} (hl : 0 < l.length) : wrL h l = wrL (wrStep h l) (l.drop (wrK h l)) := by
  have hk : 1 ≤ wrK h l := by unfold wrK; have := ok.n; omega
  unfold wrL
  obtain ⟨f, hf⟩ : ∃ f, l.length = f + 1 := ⟨l.length - 1, by omega⟩
  rw [hf, wrF, if_neg (by omega)]
  exact wrF_irrel _ _ _ _ (wrStep_ok ok l) (by rw [List.length_drop]; omega) (Nat.le_refl _)
theorem wrL_nil {h : HS} {l : List Int} (hl : ¬ 0 < l.length) : wrL h l = h := by
  unfold wrL
  rw [show l.length = 0 by omega]
  rfl
theorem wrL_ok {h : HS} (ok : HOK h) (l : List Int) : HOK (wrL h l) := by
  unfold wrL
  generalize l.length = f
  induction f generalizing h l with
  | zero => exact ok
  | succ f ih =>
    rw [wrF]
    split
    · exact ok
    · exact ih (wrStep_ok ok l) _
/-! ### What Sum does -/
theorem wrL_one {h : HS} (x : Int) : wrL h [x] = wrStep h [x] := rfl
theorem wrL_one_n {h : HS} (ok : HOK h) (x : Int) : (wrL h [x]).2.2 = if h.2.2 + 1 = 64 then 0 else h.2.2 + 1 := by
  have hn := ok.n
  have hk : wrK h [x] = 1 := by unfold wrK; simp only [List.length_cons, List.length_nil]; omega
  rw [wrL_one, wrStep, hk]
  split <;> rfl
def padF : Nat → HS → HS
  | 0, h => h
  | f + 1, h => padF f (wrL h [0])
/-- Zeros up to the length's place. -/
def pad (h : HS) : HS := padF ((120 - h.2.2) % 64) h
theorem pad_step {h : HS} (ok : HOK h) (hn : h.2.2 ≠ 56) : pad (wrL h [0]) = pad h := by
  have h1 := wrL_one_n ok 0
  have h2 := ok.n
  unfold pad
  rw [h1]
  have e : (120 - h.2.2) % 64 = (120 - (if h.2.2 + 1 = 64 then 0 else h.2.2 + 1)) % 64 + 1 := by split <;> omega
  rw [e]
  rfl
theorem pad_less {h : HS} (ok : HOK h) (hn : h.2.2 ≠ 56) : (120 - (wrL h [0]).2.2) % 64 < (120 - h.2.2) % 64 := by
  have h1 := wrL_one_n ok 0
  have h2 := ok.n
  rw [h1]
  split <;> omega
theorem pad_end {h : HS} (hn : h.2.2 = 56) : pad h = h := by unfold pad; rw [hn]; rfl
theorem hash_ones (s part : List Int) (n all : Int) : (Value.cells (.agg (hashC s part n all))).toList.all oneB = true := by
  show (hashL s part n all).all oneB = true
  rw [List.all_eq_true]
  intro u hu
  simp only [hashL, List.mem_append, List.mem_map, List.mem_cons, List.not_mem_nil, or_false] at hu
  rcases hu with (⟨x, -, rfl⟩ | ⟨x, -, rfl⟩) | (rfl | rfl) <;> rfl
theorem hash_whole {s part : List Int} {n all : Int} (h8 : s.length = 8) (h64 : part.length = 64) : (hashC s part n all).extract 0 (0 + (hashC s part n all).size) = hashC s part n all := by
  rw [Nat.zero_add, Array.extract_size]
/-- Bytes laid over a row of bytes in memory, from some place on. -/
theorem put_arr {l ys : List Int} {a : Nat} (h : a + ys.length ≤ l.length) : splice (arrCells byteC l) a (ys.flatMap fun x => (byteC x).toList) = arrCells byteC (overL l a ys) := by
  have e1 : l = l.take a ++ (l.drop a).take ys.length ++ l.drop (a + ys.length) := by
    rw [List.append_assoc, ← List.drop_drop, List.take_append_drop, List.take_append_drop]
  have := splice_app (ys.map (Value.int .u8)) ((l.take a).map (Value.int .u8)) (((l.drop a).take ys.length).map (Value.int .u8)) ((l.drop (a + ys.length)).map (Value.int .u8)) (by simp only [List.length_map, List.length_take, List.length_drop]; omega)
  rw [show ((l.take a).map (Value.int .u8)).length = a by simp only [List.length_map, List.length_take]; omega] at this
  rw [byte_flatL, byte_flat, byte_flat]
  have e2 : l.map (Value.int .u8) = (l.take a).map (Value.int .u8) ++ ((l.drop a).take ys.length).map (Value.int .u8) ++ (l.drop (a + ys.length)).map (Value.int .u8) := by
    conv => lhs; rw [e1]
    simp only [List.map_append]
  have e3 : (overL l a ys).map (Value.int .u8) = (l.take a).map (Value.int .u8) ++ ys.map (Value.int .u8) ++ (l.drop (a + ys.length)).map (Value.int .u8) := by
    simp only [overL, List.map_append]
  rw [e2, e3]
  exact this
theorem overL_len {l ys : List Int} {a : Nat} (h : a + ys.length ≤ l.length) : (overL l a ys).length = l.length := by
  simp only [overL, List.length_append, List.length_take, List.length_drop]; omega
end Go.Proofs.YtkiaagddmlddpaaGreatDoor

/-! ShaD -/
namespace Go.Proofs.YtkiaagddmlddpaaGreatDoor
open Go.RowKit Go.Sx
set_option linter.unusedVariables false
set_option linter.unusedSimpArgs false
set_option linter.unnecessarySimpa false
set_option maxRecDepth 100000
theorem hash_room {s part : List Int} {n all : Int} (h8 : s.length = 8) (h64 : part.length = 64) {m : Nat} (h : m ≤ 74) : m ≤ (hashC s part n all).size := by rw [hash_size h8 h64]; exact h
theorem write_spec {w0 w : World} {L : List Asn} {h : Nat} {ad0 : Option Addr} {c0 : Nat} (s0 : List Int) (p0 : List Int) (n0 : Nat) (all : Int) (l : List Int) (hk0 : HOK (s0, p0, n0)) (hcap : l.length ≤ c0) (hln : l.length ≤ 1000000000000) (hT : ∀ w, St w0 L w → TabR w) (hr : ∀ w, St w0 L w → RowsAt w ad0 l.length 1 (fun k => byteC (l.getD k (0 : Int)))) (hs : St w0 ((Cel h (hashC s0 p0 (n0 : Nat) all) 116) :: L) w) : Calls Tryz.prog 30 #[.pointer (some ⟨h, 0, none⟩), .slice ad0 l.length c0] w (Ret fun rv w' => rv = .tuple #[] ∧ St w0 ((Cel h (hashC ((wrL (s0, p0, n0) l).1) ((wrL (s0, p0, n0) l).2.1) ((wrL (s0, p0, n0) l).2.2 : Nat) (IntKind.u64.wrap (all + (IntKind.u64.wrap (l.length : Nat))))) 116) :: L) w') := by
  refine enter (args := [.pointer (some ⟨h, 0, none⟩), .slice ad0 l.length c0]) Tryz.func30 rfl Tryz.ntmps30 (Nat.le_of_ble_eq_true (by kernel_rfl)) ?_
  refine GoC.slots (S' := [(0, .pointer (some ⟨h, 0, none⟩)), (1, .slice ad0 l.length c0)]) rfl ?_
  refine GoC.seq (GoC.seq ?_)
  refine GoC.regT [3, 3] (.rd 0 (.rd 1 .done)) (by kernel_rfl) (by kernel_rfl) ?_
  refine GoR.phaseK [(0, .gen []), (1, .gen [])] [6, 0, 1] [] [(6, .bool false), (0, .pointer (some ⟨h, 0, none⟩)), (1, .slice ad0 l.length c0)] (by kernel_rfl) rfl ak0 ?_
  refine GoR.done (GoQ.thn (GoC.condF (by kernel_rfl) (GoC.skip (GoQ.thn (GoC.seq ?_)))))
  refine GoC.regT [2047, 2047, 2047, 2047, 2047, 2047, 2047, 2047, 2047, 2047, 2047] (.rd 0 (.rd 1 (.rd 2 (.rd 3 (.rd 4 (.rd 5 (.rd 6 (.rd 7 (.rd 8 (.rd 9 (.ef 10 .done))))))))))) (by kernel_rfl) (by kernel_rfl) ?_
  refine GoR.phaseK [(0, .gen []), (1, .gen []), (2, .gen []), (3, .gen [.int .u64 all]), (4, .gen []), (5, .gen []), (6, .gen []), (7, .gen []), (8, .gen []), (9, .gen [])] [16, 14, 0, 1] [(3, [.cell ⟨h, 73, none⟩ (.int .u64 all)])] [(16, .pointer (some ⟨h, 73, none⟩)), (14, .int .u64 (IntKind.u64.wrap (all + (IntKind.u64.wrap (l.length : Nat))))), (0, .pointer (some ⟨h, 0, none⟩)), (1, .slice ad0 l.length c0)] (by kernel_rfl) rfl (ak (okc (hs.cell 0 rfl (hash_all hk0.s hk0.part)) ok0) ak0) ?_
  refine GoR.store rfl rfl (by kernel_rfl) (b := h) (off := 73) (v := .int .u64 (IntKind.u64.wrap (all + (IntKind.u64.wrap (l.length : Nat))))) (by kernel_rfl) (by kernel_rfl) (ti := Tryz.t37) (by kernel_rfl) hs 0 rfl (by kernel_rfl) (by kernel_rfl) (hash_room hk0.s hk0.part (Nat.le_of_ble_eq_true (by kernel_rfl))) (cs' := hashC s0 p0 (n0 : Nat) (IntKind.u64.wrap (all + (IntKind.u64.wrap (l.length : Nat))))) (L' := (Cel h (hashC s0 p0 (n0 : Nat) (IntKind.u64.wrap (all + (IntKind.u64.wrap (l.length : Nat))))) 116) :: L) (put_all hk0.s hk0.part _) rfl ?_
  intro w1 hs2
  refine ⟨(opn (by kernel_rfl)), ?_⟩
  refine GoR.done (GoQ.thn (GoC.block ?_))
  refine GoC.loop (T := (List Int) × (List Int) × Nat × (Option Addr) × Nat × (List Int)) (fun gg => [(0, .pointer (some ⟨h, 0, none⟩)), (1, .slice gg.2.2.2.1 gg.2.2.2.2.2.length gg.2.2.2.2.1)]) (fun gg w => (HOK (gg.1, gg.2.1, gg.2.2.1) ∧ gg.2.2.2.2.2.length ≤ gg.2.2.2.2.1 ∧ wrL (gg.1, gg.2.1, gg.2.2.1) gg.2.2.2.2.2 = wrL (s0, p0, n0) l ∧ (∀ w, St w0 L w → RowsAt w gg.2.2.2.1 gg.2.2.2.2.2.length 1 (fun k => byteC (gg.2.2.2.2.2.getD k 0)))) ∧ St w0 ((Cel h (hashC gg.1 gg.2.1 (gg.2.2.1 : Nat) (IntKind.u64.wrap (all + (IntKind.u64.wrap (l.length : Nat))))) 116) :: L) w) (fun gg => gg.2.2.2.2.2.length) (s0, p0, n0, ad0, c0, l) [0, 1] (by kernel_rfl) ⟨⟨hk0, hcap, rfl, hr⟩, hs2⟩ ?_
  rintro ⟨s, part, n, ad, c, r⟩ w3 ⟨hp0, hs4⟩
  have hp : HOK (s, part, n) ∧ r.length ≤ c ∧ wrL (s, part, n) r = wrL (s0, p0, n0) l ∧ (∀ w, St w0 L w → RowsAt w ad r.length 1 (fun k => byteC (r.getD k 0))) := hp0
  have hs5 : St w0 ((Cel h (hashC s part (n : Nat) (IntKind.u64.wrap (all + (IntKind.u64.wrap (l.length : Nat))))) 116) :: L) w3 := hs4
  refine GoC.slots (S' := [(0, .pointer (some ⟨h, 0, none⟩)), (1, .slice ad r.length c)]) rfl ?_
  obtain ⟨ok, hrc, heq, hrow⟩ := hp
  have hn : n < 64 := ok.n
  refine GoC.seq (GoC.seq ?_)
  refine GoC.regT [7, 7, 7] (.rd 0 (.rd 1 (.rd 2 .done))) (by kernel_rfl) (by kernel_rfl) ?_
  refine GoR.phaseK [(0, .gen []), (1, .gen []), (2, .gen [])] [19, 0, 1] [] [(19, .bool (decide (((r.length : Nat) : Int) > 0))), (0, .pointer (some ⟨h, 0, none⟩)), (1, .slice ad r.length c)] (by kernel_rfl) rfl ak0 ?_
  refine GoR.done (GoQ.thn ?_)
  refine GoC.cond (t := decide (((r.length : Nat) : Int) > 0)) (by kernel_rfl) (fun h6 => ?_) (fun h6 => ?_)
  · have h6' : ((r.length : Nat) : Int) > 0 := of_decide_eq_true h6
    have hr0 : 0 < r.length := by omega
    refine GoC.skip (GoQ.thn (GoC.block (GoC.seq ?_)))
    refine GoC.regD [0, 1, 3, 0, 8, 24, 56, 127, 0, 511, 1023] (.rd 0 (.rd 1 (.rd 2 (.rd 3 (.rd 4 (.rd 5 (.rd 6 (.rd 7 (.rd 8 (.ef 9 (.rd 10 .done))))))))))) (by kernel_rfl) (by kernel_rfl) noPan_body (by kernel_rfl) hs5 ?_
    intro w7 hs8 hw9
    refine GoR.phaseK [(0, .gen []), (1, .gen []), (2, .gen []), (3, .gen []), (4, .gen []), (5, .gen []), (6, .gen [.int .i64 (n : Nat)]), (7, .as_ (.slice (some ⟨h, 8 + (n * 1), none⟩) (64 - n) (64 - n)) (.sub n 64)), (8, .gen [])] [28, 27, 0, 1] [(6, [.cell ⟨h, 72, none⟩ (.int .i64 (n : Nat))]), (7, [.prop (((n : Nat) : Int) = ((n : Nat) : Int)), .prop (((some (Operand.tmp 26)) = none → (n : Nat) = 0) ∧ (((none : Option Operand)) = none → (64 : Nat) = 64) ∧ (n : Nat) ≤ 64 ∧ (64 : Nat) ≤ 64), .prop (Value.slice (some (if 64 = n then Addr.mk h 8 none else (Addr.mk h 8 none).add (n * 1))) (64 - n) (64 - n) = Value.slice (some ⟨h, 8 + (n * 1), none⟩) (64 - n) (64 - n))])] [(28, .slice ad r.length c), (27, .slice (some ⟨h, 8 + (n * 1), none⟩) (64 - n) (64 - n)), (0, .pointer (some ⟨h, 0, none⟩)), (1, .slice ad r.length c)] (by kernel_rfl) rfl (ak (okc (hs8.cell 0 rfl (hash_n ok.s ok.part)) ok0) (ak (okp (by omega) (okp ⟨(by first | (intro _; rfl) | (intro hc; cases hc)), (by first | (intro _; rfl) | (intro hc; cases hc)), (by omega), (by omega)⟩ (okp (subArrL (by omega) (by omega)) ok0))) ak0)) ?_
    refine GoR.copy rfl (by kernel_rfl) bytesOK byteF (b := h) (off := 8 + (n * 1)) (dLen := 64 - n) (dCap := (64 - n)) (ys := r) (adx := ad) (cx := c) (0 : Int) (by kernel_rfl) hs8 ((fun w h => hrow w (h.drop 1)) _ hs8) (by rw [hash_size ok.s ok.part]; omega) (cs' := hashC s (overL part n (r.take (min r.length (64 - n)))) (n : Nat) (IntKind.u64.wrap (all + (IntKind.u64.wrap (l.length : Nat))))) (by rw [Nat.mul_one]; exact put_part ok.s ok.part (by rw [List.length_take]; omega)) ?_
    intro w12 hs13
    refine ⟨(opn (by kernel_rfl)), ?_⟩
    refine GoR.phaseK [(10, .gen [])] [4, 0, 1] [] [(4, .int .i64 (min r.length (64 - n) : Nat)), (0, .pointer (some ⟨h, 0, none⟩)), (1, .slice ad r.length c)] (by kernel_rfl) rfl ak0 ?_
    refine GoR.done (GoQ.thn (GoC.seq ?_))
    refine GoC.regT [15, 15, 15, 15] (.rd 0 (.rd 1 (.rd 2 (.rd 3 .done)))) (by kernel_rfl) (by kernel_rfl) ?_
    refine GoR.phaseK [(0, .gen []), (1, .gen []), (2, .as_ (.slice (subAd ad c (min r.length (64 - n)) 1) (((r).drop (min r.length (64 - n))).length) (c - (min r.length (64 - n)))) (.sub (min r.length (64 - n)) r.length)), (3, .gen [])] [1, 4, 0] [(2, [.prop (((min r.length (64 - n) : Nat) : Int) = (((min r.length (64 - n)) : Nat) : Int)), .prop ((some (Operand.tmp 31) = none → ((min r.length (64 - n)) : Nat) = 0) ∧ ((none : Option Operand) = none → (r.length : Nat) = r.length) ∧ ((min r.length (64 - n)) : Nat) ≤ r.length ∧ (r.length : Nat) ≤ c), .prop (Value.slice (if c = (min r.length (64 - n)) then ad else (ad : Option Addr).map (fun a => a.add ((min r.length (64 - n)) * 1))) (r.length - (min r.length (64 - n))) (c - (min r.length (64 - n))) = Value.slice (subAd ad c (min r.length (64 - n)) 1) (((r).drop (min r.length (64 - n))).length) (c - (min r.length (64 - n))))])] [(1, .slice (subAd ad c (min r.length (64 - n)) 1) (((r).drop (min r.length (64 - n))).length) (c - (min r.length (64 - n)))), (4, .int .i64 (min r.length (64 - n) : Nat)), (0, .pointer (some ⟨h, 0, none⟩))] (by kernel_rfl) rfl (ak (okp (by omega) (okp ⟨(by first | (intro _; rfl) | (intro hc; cases hc)), (by first | (intro _; rfl) | (intro hc; cases hc)), (by omega), (by omega)⟩ (okp (subSl (by simp only [List.length_take, List.length_drop] <;> omega)) ok0))) ak0) ?_
    refine GoR.done (GoQ.thn (GoC.seq ?_))
    refine GoC.regT [511, 511, 511, 511, 511, 511, 511, 511, 511] (.rd 0 (.rd 1 (.rd 2 (.rd 3 (.rd 4 (.rd 5 (.rd 6 (.rd 7 (.ef 8 .done))))))))) (by kernel_rfl) (by kernel_rfl) ?_
    refine GoR.phaseK [(0, .gen []), (1, .gen []), (2, .gen []), (3, .gen [.int .i64 (n : Nat)]), (4, .gen []), (5, .as_ (.int .i64 ((n : Nat) + (min r.length (64 - n) : Nat))) (.gen [])), (6, .gen []), (7, .gen [])] [40, 38, 1, 0] [(3, [.cell ⟨h, 72, none⟩ (.int .i64 (n : Nat))]), (5, [.prop (Value.int .i64 (IntKind.i64.wrap ((n : Nat) + (min r.length (64 - n) : Nat))) = Value.int .i64 ((n : Nat) + (min r.length (64 - n) : Nat)))])] [(40, .pointer (some ⟨h, 72, none⟩)), (38, .int .i64 ((n : Nat) + (min r.length (64 - n) : Nat))), (1, .slice (subAd ad c (min r.length (64 - n)) 1) (((r).drop (min r.length (64 - n))).length) (c - (min r.length (64 - n)))), (0, .pointer (some ⟨h, 0, none⟩))] (by kernel_rfl) rfl (ak (okc (hs13.cell 0 rfl (hash_n ok.s (wrPart_length ok r))) ok0) (ak (okp (i64ok (by omega) (by omega)) ok0) ak0)) ?_
    refine GoR.store rfl rfl (by kernel_rfl) (b := h) (off := 72) (v := .int .i64 ((n : Nat) + (min r.length (64 - n) : Nat))) (by kernel_rfl) (by kernel_rfl) (ti := Tryz.t3) (by kernel_rfl) hs13 0 rfl (by kernel_rfl) (by kernel_rfl) (hash_room ok.s (wrPart_length ok r) (Nat.le_of_ble_eq_true (by kernel_rfl))) (cs' := hashC s (overL part n (r.take (min r.length (64 - n)))) ((n : Nat) + (min r.length (64 - n) : Nat)) (IntKind.u64.wrap (all + (IntKind.u64.wrap (l.length : Nat))))) (L' := (Cel h (hashC s (overL part n (r.take (min r.length (64 - n)))) ((n : Nat) + (min r.length (64 - n) : Nat)) (IntKind.u64.wrap (all + (IntKind.u64.wrap (l.length : Nat))))) 116) :: L) (put_n ok.s (wrPart_length ok r) _) rfl ?_
    intro w14 hs15
    refine ⟨(opn (by kernel_rfl)), ?_⟩
    refine GoR.done (GoQ.thn (GoC.seq ?_))
    refine GoC.regT [31, 31, 31, 31, 31] (.rd 0 (.rd 1 (.rd 2 (.rd 3 (.rd 4 .done))))) (by kernel_rfl) (by kernel_rfl) ?_
    refine GoR.phaseK [(0, .gen []), (1, .gen []), (2, .gen []), (3, .gen [.int .i64 ((n : Nat) + (min r.length (64 - n) : Nat))]), (4, .gen [])] [45, 1, 0] [(3, [.cell ⟨h, 72, none⟩ (.int .i64 ((n : Nat) + (min r.length (64 - n) : Nat)))])] [(45, .bool ((((n : Nat) + (min r.length (64 - n) : Nat)) : Int) == 64)), (1, .slice (subAd ad c (min r.length (64 - n)) 1) (((r).drop (min r.length (64 - n))).length) (c - (min r.length (64 - n)))), (0, .pointer (some ⟨h, 0, none⟩))] (by kernel_rfl) rfl (ak (okc (hs15.cell 0 rfl (hash_n ok.s (wrPart_length ok r))) ok0) ak0) ?_
    refine GoR.done (GoQ.thn ?_)
    refine GoC.cond (t := (((n : Nat) + (min r.length (64 - n) : Nat)) : Int) == 64) (by kernel_rfl) (fun h16 => ?_) (fun h16 => ?_)
    · have h16' : ((n : Nat) + (min r.length (64 - n) : Nat) : Int) = 64 := ieqT h16
      refine GoC.regD [0, 0, 0, 4, 12, 28, 0, 64, 192, 448, 1020, 2045, 4093, 8189, 16383, 32767, 65535] (.rd 0 (.rd 1 (.rd 2 (.rd 3 (.rd 4 (.rd 5 (.rd 6 (.rd 7 (.rd 8 (.rd 9 (.ef 10 (.rd 11 (.rd 12 (.ef 13 (.rd 14 (.rd 15 (.ef 16 .done))))))))))))))))) (by kernel_rfl) (by kernel_rfl) noPan_body (by kernel_rfl) hs15 ?_
      intro w17 hs18 hw19
      refine GoR.phaseK [(0, .gen []), (1, .gen []), (2, .gen []), (3, .gen []), (4, .gen []), (5, .agg (arrCells w32C s)), (6, .gen []), (7, .gen []), (8, .gen []), (9, .agg (arrCells byteC (overL part n (r.take (min r.length (64 - n))))))] [55, 51, 47, 46, 1, 0] [(5, [.prop (Array.size ((arrCells w32C s)) = 8), .cells ⟨h, 0, none⟩ (arrCells w32C s)]), (9, [.prop (Array.size ((arrCells byteC (overL part n (r.take (min r.length (64 - n)))))) = 64), .cells ⟨h, 8, none⟩ (arrCells byteC (overL part n (r.take (min r.length (64 - n)))))])] [(55, .agg (arrCells byteC (overL part n (r.take (min r.length (64 - n)))))), (51, .agg (arrCells w32C s)), (47, .pointer (some ⟨h, 0, none⟩)), (46, .pointer (some ⟨h, 0, none⟩)), (1, .slice (subAd ad c (min r.length (64 - n)) 1) (((r).drop (min r.length (64 - n))).length) (c - (min r.length (64 - n)))), (0, .pointer (some ⟨h, 0, none⟩))] (by kernel_rfl) rfl (ak (okp (arrvSize w32F (show (s).length = 8 from ok.s) rfl) (oka (hs18.cells 0 0 rfl (hash_s ok.s (wrPart_length ok r))) ok0)) (ak (okp (arrvSize byteF (show (overL part n (r.take (min r.length (64 - n)))).length = 64 from (wrPart_length ok r)) rfl) (oka (hs18.cells 0 8 rfl (hash_part ok.s (wrPart_length ok r))) ok0)) ak0)) ?_
      refine GoR.call rfl rfl (by kernel_rfl) (f := 48) (args := #[.agg (arrCells w32C s), .agg (arrCells byteC (overL part n (r.take (min r.length (64 - n)))))]) (by kernel_rfl) Tryz.call48 (block_spec s (overL part n (r.take (min r.length (64 - n)))) ok.s (wrPart_length ok r) (fun w h => hT w (h.drop 1)) hs18) ?_
      rintro v21 w22 ⟨rfl, hs20⟩
      refine ⟨(opn (by kernel_rfl)), ?_⟩
      refine GoR.phaseK [(11, .gen []), (12, .gen [])] [58, 56, 47, 1, 0] [] [(58, .pointer (some ⟨h, 0, none⟩)), (56, .agg (arrCells w32C (blockL s (overL part n (r.take (min r.length (64 - n))))))), (47, .pointer (some ⟨h, 0, none⟩)), (1, .slice (subAd ad c (min r.length (64 - n)) 1) (((r).drop (min r.length (64 - n))).length) (c - (min r.length (64 - n)))), (0, .pointer (some ⟨h, 0, none⟩))] (by kernel_rfl) rfl ak0 ?_
      refine GoR.store rfl rfl (by kernel_rfl) (b := h) (off := 0) (v := .agg (arrCells w32C (blockL s (overL part n (r.take (min r.length (64 - n))))))) (by kernel_rfl) (by kernel_rfl) (ti := Tryz.t112) (by kernel_rfl) hs20 0 rfl (arrvCells w32F (show (blockL s (overL part n (r.take (min r.length (64 - n))))).length = 8 from (blockL_length ok.s _)) (by kernel_rfl)) (arrvOne w32F) (by rw [Nat.zero_add, arrvCells w32F (show (blockL s (overL part n (r.take (min r.length (64 - n))))).length = 8 from (blockL_length ok.s _)) (m := 8) rfl]; exact hash_room ok.s (wrPart_length ok r) (by decide)) (cs' := hashC (blockL s (overL part n (r.take (min r.length (64 - n))))) (overL part n (r.take (min r.length (64 - n)))) ((n : Nat) + (min r.length (64 - n) : Nat)) (IntKind.u64.wrap (all + (IntKind.u64.wrap (l.length : Nat))))) (L' := (Cel h (hashC (blockL s (overL part n (r.take (min r.length (64 - n))))) (overL part n (r.take (min r.length (64 - n)))) ((n : Nat) + (min r.length (64 - n) : Nat)) (IntKind.u64.wrap (all + (IntKind.u64.wrap (l.length : Nat))))) 116) :: L) (put_s ok.s (wrPart_length ok r) (show (blockL s (overL part n (r.take (min r.length (64 - n))))).length = 8 from (blockL_length ok.s _))) rfl ?_
      intro w23 hs24
      refine ⟨(opn (by kernel_rfl)), ?_⟩
      refine GoR.phaseK [(14, .gen []), (15, .gen [])] [60, 1, 0] [] [(60, .pointer (some ⟨h, 72, none⟩)), (1, .slice (subAd ad c (min r.length (64 - n)) 1) (((r).drop (min r.length (64 - n))).length) (c - (min r.length (64 - n)))), (0, .pointer (some ⟨h, 0, none⟩))] (by kernel_rfl) rfl ak0 ?_
      refine GoR.store rfl rfl (by kernel_rfl) (b := h) (off := 72) (v := .int .i64 0) (by kernel_rfl) (by kernel_rfl) (ti := Tryz.t3) (by kernel_rfl) hs24 0 rfl (by kernel_rfl) (by kernel_rfl) (hash_room (blockL_length ok.s _) (wrPart_length ok r) (Nat.le_of_ble_eq_true (by kernel_rfl))) (cs' := hashC (blockL s (overL part n (r.take (min r.length (64 - n))))) (overL part n (r.take (min r.length (64 - n)))) 0 (IntKind.u64.wrap (all + (IntKind.u64.wrap (l.length : Nat))))) (L' := (Cel h (hashC (blockL s (overL part n (r.take (min r.length (64 - n))))) (overL part n (r.take (min r.length (64 - n)))) 0 (IntKind.u64.wrap (all + (IntKind.u64.wrap (l.length : Nat))))) 116) :: L) (put_n (blockL_length ok.s _) (wrPart_length ok r) _) rfl ?_
      intro w25 hs26
      refine ⟨(opn (by kernel_rfl)), ?_⟩
      refine GoR.done (GoQ.blkN ?_)
      have hst : wrStep (s, part, n) r = (blockL s (overL part n (r.take (min r.length (64 - n)))), overL part n (r.take (min r.length (64 - n))), 0) := by unfold wrStep wrPart wrK; exact if_pos (by show n + min r.length (64 - n) = 64; omega)
      exact GoQ.back (blockL s (overL part n (r.take (min r.length (64 - n)))), overL part n (r.take (min r.length (64 - n))), 0, subAd ad c (min r.length (64 - n)) 1, c - (min r.length (64 - n)), (r).drop (min r.length (64 - n))) [0, 1] (by kernel_rfl) (by show ((r).drop (min r.length (64 - n))).length < r.length; show (List.drop _ r).length < _; rw [List.length_drop]; omega) ⟨⟨(by have h9 := wrStep_ok ok r; rw [hst] at h9; exact h9), (by show (List.drop _ r).length ≤ c - min r.length (64 - n); rw [List.length_drop]; omega), (by rw [← heq, wrL_step ok hr0, hst]; rfl), fun w h => RowsAt.dropL (hrow w h) hrc (by omega)⟩, hs26⟩
    · have h16' : ¬ (((n : Nat) + (min r.length (64 - n) : Nat) : Int) = 64) := ieqF h16
      refine GoC.skip (GoQ.blkN ?_)
      rw [← Int.natCast_add] at hs15
      have hst : wrStep (s, part, n) r = (s, overL part n (r.take (min r.length (64 - n))), n + (min r.length (64 - n))) := by unfold wrStep wrPart wrK; exact if_neg (by show ¬ n + min r.length (64 - n) = 64; omega)
      exact GoQ.back (s, overL part n (r.take (min r.length (64 - n))), n + (min r.length (64 - n)), subAd ad c (min r.length (64 - n)) 1, c - (min r.length (64 - n)), (r).drop (min r.length (64 - n))) [0, 1] (by kernel_rfl) (by show ((r).drop (min r.length (64 - n))).length < r.length; show (List.drop _ r).length < _; rw [List.length_drop]; omega) ⟨⟨(by have h9 := wrStep_ok ok r; rw [hst] at h9; exact h9), (by show (List.drop _ r).length ≤ c - min r.length (64 - n); rw [List.length_drop]; omega), (by rw [← heq, wrL_step ok hr0, hst]; rfl), fun w h => RowsAt.dropL (hrow w h) hrc (by omega)⟩, hs15⟩
  · have h6' : ¬ (((r.length : Nat) : Int) > 0) := of_decide_eq_false h6
    have hr0 : ¬ 0 < r.length := by omega
    refine GoC.exit (GoQ.skipC (GoQ.skipL (GoQ.hit ?_)))
    refine GoQ.done (.inr rfl) (fun a hf => results0 rfl a hf) ?_
    have hfin : (s, part, n) = wrL (s0, p0, n0) l := by rw [← heq, wrL_nil hr0]
    exact ⟨rfl, by rw [← hfin]; exact hs5⟩
end Go.Proofs.YtkiaagddmlddpaaGreatDoor

/-! ShaE -/
namespace Go.Proofs.YtkiaagddmlddpaaGreatDoor
open Go.RowKit Go.Sx
set_option linter.unusedVariables false
set_option linter.unusedSimpArgs false
set_option linter.unnecessarySimpa false
set_option maxRecDepth 100000
def startL : List Int := [1779033703, 3144134277, 1013904242, 2773480762, 1359893119, 2600822924, 528734635, 1541459225]
def newH : HS := (startL, (List.replicate 64 0), 0)
theorem newH_ok : HOK newH := ⟨rfl, rfl, by show (0 : Nat) < 64; omega⟩
theorem shaStart_spec {w0 w : World} {L : List Asn} (hs : St w0 (L) w) : Calls Tryz.prog 47 #[] w (Ret fun rv w' => rv = .agg #[.int .u32 1779033703, .int .u32 3144134277, .int .u32 1013904242, .int .u32 2773480762, .int .u32 1359893119, .int .u32 2600822924, .int .u32 528734635, .int .u32 1541459225] ∧ St w0 (L) w') := by
  refine enter (args := []) Tryz.func47 rfl Tryz.ntmps47 (Nat.le_of_ble_eq_true (by kernel_rfl)) ?_
  refine GoC.slots (S' := []) rfl ?_
  refine GoC.seq ?_
  refine GoC.regT [1] (.ef 0 .done) (by kernel_rfl) (by kernel_rfl) ?_
  refine GoR.alloc rfl rfl (by kernel_rfl) (z := .agg #[.int .u32 0, .int .u32 0, .int .u32 0, .int .u32 0, .int .u32 0, .int .u32 0, .int .u32 0, .int .u32 0]) (by kernel_rfl) hs (cs := #[.int .u32 0, .int .u32 0, .int .u32 0, .int .u32 0, .int .u32 0, .int .u32 0, .int .u32 0, .int .u32 0]) (by kernel_rfl) ?_
  intro b1 w2 hs3
  refine ⟨(opn (by kernel_rfl)), ?_⟩
  refine GoR.done (GoQ.thn (GoC.seq ?_))
  refine GoC.regT [3, 3] (.rd 0 (.ef 1 .done)) (by kernel_rfl) (by kernel_rfl) ?_
  refine GoR.phaseK [(0, .gen [])] [1, 0] [] [(1, .agg #[.int .u32 1779033703, .int .u32 3144134277, .int .u32 1013904242, .int .u32 2773480762, .int .u32 1359893119, .int .u32 2600822924, .int .u32 528734635, .int .u32 1541459225]), (0, .pointer (some ⟨b1, 0, none⟩))] (by kernel_rfl) rfl ak0 ?_
  refine GoR.store rfl rfl (by kernel_rfl) (b := b1) (off := 0) (v := .agg #[.int .u32 1779033703, .int .u32 3144134277, .int .u32 1013904242, .int .u32 2773480762, .int .u32 1359893119, .int .u32 2600822924, .int .u32 528734635, .int .u32 1541459225]) (by kernel_rfl) (by kernel_rfl) (ti := Tryz.t112) (by kernel_rfl) hs3 0 rfl (by kernel_rfl) (by kernel_rfl) (Nat.le_of_ble_eq_true (by kernel_rfl)) (cs' := #[.int .u32 1779033703, .int .u32 3144134277, .int .u32 1013904242, .int .u32 2773480762, .int .u32 1359893119, .int .u32 2600822924, .int .u32 528734635, .int .u32 1541459225]) (L' := (Cel b1 #[.int .u32 1779033703, .int .u32 3144134277, .int .u32 1013904242, .int .u32 2773480762, .int .u32 1359893119, .int .u32 2600822924, .int .u32 528734635, .int .u32 1541459225] 112) :: L) (by kernel_rfl) rfl ?_
  intro w4 hs5
  refine ⟨(opn (by kernel_rfl)), ?_⟩
  refine GoR.done (GoQ.thn (GoC.ret ?_))
  refine GoQ.done (.inl rfl) (v := .agg #[.int .u32 1779033703, .int .u32 3144134277, .int .u32 1013904242, .int .u32 2773480762, .int .u32 1359893119, .int .u32 2600822924, .int .u32 528734635, .int .u32 1541459225]) (fun a hf => resultsA rfl (by kernel_rfl) (ti := Tryz.t112) (by kernel_rfl) (by kernel_rfl) (vs := #[.int .u32 1779033703, .int .u32 3144134277, .int .u32 1013904242, .int .u32 2773480762, .int .u32 1359893119, .int .u32 2600822924, .int .u32 528734635, .int .u32 1541459225]) (by kernel_rfl) (hs5.cells 0 0 rfl (by kernel_rfl)) a hf) ?_
  have hs6 : St w0 (L) w4 := hs5.drop 1
  exact ⟨rfl, hs6⟩
theorem shaNew_spec {w0 w : World} {L : List Asn} (hs : St w0 (L) w) : Calls Tryz.prog 29 #[] w (Ret fun rv w' => ∃ (h : Nat), rv = .pointer (some ⟨h, 0, none⟩) ∧ St w0 ((Cel h (hashC startL (List.replicate 64 0) (0 : Nat) 0) 116) :: L) w') := by
  refine enter (args := []) Tryz.func29 rfl Tryz.ntmps29 (Nat.le_of_ble_eq_true (by kernel_rfl)) ?_
  refine GoC.slots (S' := []) rfl ?_
  refine GoC.seq ?_
  refine GoC.regT [1] (.rd 0 .done) (by kernel_rfl) (by kernel_rfl) ?_
  refine GoR.phaseK [(0, .gen [])] [0] [] [(0, .pointer none)] (by kernel_rfl) rfl ak0 ?_
  refine GoR.done (GoQ.thn (GoC.seq ?_))
  refine GoC.regT [15, 15, 15, 15] (.ef 0 (.rd 1 (.ef 2 (.rd 3 .done)))) (by kernel_rfl) (by kernel_rfl) ?_
  refine GoR.call rfl rfl (by kernel_rfl) (f := 47) (args := #[]) (by kernel_rfl) Tryz.call47 (shaStart_spec hs) ?_
  rintro v2 w3 ⟨rfl, hs1⟩
  refine ⟨(opn (by kernel_rfl)), ?_⟩
  refine GoR.phaseK [(1, .gen [])] [2, 0] [] [(2, .agg #[.int .u32 1779033703, .int .u32 3144134277, .int .u32 1013904242, .int .u32 2773480762, .int .u32 1359893119, .int .u32 2600822924, .int .u32 528734635, .int .u32 1541459225, .int .u8 0, .int .u8 0, .int .u8 0, .int .u8 0, .int .u8 0, .int .u8 0, .int .u8 0, .int .u8 0, .int .u8 0, .int .u8 0, .int .u8 0, .int .u8 0, .int .u8 0, .int .u8 0, .int .u8 0, .int .u8 0, .int .u8 0, .int .u8 0, .int .u8 0, .int .u8 0, .int .u8 0, .int .u8 0, .int .u8 0, .int .u8 0, .int .u8 0, .int .u8 0, .int .u8 0, .int .u8 0, .int .u8 0, .int .u8 0, .int .u8 0, .int .u8 0, .int .u8 0, .int .u8 0, .int .u8 0, .int .u8 0, .int .u8 0, .int .u8 0, .int .u8 0, .int .u8 0, .int .u8 0, .int .u8 0, .int .u8 0, .int .u8 0, .int .u8 0, .int .u8 0, .int .u8 0, .int .u8 0, .int .u8 0, .int .u8 0, .int .u8 0, .int .u8 0, .int .u8 0, .int .u8 0, .int .u8 0, .int .u8 0, .int .u8 0, .int .u8 0, .int .u8 0, .int .u8 0, .int .u8 0, .int .u8 0, .int .u8 0, .int .u8 0, .int .i64 0, .int .u64 0]), (0, .pointer none)] (by kernel_rfl) rfl ak0 ?_
  refine GoR.box rfl rfl (by kernel_rfl) (v := .agg #[.int .u32 1779033703, .int .u32 3144134277, .int .u32 1013904242, .int .u32 2773480762, .int .u32 1359893119, .int .u32 2600822924, .int .u32 528734635, .int .u32 1541459225, .int .u8 0, .int .u8 0, .int .u8 0, .int .u8 0, .int .u8 0, .int .u8 0, .int .u8 0, .int .u8 0, .int .u8 0, .int .u8 0, .int .u8 0, .int .u8 0, .int .u8 0, .int .u8 0, .int .u8 0, .int .u8 0, .int .u8 0, .int .u8 0, .int .u8 0, .int .u8 0, .int .u8 0, .int .u8 0, .int .u8 0, .int .u8 0, .int .u8 0, .int .u8 0, .int .u8 0, .int .u8 0, .int .u8 0, .int .u8 0, .int .u8 0, .int .u8 0, .int .u8 0, .int .u8 0, .int .u8 0, .int .u8 0, .int .u8 0, .int .u8 0, .int .u8 0, .int .u8 0, .int .u8 0, .int .u8 0, .int .u8 0, .int .u8 0, .int .u8 0, .int .u8 0, .int .u8 0, .int .u8 0, .int .u8 0, .int .u8 0, .int .u8 0, .int .u8 0, .int .u8 0, .int .u8 0, .int .u8 0, .int .u8 0, .int .u8 0, .int .u8 0, .int .u8 0, .int .u8 0, .int .u8 0, .int .u8 0, .int .u8 0, .int .u8 0, .int .i64 0, .int .u64 0]) (by kernel_rfl) hs1 (cs := #[.int .u32 1779033703, .int .u32 3144134277, .int .u32 1013904242, .int .u32 2773480762, .int .u32 1359893119, .int .u32 2600822924, .int .u32 528734635, .int .u32 1541459225, .int .u8 0, .int .u8 0, .int .u8 0, .int .u8 0, .int .u8 0, .int .u8 0, .int .u8 0, .int .u8 0, .int .u8 0, .int .u8 0, .int .u8 0, .int .u8 0, .int .u8 0, .int .u8 0, .int .u8 0, .int .u8 0, .int .u8 0, .int .u8 0, .int .u8 0, .int .u8 0, .int .u8 0, .int .u8 0, .int .u8 0, .int .u8 0, .int .u8 0, .int .u8 0, .int .u8 0, .int .u8 0, .int .u8 0, .int .u8 0, .int .u8 0, .int .u8 0, .int .u8 0, .int .u8 0, .int .u8 0, .int .u8 0, .int .u8 0, .int .u8 0, .int .u8 0, .int .u8 0, .int .u8 0, .int .u8 0, .int .u8 0, .int .u8 0, .int .u8 0, .int .u8 0, .int .u8 0, .int .u8 0, .int .u8 0, .int .u8 0, .int .u8 0, .int .u8 0, .int .u8 0, .int .u8 0, .int .u8 0, .int .u8 0, .int .u8 0, .int .u8 0, .int .u8 0, .int .u8 0, .int .u8 0, .int .u8 0, .int .u8 0, .int .u8 0, .int .i64 0, .int .u64 0]) (by kernel_rfl) ?_
  intro b4 w5 hs6
  refine ⟨(opn (by kernel_rfl)), ?_⟩
  refine GoR.phaseK [(3, .gen [])] [0] [] [(0, .pointer (some ⟨b4, 0, none⟩))] (by kernel_rfl) rfl ak0 ?_
  refine GoR.done (GoQ.thn (GoC.ret ?_))
  refine GoQ.done (.inl rfl) (v := .pointer (some ⟨b4, 0, none⟩)) (fun a hf => results1 rfl (by kernel_rfl) a hf) ?_
  have hs7 : St w0 ((Cel b4 (hashC startL (List.replicate 64 0) (0 : Nat) 0) 116) :: L) w5 := Eq.mp (by kernel_rfl) hs6
  exact ⟨b4, rfl, hs7⟩
end Go.Proofs.YtkiaagddmlddpaaGreatDoor

/-! ShaF -/
namespace Go.Proofs.YtkiaagddmlddpaaGreatDoor
open Go.RowKit Go.Sx
set_option linter.unusedVariables false
set_option linter.unusedSimpArgs false
set_option linter.unnecessarySimpa false
set_option maxRecDepth 100000
def lenB (n : Int) (j : Nat) : Int := IntKind.u8.wrap (iShr .u64 n (8 * (7 - (j : Int))))
def lenR (n : Int) (y : Nat) (h : HS) : HS := iter (fun j g => wrL g [lenB n j]) y h
theorem lenR_succ (n : Int) (y : Nat) (h : HS) : lenR n (y + 1) h = wrL (lenR n y h) [lenB n y] := rfl
def outW (x : Int) : List Int := [IntKind.u8.wrap (iShr .u32 x 24), IntKind.u8.wrap (iShr .u32 x 16), IntKind.u8.wrap (iShr .u32 x 8), IntKind.u8.wrap x]
def outR (s : List Int) (k : Nat) : List Int := iter (fun i l => overL l (4 * i) (outW (s.getD i 0))) k (List.replicate 32 0)
theorem outR_succ (s : List Int) (k : Nat) : outR s (k + 1) = overL (outR s k) (4 * k) (outW (s.getD k 0)) := rfl
/-- The digest of what was written. -/
def sumL (h : HS) (all : Int) : List Int := outR (lenR (IntKind.u64.wrap (all * 8)) 8 (pad (wrL h [(128 : Int)]))).1 8
theorem outR_length (s : List Int) : ∀ k, k ≤ 8 → (outR s k).length = 32
  | 0, _ => rfl
  | k + 1, h => by
    have ih := outR_length s k (by omega)
    rw [outR_succ, overL_len (by rw [ih]; simp only [outW, List.length_cons, List.length_nil]; omega), ih]
theorem shaSumM_spec {w0 w : World} {L : List Asn} {h : Nat} (s0 : List Int) (p0 : List Int) (n0 : Nat) (all : Int) (hk0 : HOK (s0, p0, n0)) (hT : ∀ w, St w0 L w → TabR w) (hs : St w0 ((Cel h (hashC s0 p0 (n0 : Nat) all) 116) :: L) w) : Calls Tryz.prog 31 #[.pointer (some ⟨h, 0, none⟩)] w (Ret fun rv w' => rv = .agg (arrCells byteC (sumL (s0, p0, n0) all)) ∧ St w0 ((Cel h (hashC s0 p0 (n0 : Nat) all) 116) :: L) w') := by
  refine enter (args := [.pointer (some ⟨h, 0, none⟩)]) Tryz.func31 rfl Tryz.ntmps31 (Nat.le_of_ble_eq_true (by kernel_rfl)) ?_
  refine GoC.slots (S' := [(0, .pointer (some ⟨h, 0, none⟩))]) rfl ?_
  refine GoC.seq ?_
  refine GoC.regT [1] (.ef 0 .done) (by kernel_rfl) (by kernel_rfl) ?_
  refine GoR.alloc rfl rfl (by kernel_rfl) (z := .agg #[.int .u8 0, .int .u8 0, .int .u8 0, .int .u8 0, .int .u8 0, .int .u8 0, .int .u8 0, .int .u8 0, .int .u8 0, .int .u8 0, .int .u8 0, .int .u8 0, .int .u8 0, .int .u8 0, .int .u8 0, .int .u8 0, .int .u8 0, .int .u8 0, .int .u8 0, .int .u8 0, .int .u8 0, .int .u8 0, .int .u8 0, .int .u8 0, .int .u8 0, .int .u8 0, .int .u8 0, .int .u8 0, .int .u8 0, .int .u8 0, .int .u8 0, .int .u8 0]) (by kernel_rfl) hs (cs := #[.int .u8 0, .int .u8 0, .int .u8 0, .int .u8 0, .int .u8 0, .int .u8 0, .int .u8 0, .int .u8 0, .int .u8 0, .int .u8 0, .int .u8 0, .int .u8 0, .int .u8 0, .int .u8 0, .int .u8 0, .int .u8 0, .int .u8 0, .int .u8 0, .int .u8 0, .int .u8 0, .int .u8 0, .int .u8 0, .int .u8 0, .int .u8 0, .int .u8 0, .int .u8 0, .int .u8 0, .int .u8 0, .int .u8 0, .int .u8 0, .int .u8 0, .int .u8 0]) (by kernel_rfl) ?_
  intro b1 w2 hs3
  refine ⟨(opn (by kernel_rfl)), ?_⟩
  refine GoR.done (GoQ.thn (GoC.seq ?_))
  refine GoC.regT [3, 3] (.ef 0 (.rd 1 .done)) (by kernel_rfl) (by kernel_rfl) ?_
  refine GoR.call rfl rfl (by kernel_rfl) (f := 29) (args := #[]) (by kernel_rfl) Tryz.call29 (shaNew_spec hs3) ?_
  rintro v6 w7 ⟨h4, rfl, hs5⟩
  refine ⟨(opn (by kernel_rfl)), ?_⟩
  refine GoR.phaseK [(1, .gen [])] [3, 2, 0] [] [(3, .pointer (some ⟨h4, 0, none⟩)), (2, .pointer (some ⟨b1, 0, none⟩)), (0, .pointer (some ⟨h, 0, none⟩))] (by kernel_rfl) rfl ak0 ?_
  refine GoR.done (GoQ.thn (GoC.seq (GoC.seq ?_)))
  refine GoC.regT [3, 3] (.rd 0 (.rd 1 .done)) (by kernel_rfl) (by kernel_rfl) ?_
  refine GoR.phaseK [(0, .gen []), (1, .gen [])] [10, 3, 2, 0] [] [(10, .bool true), (3, .pointer (some ⟨h4, 0, none⟩)), (2, .pointer (some ⟨b1, 0, none⟩)), (0, .pointer (some ⟨h, 0, none⟩))] (by kernel_rfl) rfl ak0 ?_
  refine GoR.done (GoQ.thn (GoC.condT (by kernel_rfl) ?_))
  refine GoC.regT [63, 63, 63, 63, 63, 63] (.rd 0 (.rd 1 (.rd 2 (.rd 3 (.rd 4 (.ef 5 .done)))))) (by kernel_rfl) (by kernel_rfl) ?_
  refine GoR.phaseK [(0, .gen []), (1, .gen []), (2, .gen []), (3, .agg (hashC s0 p0 (n0 : Nat) all)), (4, .gen [])] [15, 14, 3, 2] [(3, [.prop (Array.size (hashC s0 p0 (n0 : Nat) all) = 74), .cells ⟨h, 0, none⟩ (hashC s0 p0 (n0 : Nat) all)])] [(15, .pointer (some ⟨h4, 0, none⟩)), (14, .agg (hashC s0 p0 (n0 : Nat) all)), (3, .pointer (some ⟨h4, 0, none⟩)), (2, .pointer (some ⟨b1, 0, none⟩))] (by kernel_rfl) rfl (ak (okp (hash_size (show s0.length = 8 from hk0.s) (show p0.length = 64 from hk0.part)) (oka (hs5.cells 2 0 rfl (hash_whole (show s0.length = 8 from hk0.s) (show p0.length = 64 from hk0.part))) ok0)) ak0) ?_
  refine GoR.store rfl rfl (by kernel_rfl) (b := h4) (off := 0) (v := .agg (hashC s0 p0 (n0 : Nat) all)) (by kernel_rfl) (by kernel_rfl) (ti := Tryz.t116) (by kernel_rfl) hs5 0 rfl (hash_size (show s0.length = 8 from hk0.s) (show p0.length = 64 from hk0.part)) (hash_ones _ _ _ _) (by show 0 + (hashC _ _ _ _).size ≤ _; rw [hash_size (show s0.length = 8 from hk0.s) (show p0.length = 64 from hk0.part), hash_size (show startL.length = 8 from newH_ok.s) (show (List.replicate 64 0).length = 64 from newH_ok.part)]; omega) (cs' := hashC s0 p0 (n0 : Nat) all) (L' := (Cel h4 (hashC s0 p0 (n0 : Nat) all) 116) :: (Cel b1 #[.int .u8 0, .int .u8 0, .int .u8 0, .int .u8 0, .int .u8 0, .int .u8 0, .int .u8 0, .int .u8 0, .int .u8 0, .int .u8 0, .int .u8 0, .int .u8 0, .int .u8 0, .int .u8 0, .int .u8 0, .int .u8 0, .int .u8 0, .int .u8 0, .int .u8 0, .int .u8 0, .int .u8 0, .int .u8 0, .int .u8 0, .int .u8 0, .int .u8 0, .int .u8 0, .int .u8 0, .int .u8 0, .int .u8 0, .int .u8 0, .int .u8 0, .int .u8 0] 34) :: (Cel h (hashC s0 p0 (n0 : Nat) all) 116) :: L) (put_whole (show startL.length = 8 from newH_ok.s) (show (List.replicate 64 0).length = 64 from newH_ok.part) (show s0.length = 8 from hk0.s) (show p0.length = 64 from hk0.part)) rfl ?_
  intro w8 hs9
  refine ⟨(opn (by kernel_rfl)), ?_⟩
  refine GoR.done (GoQ.thn (GoC.seq ?_))
  refine GoC.regT [63, 63, 63, 63, 63, 63] (.rd 0 (.rd 1 (.rd 2 (.rd 3 (.rd 4 (.rd 5 .done)))))) (by kernel_rfl) (by kernel_rfl) ?_
  refine GoR.phaseK [(0, .gen []), (1, .gen []), (2, .gen []), (3, .gen [.int .u64 all]), (4, .gen []), (5, .gen [])] [4, 3, 2] [(3, [.cell ⟨h4, 73, none⟩ (.int .u64 all)])] [(4, .int .u64 (IntKind.u64.wrap (all * 8))), (3, .pointer (some ⟨h4, 0, none⟩)), (2, .pointer (some ⟨b1, 0, none⟩))] (by kernel_rfl) rfl (ak (okc (hs9.cell 0 rfl (hash_all (show s0.length = 8 from hk0.s) (show p0.length = 64 from hk0.part))) ok0) ak0) ?_
  refine GoR.done (GoQ.thn (GoC.seq ?_))
  refine GoC.regT [7, 7, 7] (.rd 0 (.ef 1 (.ef 2 .done))) (by kernel_rfl) (by kernel_rfl) ?_
  refine GoR.phaseK [(0, .gen [])] [21, 4, 3, 2] [] [(21, .pointer (some ⟨h4, 0, none⟩)), (4, .int .u64 (IntKind.u64.wrap (all * 8))), (3, .pointer (some ⟨h4, 0, none⟩)), (2, .pointer (some ⟨b1, 0, none⟩))] (by kernel_rfl) rfl ak0 ?_
  refine GoR.sliceLit rfl (by kernel_rfl) (t := 23) (e := 5) (n := 1) (ps := [(0, .int .u8 128)]) (by kernel_rfl) (by kernel_rfl) (ti := Tryz.t5) (z := .int .u8 0) (by kernel_rfl) (by kernel_rfl) (by decide) (by decide) (cs := #[.int .u8 128]) (by kernel_rfl) hs9 ?_
  intro b10 w11 hs12 hz13
  have hs14 : St w0 ((Sl (some ⟨b10, 0, none⟩) 1 5 1 byteC ([(128 : Int)])) :: (Cel h4 (hashC s0 p0 (n0 : Nat) all) 116) :: (Cel b1 #[.int .u8 0, .int .u8 0, .int .u8 0, .int .u8 0, .int .u8 0, .int .u8 0, .int .u8 0, .int .u8 0, .int .u8 0, .int .u8 0, .int .u8 0, .int .u8 0, .int .u8 0, .int .u8 0, .int .u8 0, .int .u8 0, .int .u8 0, .int .u8 0, .int .u8 0, .int .u8 0, .int .u8 0, .int .u8 0, .int .u8 0, .int .u8 0, .int .u8 0, .int .u8 0, .int .u8 0, .int .u8 0, .int .u8 0, .int .u8 0, .int .u8 0, .int .u8 0] 34) :: (Cel h (hashC s0 p0 (n0 : Nat) all) 116) :: L) w11 := St.slOf (l := [(128 : Int)]) (f := byteC) hs12 hz13 (byteF).size (by simp only [List.length_cons, List.length_nil, maxLen]; omega) (by kernel_rfl)
  refine ⟨(opn (by kernel_rfl)), ?_⟩
  have hs15 : St w0 ((Cel h4 (hashC s0 p0 (n0 : Nat) all) 116) :: (Sl (some ⟨b10, 0, none⟩) 1 5 1 byteC ([(128 : Int)])) :: (Cel b1 #[.int .u8 0, .int .u8 0, .int .u8 0, .int .u8 0, .int .u8 0, .int .u8 0, .int .u8 0, .int .u8 0, .int .u8 0, .int .u8 0, .int .u8 0, .int .u8 0, .int .u8 0, .int .u8 0, .int .u8 0, .int .u8 0, .int .u8 0, .int .u8 0, .int .u8 0, .int .u8 0, .int .u8 0, .int .u8 0, .int .u8 0, .int .u8 0, .int .u8 0, .int .u8 0, .int .u8 0, .int .u8 0, .int .u8 0, .int .u8 0, .int .u8 0, .int .u8 0] 34) :: (Cel h (hashC s0 p0 (n0 : Nat) all) 116) :: L) w11 := (hs14.pull 1 rfl)
  refine GoR.call rfl rfl (by kernel_rfl) (f := 30) (args := #[.pointer (some ⟨h4, 0, none⟩), .slice (some ⟨b10, 0, none⟩) (([(128 : Int)]).length) 1]) (by kernel_rfl) Tryz.call30 (write_spec s0 p0 n0 all ([(128 : Int)]) (by first | exact hk0 | exact newH_ok | exact hpa.1 | exact hpb.2.2.1 | exact wrL_ok hk0 _ | exact wrL_ok newH_ok _ | exact wrL_ok hpa.1 _ | exact wrL_ok hpb.2.2.1 _) (Nat.le_refl _) (by first | omega | (exact Nat.le_of_ble_eq_true rfl)) (fun w h => hT w (h.drop 3)) (fun w h => h.rows 0 rfl (byteF).size _) hs15) ?_
  rintro v17 w18 ⟨rfl, hs16⟩
  refine ⟨(opn (by kernel_rfl)), ?_⟩
  refine GoR.done (GoQ.thn (GoC.seq (GoC.block ?_)))
  have hs19 : St w0 ((Sl (some ⟨b10, 0, none⟩) 1 5 1 byteC ([(128 : Int)])) :: (Cel h4 (hashC ((wrL (s0, p0, n0) ([(128 : Int)])).1) ((wrL (s0, p0, n0) ([(128 : Int)])).2.1) ((wrL (s0, p0, n0) ([(128 : Int)])).2.2 : Nat) (IntKind.u64.wrap (all + (IntKind.u64.wrap (([(128 : Int)]).length : Nat))))) 116) :: (Cel b1 #[.int .u8 0, .int .u8 0, .int .u8 0, .int .u8 0, .int .u8 0, .int .u8 0, .int .u8 0, .int .u8 0, .int .u8 0, .int .u8 0, .int .u8 0, .int .u8 0, .int .u8 0, .int .u8 0, .int .u8 0, .int .u8 0, .int .u8 0, .int .u8 0, .int .u8 0, .int .u8 0, .int .u8 0, .int .u8 0, .int .u8 0, .int .u8 0, .int .u8 0, .int .u8 0, .int .u8 0, .int .u8 0, .int .u8 0, .int .u8 0, .int .u8 0, .int .u8 0] 34) :: (Cel h (hashC s0 p0 (n0 : Nat) all) 116) :: L) w18 := ((((hs16.pull 3 rfl).pull 3 rfl).pull 2 rfl).pull 3 rfl)
  have hs20 : St w0 ((Cel h4 (hashC ((wrL (s0, p0, n0) ([(128 : Int)])).1) ((wrL (s0, p0, n0) ([(128 : Int)])).2.1) ((wrL (s0, p0, n0) ([(128 : Int)])).2.2 : Nat) (IntKind.u64.wrap (all + (IntKind.u64.wrap (([(128 : Int)]).length : Nat))))) 116) :: (Cel b1 #[.int .u8 0, .int .u8 0, .int .u8 0, .int .u8 0, .int .u8 0, .int .u8 0, .int .u8 0, .int .u8 0, .int .u8 0, .int .u8 0, .int .u8 0, .int .u8 0, .int .u8 0, .int .u8 0, .int .u8 0, .int .u8 0, .int .u8 0, .int .u8 0, .int .u8 0, .int .u8 0, .int .u8 0, .int .u8 0, .int .u8 0, .int .u8 0, .int .u8 0, .int .u8 0, .int .u8 0, .int .u8 0, .int .u8 0, .int .u8 0, .int .u8 0, .int .u8 0] 34) :: (Cel h (hashC s0 p0 (n0 : Nat) all) 116) :: L) w18 := hs19.drop 1
  refine GoC.loop (T := HS × Int) (fun gg => [(2, .pointer (some ⟨b1, 0, none⟩)), (3, .pointer (some ⟨h4, 0, none⟩)), (4, .int .u64 (IntKind.u64.wrap (all * 8)))]) (fun gg w => (HOK gg.1 ∧ pad gg.1 = pad (wrL (s0, p0, n0) [(128 : Int)])) ∧ St w0 ((Cel h4 (hashC gg.1.1 gg.1.2.1 (gg.1.2.2 : Nat) gg.2) 116) :: (Cel b1 #[.int .u8 0, .int .u8 0, .int .u8 0, .int .u8 0, .int .u8 0, .int .u8 0, .int .u8 0, .int .u8 0, .int .u8 0, .int .u8 0, .int .u8 0, .int .u8 0, .int .u8 0, .int .u8 0, .int .u8 0, .int .u8 0, .int .u8 0, .int .u8 0, .int .u8 0, .int .u8 0, .int .u8 0, .int .u8 0, .int .u8 0, .int .u8 0, .int .u8 0, .int .u8 0, .int .u8 0, .int .u8 0, .int .u8 0, .int .u8 0, .int .u8 0, .int .u8 0] 34) :: (Cel h (hashC s0 p0 (n0 : Nat) all) 116) :: L) w) (fun gg => (120 - gg.1.2.2) % 64) ((wrL (s0, p0, n0) ([(128 : Int)])), (IntKind.u64.wrap (all + (IntKind.u64.wrap (([(128 : Int)]).length : Nat))))) [2, 3, 4] (by kernel_rfl) ⟨⟨wrL_ok hk0 _, rfl⟩, hs20⟩ ?_
  rintro ⟨g1, al1⟩ w21 ⟨hpa0, hs22⟩
  have hpa : HOK g1 ∧ pad g1 = pad (wrL (s0, p0, n0) [(128 : Int)]) := hpa0
  have hs23 : St w0 ((Cel h4 (hashC g1.1 g1.2.1 (g1.2.2 : Nat) al1) 116) :: (Cel b1 #[.int .u8 0, .int .u8 0, .int .u8 0, .int .u8 0, .int .u8 0, .int .u8 0, .int .u8 0, .int .u8 0, .int .u8 0, .int .u8 0, .int .u8 0, .int .u8 0, .int .u8 0, .int .u8 0, .int .u8 0, .int .u8 0, .int .u8 0, .int .u8 0, .int .u8 0, .int .u8 0, .int .u8 0, .int .u8 0, .int .u8 0, .int .u8 0, .int .u8 0, .int .u8 0, .int .u8 0, .int .u8 0, .int .u8 0, .int .u8 0, .int .u8 0, .int .u8 0] 34) :: (Cel h (hashC s0 p0 (n0 : Nat) all) 116) :: L) w21 := hs22
  refine GoC.slots (S' := [(2, .pointer (some ⟨b1, 0, none⟩)), (3, .pointer (some ⟨h4, 0, none⟩)), (4, .int .u64 (IntKind.u64.wrap (all * 8)))]) rfl ?_
  refine GoC.seq (GoC.seq ?_)
  refine GoC.regT [31, 31, 31, 31, 31] (.rd 0 (.rd 1 (.rd 2 (.rd 3 (.rd 4 .done))))) (by kernel_rfl) (by kernel_rfl) ?_
  refine GoR.phaseK [(0, .gen []), (1, .gen []), (2, .gen []), (3, .gen [.int .i64 (g1.2.2 : Nat)]), (4, .gen [])] [28, 2, 3, 4] [(3, [.cell ⟨h4, 72, none⟩ (.int .i64 (g1.2.2 : Nat))])] [(28, .bool (((g1.2.2 : Nat) : Int) != 56)), (2, .pointer (some ⟨b1, 0, none⟩)), (3, .pointer (some ⟨h4, 0, none⟩)), (4, .int .u64 (IntKind.u64.wrap (all * 8)))] (by kernel_rfl) rfl (ak (okc (hs23.cell 0 rfl (hash_n (show g1.1.length = 8 from hpa.1.s) (show g1.2.1.length = 64 from hpa.1.part))) ok0) ak0) ?_
  refine GoR.done (GoQ.thn ?_)
  refine GoC.cond (t := ((g1.2.2 : Nat) : Int) != 56) (by kernel_rfl) (fun h24 => ?_) (fun h24 => ?_)
  · have h24' : ¬ (((g1.2.2 : Nat) : Int) = 56) := ineT h24
    refine GoC.skip (GoQ.thn (GoC.block ?_))
    refine GoC.regT [7, 7, 7] (.rd 0 (.ef 1 (.ef 2 .done))) (by kernel_rfl) (by kernel_rfl) ?_
    refine GoR.phaseK [(0, .gen [])] [29, 2, 3, 4] [] [(29, .pointer (some ⟨h4, 0, none⟩)), (2, .pointer (some ⟨b1, 0, none⟩)), (3, .pointer (some ⟨h4, 0, none⟩)), (4, .int .u64 (IntKind.u64.wrap (all * 8)))] (by kernel_rfl) rfl ak0 ?_
    refine GoR.sliceLit rfl (by kernel_rfl) (t := 23) (e := 5) (n := 1) (ps := [(0, .int .u8 0)]) (by kernel_rfl) (by kernel_rfl) (ti := Tryz.t5) (z := .int .u8 0) (by kernel_rfl) (by kernel_rfl) (by decide) (by decide) (cs := #[.int .u8 0]) (by kernel_rfl) hs23 ?_
    intro b25 w26 hs27 hz28
    have hs29 : St w0 ((Sl (some ⟨b25, 0, none⟩) 1 5 1 byteC ([(0 : Int)])) :: (Cel h4 (hashC g1.1 g1.2.1 (g1.2.2 : Nat) al1) 116) :: (Cel b1 #[.int .u8 0, .int .u8 0, .int .u8 0, .int .u8 0, .int .u8 0, .int .u8 0, .int .u8 0, .int .u8 0, .int .u8 0, .int .u8 0, .int .u8 0, .int .u8 0, .int .u8 0, .int .u8 0, .int .u8 0, .int .u8 0, .int .u8 0, .int .u8 0, .int .u8 0, .int .u8 0, .int .u8 0, .int .u8 0, .int .u8 0, .int .u8 0, .int .u8 0, .int .u8 0, .int .u8 0, .int .u8 0, .int .u8 0, .int .u8 0, .int .u8 0, .int .u8 0] 34) :: (Cel h (hashC s0 p0 (n0 : Nat) all) 116) :: L) w26 := St.slOf (l := [(0 : Int)]) (f := byteC) hs27 hz28 (byteF).size (by simp only [List.length_cons, List.length_nil, maxLen]; omega) (by kernel_rfl)
    refine ⟨(opn (by kernel_rfl)), ?_⟩
    have hs30 : St w0 ((Cel h4 (hashC g1.1 g1.2.1 (g1.2.2 : Nat) al1) 116) :: (Sl (some ⟨b25, 0, none⟩) 1 5 1 byteC ([(0 : Int)])) :: (Cel b1 #[.int .u8 0, .int .u8 0, .int .u8 0, .int .u8 0, .int .u8 0, .int .u8 0, .int .u8 0, .int .u8 0, .int .u8 0, .int .u8 0, .int .u8 0, .int .u8 0, .int .u8 0, .int .u8 0, .int .u8 0, .int .u8 0, .int .u8 0, .int .u8 0, .int .u8 0, .int .u8 0, .int .u8 0, .int .u8 0, .int .u8 0, .int .u8 0, .int .u8 0, .int .u8 0, .int .u8 0, .int .u8 0, .int .u8 0, .int .u8 0, .int .u8 0, .int .u8 0] 34) :: (Cel h (hashC s0 p0 (n0 : Nat) all) 116) :: L) w26 := (hs29.pull 1 rfl)
    refine GoR.call rfl rfl (by kernel_rfl) (f := 30) (args := #[.pointer (some ⟨h4, 0, none⟩), .slice (some ⟨b25, 0, none⟩) (([(0 : Int)]).length) 1]) (by kernel_rfl) Tryz.call30 (write_spec g1.1 g1.2.1 g1.2.2 al1 ([(0 : Int)]) (by first | exact hk0 | exact newH_ok | exact hpa.1 | exact hpb.2.2.1 | exact wrL_ok hk0 _ | exact wrL_ok newH_ok _ | exact wrL_ok hpa.1 _ | exact wrL_ok hpb.2.2.1 _) (Nat.le_refl _) (by first | omega | (exact Nat.le_of_ble_eq_true rfl)) (fun w h => hT w (h.drop 3)) (fun w h => h.rows 0 rfl (byteF).size _) hs30) ?_
    rintro v32 w33 ⟨rfl, hs31⟩
    refine ⟨(opn (by kernel_rfl)), ?_⟩
    refine GoR.done (GoQ.blkN ?_)
    have hs34 : St w0 ((Sl (some ⟨b25, 0, none⟩) 1 5 1 byteC ([(0 : Int)])) :: (Cel h4 (hashC ((wrL (g1.1, g1.2.1, g1.2.2) ([(0 : Int)])).1) ((wrL (g1.1, g1.2.1, g1.2.2) ([(0 : Int)])).2.1) ((wrL (g1.1, g1.2.1, g1.2.2) ([(0 : Int)])).2.2 : Nat) (IntKind.u64.wrap (al1 + (IntKind.u64.wrap (([(0 : Int)]).length : Nat))))) 116) :: (Cel b1 #[.int .u8 0, .int .u8 0, .int .u8 0, .int .u8 0, .int .u8 0, .int .u8 0, .int .u8 0, .int .u8 0, .int .u8 0, .int .u8 0, .int .u8 0, .int .u8 0, .int .u8 0, .int .u8 0, .int .u8 0, .int .u8 0, .int .u8 0, .int .u8 0, .int .u8 0, .int .u8 0, .int .u8 0, .int .u8 0, .int .u8 0, .int .u8 0, .int .u8 0, .int .u8 0, .int .u8 0, .int .u8 0, .int .u8 0, .int .u8 0, .int .u8 0, .int .u8 0] 34) :: (Cel h (hashC s0 p0 (n0 : Nat) all) 116) :: L) w33 := ((((hs31.pull 3 rfl).pull 3 rfl).pull 2 rfl).pull 3 rfl)
    have hs35 : St w0 ((Cel h4 (hashC ((wrL (g1.1, g1.2.1, g1.2.2) ([(0 : Int)])).1) ((wrL (g1.1, g1.2.1, g1.2.2) ([(0 : Int)])).2.1) ((wrL (g1.1, g1.2.1, g1.2.2) ([(0 : Int)])).2.2 : Nat) (IntKind.u64.wrap (al1 + (IntKind.u64.wrap (([(0 : Int)]).length : Nat))))) 116) :: (Cel b1 #[.int .u8 0, .int .u8 0, .int .u8 0, .int .u8 0, .int .u8 0, .int .u8 0, .int .u8 0, .int .u8 0, .int .u8 0, .int .u8 0, .int .u8 0, .int .u8 0, .int .u8 0, .int .u8 0, .int .u8 0, .int .u8 0, .int .u8 0, .int .u8 0, .int .u8 0, .int .u8 0, .int .u8 0, .int .u8 0, .int .u8 0, .int .u8 0, .int .u8 0, .int .u8 0, .int .u8 0, .int .u8 0, .int .u8 0, .int .u8 0, .int .u8 0, .int .u8 0] 34) :: (Cel h (hashC s0 p0 (n0 : Nat) all) 116) :: L) w33 := hs34.drop 1
    exact GoQ.back ((wrL (g1.1, g1.2.1, g1.2.2) ([(0 : Int)])), IntKind.u64.wrap (al1 + (IntKind.u64.wrap (([(0 : Int)]).length : Nat)))) [2, 3, 4] (by kernel_rfl) (by show (120 - (wrL (g1.1, g1.2.1, g1.2.2) ([(0 : Int)])).2.2) % 64 < (120 - g1.2.2) % 64; exact pad_less hpa.1 (by show g1.2.2 ≠ 56; omega)) ⟨⟨wrL_ok hpa.1 _, (pad_step hpa.1 (by show g1.2.2 ≠ 56; omega)).trans hpa.2⟩, hs35⟩
  · have h24' : ((g1.2.2 : Nat) : Int) = 56 := ineF h24
    refine GoC.exit (GoQ.skipC (GoQ.skipL (GoQ.hit (GoQ.thn (GoC.seq (GoC.seq ?_))))))
    refine GoC.regT [1] (.rd 0 .done) (by kernel_rfl) (by kernel_rfl) ?_
    refine GoR.phaseK [(0, .gen [])] [5, 2, 3, 4] [] [(5, .int .i64 7), (2, .pointer (some ⟨b1, 0, none⟩)), (3, .pointer (some ⟨h4, 0, none⟩)), (4, .int .u64 (IntKind.u64.wrap (all * 8)))] (by kernel_rfl) rfl ak0 ?_
    refine GoR.done (GoQ.thn (GoC.block ?_))
    refine GoC.loop (T := Nat × Int × HS × Int) (fun gg => [(2, .pointer (some ⟨b1, 0, none⟩)), (3, .pointer (some ⟨h4, 0, none⟩)), (4, .int .u64 (IntKind.u64.wrap (all * 8))), (5, .int .i64 gg.2.1)]) (fun gg w => (gg.1 ≤ 8 ∧ gg.2.1 = 7 - (gg.1 : Nat) ∧ HOK gg.2.2.1 ∧ gg.2.2.1 = lenR (IntKind.u64.wrap (all * 8)) gg.1 (pad (wrL (s0, p0, n0) [(128 : Int)]))) ∧ St w0 ((Cel h4 (hashC gg.2.2.1.1 gg.2.2.1.2.1 (gg.2.2.1.2.2 : Nat) gg.2.2.2) 116) :: (Cel b1 #[.int .u8 0, .int .u8 0, .int .u8 0, .int .u8 0, .int .u8 0, .int .u8 0, .int .u8 0, .int .u8 0, .int .u8 0, .int .u8 0, .int .u8 0, .int .u8 0, .int .u8 0, .int .u8 0, .int .u8 0, .int .u8 0, .int .u8 0, .int .u8 0, .int .u8 0, .int .u8 0, .int .u8 0, .int .u8 0, .int .u8 0, .int .u8 0, .int .u8 0, .int .u8 0, .int .u8 0, .int .u8 0, .int .u8 0, .int .u8 0, .int .u8 0, .int .u8 0] 34) :: (Cel h (hashC s0 p0 (n0 : Nat) all) 116) :: L) w) (fun gg => 8 - gg.1) (0, 7, g1, al1) [2, 3, 4, 5] (by kernel_rfl) ⟨⟨Nat.zero_le _, by first | omega | (simp only; omega), hpa.1, by rw [← hpa.2, pad_end (by omega)]; rfl⟩, hs23⟩ ?_
    rintro ⟨y2, z2, g2, al2⟩ w36 ⟨hpb0, hs37⟩
    have hpb : y2 ≤ 8 ∧ z2 = 7 - (y2 : Nat) ∧ HOK g2 ∧ g2 = lenR (IntKind.u64.wrap (all * 8)) y2 (pad (wrL (s0, p0, n0) [(128 : Int)])) := hpb0
    have hs38 : St w0 ((Cel h4 (hashC g2.1 g2.2.1 (g2.2.2 : Nat) al2) 116) :: (Cel b1 #[.int .u8 0, .int .u8 0, .int .u8 0, .int .u8 0, .int .u8 0, .int .u8 0, .int .u8 0, .int .u8 0, .int .u8 0, .int .u8 0, .int .u8 0, .int .u8 0, .int .u8 0, .int .u8 0, .int .u8 0, .int .u8 0, .int .u8 0, .int .u8 0, .int .u8 0, .int .u8 0, .int .u8 0, .int .u8 0, .int .u8 0, .int .u8 0, .int .u8 0, .int .u8 0, .int .u8 0, .int .u8 0, .int .u8 0, .int .u8 0, .int .u8 0, .int .u8 0] 34) :: (Cel h (hashC s0 p0 (n0 : Nat) all) 116) :: L) w36 := hs37
    refine GoC.slots (S' := [(2, .pointer (some ⟨b1, 0, none⟩)), (3, .pointer (some ⟨h4, 0, none⟩)), (4, .int .u64 (IntKind.u64.wrap (all * 8))), (5, .int .i64 z2)]) rfl ?_
    refine GoC.seq (GoC.seq ?_)
    refine GoC.regT [3, 3] (.rd 0 (.rd 1 .done)) (by kernel_rfl) (by kernel_rfl) ?_
    refine GoR.phaseK [(0, .gen []), (1, .gen [])] [33, 2, 3, 4, 5] [] [(33, .bool (decide ((z2 : Int) ≥ 0))), (2, .pointer (some ⟨b1, 0, none⟩)), (3, .pointer (some ⟨h4, 0, none⟩)), (4, .int .u64 (IntKind.u64.wrap (all * 8))), (5, .int .i64 z2)] (by kernel_rfl) rfl ak0 ?_
    refine GoR.done (GoQ.thn ?_)
    refine GoC.cond (t := decide ((z2 : Int) ≥ 0)) (by kernel_rfl) (fun h39 => ?_) (fun h39 => ?_)
    · have h39' : (z2 : Int) ≥ 0 := of_decide_eq_true h39
      refine GoC.skip (GoQ.thn (GoC.seq (GoC.block ?_)))
      refine GoC.regT [255, 255, 255, 255, 255, 255, 255, 255] (.rd 0 (.rd 1 (.rd 2 (.rd 3 (.rd 4 (.rd 5 (.ef 6 (.ef 7 .done)))))))) (by kernel_rfl) (by kernel_rfl) ?_
      refine GoR.phaseK [(0, .gen []), (1, .gen []), (2, .gen []), (3, .as_ (.int .i64 (8 * z2)) (.gen [])), (4, .shift (iShr .u64 (IntKind.u64.wrap (all * 8)) (8 * z2))), (5, .gen [])] [41, 36, 2, 3, 4, 5] [(3, [.prop (Value.int .i64 (IntKind.i64.wrap (8 * z2)) = Value.int .i64 (8 * z2))]), (4, [.prop ((0 : Int) ≤ 8 * z2 ∧ Int.fdiv (IntKind.u64.wrap (all * 8)) (2 ^ (min (Int.toNat (8 * z2)) (IntKind.bits .u64))) = iShr .u64 (IntKind.u64.wrap (all * 8)) (8 * z2))])] [(41, .int .u8 (IntKind.u8.wrap (iShr .u64 (IntKind.u64.wrap (all * 8)) (8 * z2)))), (36, .pointer (some ⟨h4, 0, none⟩)), (2, .pointer (some ⟨b1, 0, none⟩)), (3, .pointer (some ⟨h4, 0, none⟩)), (4, .int .u64 (IntKind.u64.wrap (all * 8))), (5, .int .i64 z2)] (by kernel_rfl) rfl (ak (okp (i64ok (by omega) (by omega)) ok0) (ak (okp ⟨(by first | omega | exact uwrap_nn rfl _), rfl⟩ ok0) ak0)) ?_
      refine GoR.sliceLit rfl (by kernel_rfl) (t := 23) (e := 5) (n := 1) (ps := [(0, .int .u8 (IntKind.u8.wrap (iShr .u64 (IntKind.u64.wrap (all * 8)) (8 * z2))))]) (by kernel_rfl) (by kernel_rfl) (ti := Tryz.t5) (z := .int .u8 0) (by kernel_rfl) (by kernel_rfl) (by decide) (by decide) (cs := #[.int .u8 (IntKind.u8.wrap (iShr .u64 (IntKind.u64.wrap (all * 8)) (8 * z2)))]) (by kernel_rfl) hs38 ?_
      intro b40 w41 hs42 hz43
      have hs44 : St w0 ((Sl (some ⟨b40, 0, none⟩) 1 5 1 byteC ([(IntKind.u8.wrap (iShr .u64 (IntKind.u64.wrap (all * 8)) (8 * z2)) : Int)])) :: (Cel h4 (hashC g2.1 g2.2.1 (g2.2.2 : Nat) al2) 116) :: (Cel b1 #[.int .u8 0, .int .u8 0, .int .u8 0, .int .u8 0, .int .u8 0, .int .u8 0, .int .u8 0, .int .u8 0, .int .u8 0, .int .u8 0, .int .u8 0, .int .u8 0, .int .u8 0, .int .u8 0, .int .u8 0, .int .u8 0, .int .u8 0, .int .u8 0, .int .u8 0, .int .u8 0, .int .u8 0, .int .u8 0, .int .u8 0, .int .u8 0, .int .u8 0, .int .u8 0, .int .u8 0, .int .u8 0, .int .u8 0, .int .u8 0, .int .u8 0, .int .u8 0] 34) :: (Cel h (hashC s0 p0 (n0 : Nat) all) 116) :: L) w41 := St.slOf (l := [(IntKind.u8.wrap (iShr .u64 (IntKind.u64.wrap (all * 8)) (8 * z2)) : Int)]) (f := byteC) hs42 hz43 (byteF).size (by simp only [List.length_cons, List.length_nil, maxLen]; omega) (by kernel_rfl)
      refine ⟨(opn (by kernel_rfl)), ?_⟩
      have hs45 : St w0 ((Cel h4 (hashC g2.1 g2.2.1 (g2.2.2 : Nat) al2) 116) :: (Sl (some ⟨b40, 0, none⟩) 1 5 1 byteC ([(IntKind.u8.wrap (iShr .u64 (IntKind.u64.wrap (all * 8)) (8 * z2)) : Int)])) :: (Cel b1 #[.int .u8 0, .int .u8 0, .int .u8 0, .int .u8 0, .int .u8 0, .int .u8 0, .int .u8 0, .int .u8 0, .int .u8 0, .int .u8 0, .int .u8 0, .int .u8 0, .int .u8 0, .int .u8 0, .int .u8 0, .int .u8 0, .int .u8 0, .int .u8 0, .int .u8 0, .int .u8 0, .int .u8 0, .int .u8 0, .int .u8 0, .int .u8 0, .int .u8 0, .int .u8 0, .int .u8 0, .int .u8 0, .int .u8 0, .int .u8 0, .int .u8 0, .int .u8 0] 34) :: (Cel h (hashC s0 p0 (n0 : Nat) all) 116) :: L) w41 := (hs44.pull 1 rfl)
      refine GoR.call rfl rfl (by kernel_rfl) (f := 30) (args := #[.pointer (some ⟨h4, 0, none⟩), .slice (some ⟨b40, 0, none⟩) (([(IntKind.u8.wrap (iShr .u64 (IntKind.u64.wrap (all * 8)) (8 * z2)) : Int)]).length) 1]) (by kernel_rfl) Tryz.call30 (write_spec g2.1 g2.2.1 g2.2.2 al2 ([(IntKind.u8.wrap (iShr .u64 (IntKind.u64.wrap (all * 8)) (8 * z2)) : Int)]) (by first | exact hk0 | exact newH_ok | exact hpa.1 | exact hpb.2.2.1 | exact wrL_ok hk0 _ | exact wrL_ok newH_ok _ | exact wrL_ok hpa.1 _ | exact wrL_ok hpb.2.2.1 _) (Nat.le_refl _) (by first | omega | (exact Nat.le_of_ble_eq_true rfl)) (fun w h => hT w (h.drop 3)) (fun w h => h.rows 0 rfl (byteF).size _) hs45) ?_
      rintro v47 w48 ⟨rfl, hs46⟩
      refine ⟨(opn (by kernel_rfl)), ?_⟩
      refine GoR.done (GoQ.blkN (GoQ.thn ?_))
      refine GoC.regT [7, 7, 7] (.rd 0 (.rd 1 (.rd 2 .done))) (by kernel_rfl) (by kernel_rfl) ?_
      refine GoR.phaseK [(0, .gen []), (1, .as_ (.int .i64 (z2 - 1)) (.gen [])), (2, .gen [])] [5, 2, 3, 4] [(1, [.prop (Value.int .i64 (IntKind.i64.wrap (z2 - 1)) = Value.int .i64 (z2 - 1))])] [(5, .int .i64 (z2 - 1)), (2, .pointer (some ⟨b1, 0, none⟩)), (3, .pointer (some ⟨h4, 0, none⟩)), (4, .int .u64 (IntKind.u64.wrap (all * 8)))] (by kernel_rfl) rfl (ak (okp (i64ok (by omega) (by omega)) ok0) ak0) ?_
      refine GoR.done ?_
      have hs49 : St w0 ((Sl (some ⟨b40, 0, none⟩) 1 5 1 byteC ([(IntKind.u8.wrap (iShr .u64 (IntKind.u64.wrap (all * 8)) (8 * z2)) : Int)])) :: (Cel h4 (hashC ((wrL (g2.1, g2.2.1, g2.2.2) ([(IntKind.u8.wrap (iShr .u64 (IntKind.u64.wrap (all * 8)) (8 * z2)) : Int)])).1) ((wrL (g2.1, g2.2.1, g2.2.2) ([(IntKind.u8.wrap (iShr .u64 (IntKind.u64.wrap (all * 8)) (8 * z2)) : Int)])).2.1) ((wrL (g2.1, g2.2.1, g2.2.2) ([(IntKind.u8.wrap (iShr .u64 (IntKind.u64.wrap (all * 8)) (8 * z2)) : Int)])).2.2 : Nat) (IntKind.u64.wrap (al2 + (IntKind.u64.wrap (([(IntKind.u8.wrap (iShr .u64 (IntKind.u64.wrap (all * 8)) (8 * z2)) : Int)]).length : Nat))))) 116) :: (Cel b1 #[.int .u8 0, .int .u8 0, .int .u8 0, .int .u8 0, .int .u8 0, .int .u8 0, .int .u8 0, .int .u8 0, .int .u8 0, .int .u8 0, .int .u8 0, .int .u8 0, .int .u8 0, .int .u8 0, .int .u8 0, .int .u8 0, .int .u8 0, .int .u8 0, .int .u8 0, .int .u8 0, .int .u8 0, .int .u8 0, .int .u8 0, .int .u8 0, .int .u8 0, .int .u8 0, .int .u8 0, .int .u8 0, .int .u8 0, .int .u8 0, .int .u8 0, .int .u8 0] 34) :: (Cel h (hashC s0 p0 (n0 : Nat) all) 116) :: L) w48 := ((((hs46.pull 3 rfl).pull 3 rfl).pull 2 rfl).pull 3 rfl)
      have hs50 : St w0 ((Cel h4 (hashC ((wrL (g2.1, g2.2.1, g2.2.2) ([(IntKind.u8.wrap (iShr .u64 (IntKind.u64.wrap (all * 8)) (8 * z2)) : Int)])).1) ((wrL (g2.1, g2.2.1, g2.2.2) ([(IntKind.u8.wrap (iShr .u64 (IntKind.u64.wrap (all * 8)) (8 * z2)) : Int)])).2.1) ((wrL (g2.1, g2.2.1, g2.2.2) ([(IntKind.u8.wrap (iShr .u64 (IntKind.u64.wrap (all * 8)) (8 * z2)) : Int)])).2.2 : Nat) (IntKind.u64.wrap (al2 + (IntKind.u64.wrap (([(IntKind.u8.wrap (iShr .u64 (IntKind.u64.wrap (all * 8)) (8 * z2)) : Int)]).length : Nat))))) 116) :: (Cel b1 #[.int .u8 0, .int .u8 0, .int .u8 0, .int .u8 0, .int .u8 0, .int .u8 0, .int .u8 0, .int .u8 0, .int .u8 0, .int .u8 0, .int .u8 0, .int .u8 0, .int .u8 0, .int .u8 0, .int .u8 0, .int .u8 0, .int .u8 0, .int .u8 0, .int .u8 0, .int .u8 0, .int .u8 0, .int .u8 0, .int .u8 0, .int .u8 0, .int .u8 0, .int .u8 0, .int .u8 0, .int .u8 0, .int .u8 0, .int .u8 0, .int .u8 0, .int .u8 0] 34) :: (Cel h (hashC s0 p0 (n0 : Nat) all) 116) :: L) w48 := hs49.drop 1
      exact GoQ.back (y2 + 1, z2 - 1, (wrL (g2.1, g2.2.1, g2.2.2) ([(IntKind.u8.wrap (iShr .u64 (IntKind.u64.wrap (all * 8)) (8 * z2)) : Int)])), IntKind.u64.wrap (al2 + (IntKind.u64.wrap (([(IntKind.u8.wrap (iShr .u64 (IntKind.u64.wrap (all * 8)) (8 * z2)) : Int)]).length : Nat)))) [2, 3, 4, 5] (by kernel_rfl) (by show 8 - (y2 + 1) < 8 - y2; omega) ⟨⟨by first | omega | (simp only; omega), by first | omega | (simp only; omega), wrL_ok hpb.2.2.1 _, by show wrL g2 _ = lenR _ (y2 + 1) _; rw [lenR_succ, ← hpb.2.2.2, lenB, ← hpb.2.1]⟩, hs50⟩
    · have h39' : ¬ ((z2 : Int) ≥ 0) := of_decide_eq_false h39
      refine GoC.exit (GoQ.skipC (GoQ.skipL (GoQ.hit (GoQ.thn (GoC.seq (GoC.seq ?_))))))
      refine GoC.regT [31, 31, 31, 31, 31] (.rd 0 (.rd 1 (.rd 2 (.rd 3 (.rd 4 .done))))) (by kernel_rfl) (by kernel_rfl) ?_
      refine GoR.phaseK [(0, .gen []), (1, .gen []), (2, .gen []), (3, .agg (arrCells w32C g2.1)), (4, .gen [])] [48, 47, 2] [(3, [.prop (Array.size ((arrCells w32C g2.1)) = 8), .cells ⟨h4, 0, none⟩ (arrCells w32C g2.1)])] [(48, .int .i64 0), (47, .agg (arrCells w32C g2.1)), (2, .pointer (some ⟨b1, 0, none⟩))] (by kernel_rfl) rfl (ak (okp (arrvSize w32F (show (g2.1).length = 8 from (show g2.1.length = 8 from hpb.2.2.1.s)) rfl) (oka (hs38.cells 0 0 rfl (hash_s (show g2.1.length = 8 from hpb.2.2.1.s) (show g2.2.1.length = 64 from hpb.2.2.1.part))) ok0)) ak0) ?_
      refine GoR.done (GoQ.thn (GoC.block ?_))
      have hs51 : St w0 ((Cel h4 (hashC g2.1 g2.2.1 (g2.2.2 : Nat) al2) 116) :: (Cel b1 (arrCells byteC (List.replicate 32 0)) 34) :: (Cel h (hashC s0 p0 (n0 : Nat) all) 116) :: L) w36 := Eq.mp (by kernel_rfl) hs38
      have hs8 : g2.1.length = 8 := hpb.2.2.1.s
      have hs52 : St w0 ((Cel b1 (arrCells byteC (List.replicate 32 0)) 34) :: (Cel h (hashC s0 p0 (n0 : Nat) all) 116) :: L) w36 := hs51.drop 1
      refine GoC.loop (T := Nat × (List Int)) (fun gg => [(2, .pointer (some ⟨b1, 0, none⟩)), (47, .agg (arrCells w32C g2.1)), (48, .int .i64 (gg.1 : Nat))]) (fun gg w => (gg.1 ≤ 8 ∧ gg.2 = outR g2.1 gg.1 ∧ gg.2.length = 32) ∧ St w0 ((Cel b1 (arrCells byteC gg.2) 34) :: (Cel h (hashC s0 p0 (n0 : Nat) all) 116) :: L) w) (fun gg => 8 - gg.1) (0, (List.replicate 32 0)) [2, 47, 48] (by kernel_rfl) ⟨⟨Nat.zero_le _, rfl, rfl⟩, hs52⟩ ?_
      rintro ⟨k3, ol⟩ w53 ⟨hpc0, hs54⟩
      have hpc : k3 ≤ 8 ∧ ol = outR g2.1 k3 ∧ ol.length = 32 := hpc0
      have hs55 : St w0 ((Cel b1 (arrCells byteC ol) 34) :: (Cel h (hashC s0 p0 (n0 : Nat) all) 116) :: L) w53 := hs54
      refine GoC.slots (S' := [(2, .pointer (some ⟨b1, 0, none⟩)), (47, .agg (arrCells w32C g2.1)), (48, .int .i64 (k3 : Nat))]) rfl ?_
      refine GoC.seq ?_
      refine GoC.regT [1] (.rd 0 .done) (by kernel_rfl) (by kernel_rfl) ?_
      refine GoR.phaseK [(0, .gen [])] [49, 2, 47, 48] [] [(49, .bool (decide (((k3 : Nat) : Int) < 8))), (2, .pointer (some ⟨b1, 0, none⟩)), (47, .agg (arrCells w32C g2.1)), (48, .int .i64 (k3 : Nat))] (by kernel_rfl) rfl ak0 ?_
      refine GoR.done (GoQ.thn (GoC.seq ?_))
      refine GoC.cond (t := decide (((k3 : Nat) : Int) < 8)) (by kernel_rfl) (fun h56 => ?_) (fun h56 => ?_)
      · have h56' : ((k3 : Nat) : Int) < 8 := of_decide_eq_true h56
        refine GoC.skip (GoQ.thn (GoC.seq (GoC.block (GoC.seq ?_))))
        refine GoC.regT [15, 15, 15, 15] (.rd 0 (.rd 1 (.rd 2 (.rd 3 .done)))) (by kernel_rfl) (by kernel_rfl) ?_
        refine GoR.phaseK [(0, .gen []), (1, .elem (.int .u32 (g2.1.getD k3 0))), (2, .gen []), (3, .gen [])] [7, 6, 2, 47, 48] [(1, [.prop (0 ≤ ((k3 : Nat) : Int) ∧ ((k3 : Nat) : Int) < (8 : Int)), .prop ((arrCells w32C g2.1)[Int.toNat ((k3 : Nat)) * 1]? = some (.int .u32 (g2.1.getD k3 0)))])] [(7, .int .u32 (g2.1.getD k3 0)), (6, .int .i64 (k3 : Nat)), (2, .pointer (some ⟨b1, 0, none⟩)), (47, .agg (arrCells w32C g2.1)), (48, .int .i64 (k3 : Nat))] (by kernel_rfl) rfl (ak (okp (by omega) (okp (elemArr (d := (0 : Int)) (k := k3) w32F (by omega) (by first | omega | (simp only [wordsL_length, List.length_cons, List.length_nil]; omega)) (by kernel_rfl)) ok0)) ak0) ?_
        refine GoR.done (GoQ.thn ?_)
        refine GoC.regT [65535, 65535, 65535, 65535, 65535, 65535, 65535, 65535, 65535, 65535, 65535, 65535, 65535, 65535, 65535, 65535] (.rd 0 (.rd 1 (.rd 2 (.rd 3 (.rd 4 (.rd 5 (.rd 6 (.rd 7 (.rd 8 (.rd 9 (.rd 10 (.rd 11 (.rd 12 (.rd 13 (.ef 14 (.ef 15 .done)))))))))))))))) (by kernel_rfl) (by kernel_rfl) ?_
        refine GoR.phaseK [(0, .gen []), (1, .as_ (.int .i64 (4 * (k3 : Nat))) (.gen [])), (2, .as_ (.slice (some ⟨b1, 0 + ((4 * k3) * 1), none⟩) (32 - (4 * k3)) (32 - (4 * k3))) (.sub (4 * k3) 32)), (3, .gen []), (4, .shift (iShr .u32 (g2.1.getD k3 0) 24)), (5, .gen []), (6, .gen []), (7, .shift (iShr .u32 (g2.1.getD k3 0) 16)), (8, .gen []), (9, .gen []), (10, .shift (iShr .u32 (g2.1.getD k3 0) 8)), (11, .gen []), (12, .gen []), (13, .gen [])] [65, 63, 60, 57, 54, 2, 47, 48] [(1, [.prop (Value.int .i64 (IntKind.i64.wrap (4 * (k3 : Nat))) = Value.int .i64 (4 * (k3 : Nat)))]), (2, [.prop ((4 * (k3 : Nat) : Int) = ((4 * k3 : Nat) : Int)), .prop (((some (Operand.tmp 53)) = none → (4 * k3 : Nat) = 0) ∧ (((none : Option Operand)) = none → (32 : Nat) = 32) ∧ (4 * k3 : Nat) ≤ 32 ∧ (32 : Nat) ≤ 32), .prop (Value.slice (some (if 32 = 4 * k3 then Addr.mk b1 0 none else (Addr.mk b1 0 none).add ((4 * k3) * 1))) (32 - (4 * k3)) (32 - (4 * k3)) = Value.slice (some ⟨b1, 0 + ((4 * k3) * 1), none⟩) (32 - (4 * k3)) (32 - (4 * k3)))]), (4, [.prop ((0 : Int) ≤ 24 ∧ Int.fdiv (g2.1.getD k3 0) (2 ^ (min (Int.toNat 24) (IntKind.bits .u32))) = iShr .u32 (g2.1.getD k3 0) 24)]), (7, [.prop ((0 : Int) ≤ 16 ∧ Int.fdiv (g2.1.getD k3 0) (2 ^ (min (Int.toNat 16) (IntKind.bits .u32))) = iShr .u32 (g2.1.getD k3 0) 16)]), (10, [.prop ((0 : Int) ≤ 8 ∧ Int.fdiv (g2.1.getD k3 0) (2 ^ (min (Int.toNat 8) (IntKind.bits .u32))) = iShr .u32 (g2.1.getD k3 0) 8)])] [(65, .int .u8 (IntKind.u8.wrap (g2.1.getD k3 0))), (63, .int .u8 (IntKind.u8.wrap (iShr .u32 (g2.1.getD k3 0) 8))), (60, .int .u8 (IntKind.u8.wrap (iShr .u32 (g2.1.getD k3 0) 16))), (57, .int .u8 (IntKind.u8.wrap (iShr .u32 (g2.1.getD k3 0) 24))), (54, .slice (some ⟨b1, 0 + ((4 * k3) * 1), none⟩) (32 - (4 * k3)) (32 - (4 * k3))), (2, .pointer (some ⟨b1, 0, none⟩)), (47, .agg (arrCells w32C g2.1)), (48, .int .i64 (k3 : Nat))] (by kernel_rfl) rfl (ak (okp (i64ok (by omega) (by omega)) ok0) (ak (okp (by omega) (okp ⟨(by first | (intro _; rfl) | (intro hc; cases hc)), (by first | (intro _; rfl) | (intro hc; cases hc)), (by omega), (by omega)⟩ (okp (subArrL (by omega) (by omega)) ok0))) (ak (okp ⟨(by first | omega | exact uwrap_nn rfl _), rfl⟩ ok0) (ak (okp ⟨(by first | omega | exact uwrap_nn rfl _), rfl⟩ ok0) (ak (okp ⟨(by first | omega | exact uwrap_nn rfl _), rfl⟩ ok0) ak0))))) ?_
        refine GoR.sliceLit rfl (by kernel_rfl) (t := 23) (e := 5) (n := 4) (ps := [(0, .int .u8 (IntKind.u8.wrap (iShr .u32 (g2.1.getD k3 0) 24))), (1, .int .u8 (IntKind.u8.wrap (iShr .u32 (g2.1.getD k3 0) 16))), (2, .int .u8 (IntKind.u8.wrap (iShr .u32 (g2.1.getD k3 0) 8))), (3, .int .u8 (IntKind.u8.wrap (g2.1.getD k3 0)))]) (by kernel_rfl) (by kernel_rfl) (ti := Tryz.t5) (z := .int .u8 0) (by kernel_rfl) (by kernel_rfl) (by decide) (by decide) (cs := #[.int .u8 (IntKind.u8.wrap (iShr .u32 (g2.1.getD k3 0) 24)), .int .u8 (IntKind.u8.wrap (iShr .u32 (g2.1.getD k3 0) 16)), .int .u8 (IntKind.u8.wrap (iShr .u32 (g2.1.getD k3 0) 8)), .int .u8 (IntKind.u8.wrap (g2.1.getD k3 0))]) (by kernel_rfl) hs55 ?_
        intro b57 w58 hs59 hz60
        have hs61 : St w0 ((Sl (some ⟨b57, 0, none⟩) 4 5 1 byteC ([(IntKind.u8.wrap (iShr .u32 (g2.1.getD k3 0) 24) : Int), (IntKind.u8.wrap (iShr .u32 (g2.1.getD k3 0) 16) : Int), (IntKind.u8.wrap (iShr .u32 (g2.1.getD k3 0) 8) : Int), (IntKind.u8.wrap (g2.1.getD k3 0) : Int)])) :: (Cel b1 (arrCells byteC ol) 34) :: (Cel h (hashC s0 p0 (n0 : Nat) all) 116) :: L) w58 := St.slOf (l := [(IntKind.u8.wrap (iShr .u32 (g2.1.getD k3 0) 24) : Int), (IntKind.u8.wrap (iShr .u32 (g2.1.getD k3 0) 16) : Int), (IntKind.u8.wrap (iShr .u32 (g2.1.getD k3 0) 8) : Int), (IntKind.u8.wrap (g2.1.getD k3 0) : Int)]) (f := byteC) hs59 hz60 (byteF).size (by simp only [List.length_cons, List.length_nil, maxLen]; omega) (by kernel_rfl)
        refine ⟨(opn (by kernel_rfl)), ?_⟩
        have hs64 : St w0 ((Cel b1 (arrCells byteC ol) 34) :: (Sl (some ⟨b57, 0, none⟩) 4 5 1 byteC ([(IntKind.u8.wrap (iShr .u32 (g2.1.getD k3 0) 24) : Int), (IntKind.u8.wrap (iShr .u32 (g2.1.getD k3 0) 16) : Int), (IntKind.u8.wrap (iShr .u32 (g2.1.getD k3 0) 8) : Int), (IntKind.u8.wrap (g2.1.getD k3 0) : Int)])) :: (Cel h (hashC s0 p0 (n0 : Nat) all) 116) :: L) w58 := (hs61.pull 1 rfl)
        refine GoR.copy rfl (by kernel_rfl) bytesOK byteF (b := b1) (off := 0 + ((4 * k3) * 1)) (dLen := 32 - (4 * k3)) (dCap := (32 - (4 * k3))) (ys := [(IntKind.u8.wrap (iShr .u32 (g2.1.getD k3 0) 24) : Int), (IntKind.u8.wrap (iShr .u32 (g2.1.getD k3 0) 16) : Int), (IntKind.u8.wrap (iShr .u32 (g2.1.getD k3 0) 8) : Int), (IntKind.u8.wrap (g2.1.getD k3 0) : Int)]) (adx := some ⟨b57, 0, none⟩) (cx := 4) (0 : Int) (by kernel_rfl) hs64 (hs64.rows 1 rfl (byteF).size (0 : Int)) (by rw [arr_size byteF.size, Nat.zero_add, Nat.mul_one, Nat.mul_one, Nat.mul_one]; simp only [List.length_cons, List.length_nil]; omega) (cs' := arrCells byteC (overL ol (4 * k3) (([(IntKind.u8.wrap (iShr .u32 (g2.1.getD k3 0) 24) : Int), (IntKind.u8.wrap (iShr .u32 (g2.1.getD k3 0) 16) : Int), (IntKind.u8.wrap (iShr .u32 (g2.1.getD k3 0) 8) : Int), (IntKind.u8.wrap (g2.1.getD k3 0) : Int)]).take (min ([(IntKind.u8.wrap (iShr .u32 (g2.1.getD k3 0) 24) : Int), (IntKind.u8.wrap (iShr .u32 (g2.1.getD k3 0) 16) : Int), (IntKind.u8.wrap (iShr .u32 (g2.1.getD k3 0) 8) : Int), (IntKind.u8.wrap (g2.1.getD k3 0) : Int)]).length (32 - (4 * k3)))))) (by rw [Nat.zero_add, Nat.mul_one]; exact put_arr (by simp only [List.length_take, List.length_cons, List.length_nil]; omega)) ?_
        intro w65 hs66
        refine ⟨(opn (by kernel_rfl)), ?_⟩
        refine GoR.done (GoQ.blkN (GoQ.thn ?_))
        refine GoC.regT [3, 3] (.rd 0 (.rd 1 .done)) (by kernel_rfl) (by kernel_rfl) ?_
        refine GoR.phaseK [(0, .as_ (.int .i64 ((k3 : Nat) + 1)) (.gen [])), (1, .gen [])] [48, 2, 47] [(0, [.prop (Value.int .i64 (IntKind.i64.wrap ((k3 : Nat) + 1)) = Value.int .i64 ((k3 : Nat) + 1))])] [(48, .int .i64 ((k3 : Nat) + 1)), (2, .pointer (some ⟨b1, 0, none⟩)), (47, .agg (arrCells w32C g2.1))] (by kernel_rfl) rfl (ak (okp (i64ok (by omega) (by omega)) ok0) ak0) ?_
        refine GoR.done ?_
        have hs67 : St w0 ((Sl (some ⟨b57, 0, none⟩) 4 5 1 byteC ([(IntKind.u8.wrap (iShr .u32 (g2.1.getD k3 0) 24) : Int), (IntKind.u8.wrap (iShr .u32 (g2.1.getD k3 0) 16) : Int), (IntKind.u8.wrap (iShr .u32 (g2.1.getD k3 0) 8) : Int), (IntKind.u8.wrap (g2.1.getD k3 0) : Int)])) :: (Cel b1 (arrCells byteC (overL ol (4 * k3) (([(IntKind.u8.wrap (iShr .u32 (g2.1.getD k3 0) 24) : Int), (IntKind.u8.wrap (iShr .u32 (g2.1.getD k3 0) 16) : Int), (IntKind.u8.wrap (iShr .u32 (g2.1.getD k3 0) 8) : Int), (IntKind.u8.wrap (g2.1.getD k3 0) : Int)]).take (min ([(IntKind.u8.wrap (iShr .u32 (g2.1.getD k3 0) 24) : Int), (IntKind.u8.wrap (iShr .u32 (g2.1.getD k3 0) 16) : Int), (IntKind.u8.wrap (iShr .u32 (g2.1.getD k3 0) 8) : Int), (IntKind.u8.wrap (g2.1.getD k3 0) : Int)]).length (32 - (4 * k3)))))) 34) :: (Cel h (hashC s0 p0 (n0 : Nat) all) 116) :: L) w65 := (((hs66.pull 2 rfl).pull 1 rfl).pull 2 rfl)
        have hs68 : St w0 ((Cel b1 (arrCells byteC (overL ol (4 * k3) (([(IntKind.u8.wrap (iShr .u32 (g2.1.getD k3 0) 24) : Int), (IntKind.u8.wrap (iShr .u32 (g2.1.getD k3 0) 16) : Int), (IntKind.u8.wrap (iShr .u32 (g2.1.getD k3 0) 8) : Int), (IntKind.u8.wrap (g2.1.getD k3 0) : Int)]).take (min ([(IntKind.u8.wrap (iShr .u32 (g2.1.getD k3 0) 24) : Int), (IntKind.u8.wrap (iShr .u32 (g2.1.getD k3 0) 16) : Int), (IntKind.u8.wrap (iShr .u32 (g2.1.getD k3 0) 8) : Int), (IntKind.u8.wrap (g2.1.getD k3 0) : Int)]).length (32 - (4 * k3)))))) 34) :: (Cel h (hashC s0 p0 (n0 : Nat) all) 116) :: L) w65 := hs67.drop 1
        exact GoQ.back (k3 + 1, overL ol (4 * k3) (([(IntKind.u8.wrap (iShr .u32 (g2.1.getD k3 0) 24) : Int), (IntKind.u8.wrap (iShr .u32 (g2.1.getD k3 0) 16) : Int), (IntKind.u8.wrap (iShr .u32 (g2.1.getD k3 0) 8) : Int), (IntKind.u8.wrap (g2.1.getD k3 0) : Int)]).take (min ([(IntKind.u8.wrap (iShr .u32 (g2.1.getD k3 0) 24) : Int), (IntKind.u8.wrap (iShr .u32 (g2.1.getD k3 0) 16) : Int), (IntKind.u8.wrap (iShr .u32 (g2.1.getD k3 0) 8) : Int), (IntKind.u8.wrap (g2.1.getD k3 0) : Int)]).length (32 - (4 * k3))))) [2, 47, 48] (by kernel_rfl) (by show 8 - (k3 + 1) < 8 - k3; omega) ⟨⟨by omega, (by have h4 : min 4 (32 - 4 * k3) = 4 := (by omega); rw [outR_succ, ← hpc.2.1]; show overL ol (4 * k3) (List.take (min 4 (32 - 4 * k3)) (outW (g2.1.getD k3 0))) = overL ol (4 * k3) (outW (g2.1.getD k3 0)); rw [h4]; rfl), by rw [overL_len]; exact hpc.2.2; simp only [List.length_take, List.length_cons, List.length_nil]; omega⟩, hs68⟩
      · have h56' : ¬ (((k3 : Nat) : Int) < 8) := of_decide_eq_false h56
        refine GoC.exit (GoQ.skipC (GoQ.skipL (GoQ.hit (GoQ.thn (GoC.seq ?_)))))
        refine GoC.regT [3, 3] (.rd 0 (.ef 1 .done)) (by kernel_rfl) (by kernel_rfl) ?_
        refine GoR.phaseK [(0, .agg (arrCells byteC ol))] [69, 2] [(0, [.prop (Array.size ((arrCells byteC ol)) = 32), .cells ⟨b1, 0, none⟩ (arrCells byteC ol)])] [(69, .agg (arrCells byteC ol)), (2, .pointer (some ⟨b1, 0, none⟩))] (by kernel_rfl) rfl (ak (okp (arrvSize byteF (show (ol).length = 32 from (by first | assumption | omega)) rfl) (oka (hs55.cells 0 0 rfl (by simp)) ok0)) ak0) ?_
        refine GoR.store rfl rfl (by kernel_rfl) (b := b1) (off := 0) (v := .agg (arrCells byteC ol)) (by kernel_rfl) (by kernel_rfl) (ti := Tryz.t34) (by kernel_rfl) hs55 0 rfl (arrvCells byteF (show (ol).length = 32 from (by first | assumption | omega)) (by kernel_rfl)) (arrvOne byteF) (arrvRoom byteF (show (ol).length = 32 from (by first | assumption | omega)) (by rw [arrvSize byteF (show (ol).length = 32 from (by first | assumption | omega)) (m := 32) rfl]; rfl)) (cs' := arrCells byteC ol) (L' := (Cel b1 (arrCells byteC ol) 34) :: (Cel h (hashC s0 p0 (n0 : Nat) all) 116) :: L) (arrvPut byteF (show (ol).length = 32 from (by first | assumption | omega)) (by rw [arrvSize byteF (show (ol).length = 32 from (by first | assumption | omega)) (m := 32) rfl]; rfl)) rfl ?_
        intro w69 hs70
        refine ⟨(opn (by kernel_rfl)), ?_⟩
        refine GoR.done (GoQ.thn (GoC.ret ?_))
        refine GoQ.done (.inl rfl) (v := .agg (arrCells byteC ol)) (fun a hf => resultsA rfl (by kernel_rfl) (ti := Tryz.t34) (by kernel_rfl) (by kernel_rfl) (vs := (arrCells byteC ol)) (arrvSize byteF (show (ol).length = 32 from (by first | assumption | omega)) (by kernel_rfl)) (hs70.cells 0 0 rfl (by simp)) a hf) ?_
        have hs71 : St w0 ((Cel h (hashC s0 p0 (n0 : Nat) all) 116) :: L) w69 := hs70.drop 1
        exact ⟨(by rw [hpc.2.1, show k3 = 8 by omega, hpb.2.2.2, show y2 = 8 by omega]; rfl), hs71⟩
def digL (l : List Int) : List Int := sumL (wrL newH l) (IntKind.u64.wrap (0 + (IntKind.u64.wrap (l.length : Nat))))
theorem digL_length (l : List Int) : (digL l).length = 32 := outR_length _ 8 (Nat.le_refl _)
theorem shaSum_spec {w0 w : World} {L : List Asn} {ad : Option Addr} {c : Nat} (l : List Int) (hcap : l.length ≤ c) (hl : l.length ≤ 1000000000000) (hT : ∀ w, St w0 L w → TabR w) (hr : ∀ w, St w0 L w → RowsAt w ad l.length 1 (fun k => byteC (l.getD k (0 : Int)))) (hs : St w0 (L) w) : Calls Tryz.prog 21 #[.slice ad l.length c] w (Ret fun rv w' => rv = .agg (arrCells byteC (digL l)) ∧ St w0 (L) w') := by
  refine enter (args := [.slice ad l.length c]) Tryz.func21 rfl Tryz.ntmps21 (Nat.le_of_ble_eq_true (by kernel_rfl)) ?_
  refine GoC.slots (S' := [(0, .slice ad l.length c)]) rfl ?_
  refine GoC.seq ?_
  refine GoC.regT [1] (.ef 0 .done) (by kernel_rfl) (by kernel_rfl) ?_
  refine GoR.alloc rfl rfl (by kernel_rfl) (z := .agg #[.int .u8 0, .int .u8 0, .int .u8 0, .int .u8 0, .int .u8 0, .int .u8 0, .int .u8 0, .int .u8 0, .int .u8 0, .int .u8 0, .int .u8 0, .int .u8 0, .int .u8 0, .int .u8 0, .int .u8 0, .int .u8 0, .int .u8 0, .int .u8 0, .int .u8 0, .int .u8 0, .int .u8 0, .int .u8 0, .int .u8 0, .int .u8 0, .int .u8 0, .int .u8 0, .int .u8 0, .int .u8 0, .int .u8 0, .int .u8 0, .int .u8 0, .int .u8 0]) (by kernel_rfl) hs (cs := #[.int .u8 0, .int .u8 0, .int .u8 0, .int .u8 0, .int .u8 0, .int .u8 0, .int .u8 0, .int .u8 0, .int .u8 0, .int .u8 0, .int .u8 0, .int .u8 0, .int .u8 0, .int .u8 0, .int .u8 0, .int .u8 0, .int .u8 0, .int .u8 0, .int .u8 0, .int .u8 0, .int .u8 0, .int .u8 0, .int .u8 0, .int .u8 0, .int .u8 0, .int .u8 0, .int .u8 0, .int .u8 0, .int .u8 0, .int .u8 0, .int .u8 0, .int .u8 0]) (by kernel_rfl) ?_
  intro b1 w2 hs3
  refine ⟨(opn (by kernel_rfl)), ?_⟩
  refine GoR.done (GoQ.thn (GoC.seq ?_))
  refine GoC.regT [3, 3] (.ef 0 (.rd 1 .done)) (by kernel_rfl) (by kernel_rfl) ?_
  refine GoR.call rfl rfl (by kernel_rfl) (f := 29) (args := #[]) (by kernel_rfl) Tryz.call29 (shaNew_spec hs3) ?_
  rintro v6 w7 ⟨h4, rfl, hs5⟩
  refine ⟨(opn (by kernel_rfl)), ?_⟩
  refine GoR.phaseK [(1, .gen [])] [3, 2, 0] [] [(3, .pointer (some ⟨h4, 0, none⟩)), (2, .pointer (some ⟨b1, 0, none⟩)), (0, .slice ad l.length c)] (by kernel_rfl) rfl ak0 ?_
  refine GoR.done (GoQ.thn (GoC.seq ?_))
  refine GoC.regT [7, 7, 7] (.rd 0 (.rd 1 (.ef 2 .done))) (by kernel_rfl) (by kernel_rfl) ?_
  refine GoR.phaseK [(0, .gen []), (1, .gen [])] [6, 5, 3, 2] [] [(6, .slice ad l.length c), (5, .pointer (some ⟨h4, 0, none⟩)), (3, .pointer (some ⟨h4, 0, none⟩)), (2, .pointer (some ⟨b1, 0, none⟩))] (by kernel_rfl) rfl ak0 ?_
  refine GoR.call rfl rfl (by kernel_rfl) (f := 30) (args := #[.pointer (some ⟨h4, 0, none⟩), .slice ad l.length c]) (by kernel_rfl) Tryz.call30 (write_spec startL (List.replicate 64 0) 0 0 l (by first | exact hk0 | exact newH_ok | exact hpa.1 | exact hpb.2.2.1 | exact wrL_ok hk0 _ | exact wrL_ok newH_ok _ | exact wrL_ok hpa.1 _ | exact wrL_ok hpb.2.2.1 _) (by first | assumption | omega) (by first | assumption | omega) (fun w h => hT w (h.drop 1)) (fun w h => hr _ (h.drop 1)) hs5) ?_
  rintro v9 w10 ⟨rfl, hs8⟩
  refine ⟨(opn (by kernel_rfl)), ?_⟩
  refine GoR.done (GoQ.thn (GoC.seq ?_))
  refine GoC.regT [7, 7, 7] (.rd 0 (.ef 1 (.ef 2 .done))) (by kernel_rfl) (by kernel_rfl) ?_
  refine GoR.phaseK [(0, .gen [])] [8, 2] [] [(8, .pointer (some ⟨h4, 0, none⟩)), (2, .pointer (some ⟨b1, 0, none⟩))] (by kernel_rfl) rfl ak0 ?_
  refine GoR.call rfl rfl (by kernel_rfl) (f := 31) (args := #[.pointer (some ⟨h4, 0, none⟩)]) (by kernel_rfl) Tryz.call31 (shaSumM_spec ((wrL (startL, (List.replicate 64 0), 0) l).1) ((wrL (startL, (List.replicate 64 0), 0) l).2.1) ((wrL (startL, (List.replicate 64 0), 0) l).2.2) (IntKind.u64.wrap (0 + (IntKind.u64.wrap (l.length : Nat)))) (by first | exact hk0 | exact newH_ok | exact hpa.1 | exact hpb.2.2.1 | exact wrL_ok hk0 _ | exact wrL_ok newH_ok _ | exact wrL_ok hpa.1 _ | exact wrL_ok hpb.2.2.1 _) (fun w h => hT w (h.drop 1)) hs8) ?_
  rintro v12 w13 ⟨rfl, hs11⟩
  refine ⟨(opn (by kernel_rfl)), ?_⟩
  refine GoR.store rfl rfl (by kernel_rfl) (b := b1) (off := 0) (v := .agg (arrCells byteC (sumL (((wrL (startL, (List.replicate 64 0), 0) l).1), ((wrL (startL, (List.replicate 64 0), 0) l).2.1), ((wrL (startL, (List.replicate 64 0), 0) l).2.2)) (IntKind.u64.wrap (0 + (IntKind.u64.wrap (l.length : Nat))))))) (by kernel_rfl) (by kernel_rfl) (ti := Tryz.t34) (by kernel_rfl) hs11 1 rfl (arrvCells byteF (show (sumL (((wrL (startL, (List.replicate 64 0), 0) l).1), ((wrL (startL, (List.replicate 64 0), 0) l).2.1), ((wrL (startL, (List.replicate 64 0), 0) l).2.2)) (IntKind.u64.wrap (0 + (IntKind.u64.wrap (l.length : Nat))))).length = 32 from (outR_length _ 8 (Nat.le_refl _))) (by kernel_rfl)) (arrvOne byteF) (arrvRoom byteF (show (sumL (((wrL (startL, (List.replicate 64 0), 0) l).1), ((wrL (startL, (List.replicate 64 0), 0) l).2.1), ((wrL (startL, (List.replicate 64 0), 0) l).2.2)) (IntKind.u64.wrap (0 + (IntKind.u64.wrap (l.length : Nat))))).length = 32 from (outR_length _ 8 (Nat.le_refl _))) (by kernel_rfl)) (cs' := arrCells byteC (sumL (((wrL (startL, (List.replicate 64 0), 0) l).1), ((wrL (startL, (List.replicate 64 0), 0) l).2.1), ((wrL (startL, (List.replicate 64 0), 0) l).2.2)) (IntKind.u64.wrap (0 + (IntKind.u64.wrap (l.length : Nat)))))) (L' := (Cel h4 (hashC ((wrL (startL, (List.replicate 64 0), 0) l).1) ((wrL (startL, (List.replicate 64 0), 0) l).2.1) (((wrL (startL, (List.replicate 64 0), 0) l).2.2) : Nat) (IntKind.u64.wrap (0 + (IntKind.u64.wrap (l.length : Nat))))) 116) :: (Cel b1 (arrCells byteC (sumL (((wrL (startL, (List.replicate 64 0), 0) l).1), ((wrL (startL, (List.replicate 64 0), 0) l).2.1), ((wrL (startL, (List.replicate 64 0), 0) l).2.2)) (IntKind.u64.wrap (0 + (IntKind.u64.wrap (l.length : Nat)))))) 34) :: L) (arrvPut byteF (show (sumL (((wrL (startL, (List.replicate 64 0), 0) l).1), ((wrL (startL, (List.replicate 64 0), 0) l).2.1), ((wrL (startL, (List.replicate 64 0), 0) l).2.2)) (IntKind.u64.wrap (0 + (IntKind.u64.wrap (l.length : Nat))))).length = 32 from (outR_length _ 8 (Nat.le_refl _))) (by kernel_rfl)) rfl ?_
  intro w14 hs15
  refine ⟨(opn (by kernel_rfl)), ?_⟩
  refine GoR.done (GoQ.thn (GoC.ret ?_))
  refine GoQ.done (.inl rfl) (v := .agg (arrCells byteC (sumL (((wrL (startL, (List.replicate 64 0), 0) l).1), ((wrL (startL, (List.replicate 64 0), 0) l).2.1), ((wrL (startL, (List.replicate 64 0), 0) l).2.2)) (IntKind.u64.wrap (0 + (IntKind.u64.wrap (l.length : Nat))))))) (fun a hf => resultsA rfl (by kernel_rfl) (ti := Tryz.t34) (by kernel_rfl) (by kernel_rfl) (vs := (arrCells byteC (sumL (((wrL (startL, (List.replicate 64 0), 0) l).1), ((wrL (startL, (List.replicate 64 0), 0) l).2.1), ((wrL (startL, (List.replicate 64 0), 0) l).2.2)) (IntKind.u64.wrap (0 + (IntKind.u64.wrap (l.length : Nat))))))) (arrvSize byteF (show (sumL (((wrL (startL, (List.replicate 64 0), 0) l).1), ((wrL (startL, (List.replicate 64 0), 0) l).2.1), ((wrL (startL, (List.replicate 64 0), 0) l).2.2)) (IntKind.u64.wrap (0 + (IntKind.u64.wrap (l.length : Nat))))).length = 32 from (outR_length _ 8 (Nat.le_refl _))) (by kernel_rfl)) (hs15.cells 1 0 rfl (by simp)) a hf) ?_
  have hs16 : St w0 (L) w14 := hs15.drop 2
  exact ⟨rfl, hs16⟩
end Go.Proofs.YtkiaagddmlddpaaGreatDoor
