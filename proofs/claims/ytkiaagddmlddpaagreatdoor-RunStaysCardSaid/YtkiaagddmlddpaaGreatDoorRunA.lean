/-
  Digests, names and what is told, as values; requests held against each other. Conditions: none.
-/
import Derived.Test.YtkiaagddmlddpaaGreatDoorProg
import Derived.Test.YtkiaagddmlddpaaGreatDoorSesE
import Derived.Test.YtkiaagddmlddpaaGreatDoorShaT
namespace Go.Proofs.YtkiaagddmlddpaaGreatDoor
open Go.RowKit Go.Sx
set_option linter.unusedVariables false
set_option linter.unusedSimpArgs false
set_option linter.unnecessarySimpa false
set_option maxRecDepth 100000
abbrev D32 := Vector Int 32
def D32.cells (v : D32) : Array Value := #[.int .u8 v[0], .int .u8 v[1], .int .u8 v[2], .int .u8 v[3], .int .u8 v[4], .int .u8 v[5], .int .u8 v[6], .int .u8 v[7], .int .u8 v[8], .int .u8 v[9], .int .u8 v[10], .int .u8 v[11], .int .u8 v[12], .int .u8 v[13], .int .u8 v[14], .int .u8 v[15], .int .u8 v[16], .int .u8 v[17], .int .u8 v[18], .int .u8 v[19], .int .u8 v[20], .int .u8 v[21], .int .u8 v[22], .int .u8 v[23], .int .u8 v[24], .int .u8 v[25], .int .u8 v[26], .int .u8 v[27], .int .u8 v[28], .int .u8 v[29], .int .u8 v[30], .int .u8 v[31]]
theorem d32F : CellF D32.cells 32 := ⟨fun _ => rfl, fun _ => rfl⟩
theorem d32sOK : ElemOK Tryz.prog 58 34 32 32 := ⟨by kernel_rfl, ⟨Tryz.t34, .agg #[.int .u8 0, .int .u8 0, .int .u8 0, .int .u8 0, .int .u8 0, .int .u8 0, .int .u8 0, .int .u8 0, .int .u8 0, .int .u8 0, .int .u8 0, .int .u8 0, .int .u8 0, .int .u8 0, .int .u8 0, .int .u8 0, .int .u8 0, .int .u8 0, .int .u8 0, .int .u8 0, .int .u8 0, .int .u8 0, .int .u8 0, .int .u8 0, .int .u8 0, .int .u8 0, .int .u8 0, .int .u8 0, .int .u8 0, .int .u8 0, .int .u8 0, .int .u8 0], by kernel_rfl, by kernel_rfl, by kernel_rfl, by kernel_rfl, by kernel_rfl⟩, by decide⟩
abbrev dD32 : D32 := #v[0, 0, 0, 0, 0, 0, 0, 0, 0, 0, 0, 0, 0, 0, 0, 0, 0, 0, 0, 0, 0, 0, 0, 0, 0, 0, 0, 0, 0, 0, 0, 0]
theorem d32_eq (v : D32) : D32.cells v = v.toArray.map (Value.int .u8) := by
  apply Array.ext
  · rw [Array.size_map, v.size_toArray]; rfl
  · intro i h1 h2
    rw [Array.getElem_map]
    have h : i < 32 := h1
    match i, h with
    | 0, _ => rfl
    | 1, _ => rfl
    | 2, _ => rfl
    | 3, _ => rfl
    | 4, _ => rfl
    | 5, _ => rfl
    | 6, _ => rfl
    | 7, _ => rfl
    | 8, _ => rfl
    | 9, _ => rfl
    | 10, _ => rfl
    | 11, _ => rfl
    | 12, _ => rfl
    | 13, _ => rfl
    | 14, _ => rfl
    | 15, _ => rfl
    | 16, _ => rfl
    | 17, _ => rfl
    | 18, _ => rfl
    | 19, _ => rfl
    | 20, _ => rfl
    | 21, _ => rfl
    | 22, _ => rfl
    | 23, _ => rfl
    | 24, _ => rfl
    | 25, _ => rfl
    | 26, _ => rfl
    | 27, _ => rfl
    | 28, _ => rfl
    | 29, _ => rfl
    | 30, _ => rfl
    | 31, _ => rfl
    | n + 32, h => omega
/-- sha's digest, as a row of 32. -/
def digV (l : List Int) : D32 := ⟨(digL l).toArray, by rw [List.size_toArray]; exact digL_length l⟩
theorem digC (l : List Int) : arrCells byteC (digL l) = D32.cells (digV l) := by
  rw [d32_eq, byte_flat]
  apply Array.ext'
  simp [digV]
def tagE (a b : D32) : Bool := a[0] == b[0] && (a[1] == b[1] && (a[2] == b[2] && (a[3] == b[3] && (a[4] == b[4] && (a[5] == b[5] && (a[6] == b[6] && (a[7] == b[7] && (a[8] == b[8] && (a[9] == b[9] && (a[10] == b[10] && (a[11] == b[11] && (a[12] == b[12] && (a[13] == b[13] && (a[14] == b[14] && (a[15] == b[15] && (a[16] == b[16] && (a[17] == b[17] && (a[18] == b[18] && (a[19] == b[19] && (a[20] == b[20] && (a[21] == b[21] && (a[22] == b[22] && (a[23] == b[23] && (a[24] == b[24] && (a[25] == b[25] && (a[26] == b[26] && (a[27] == b[27] && (a[28] == b[28] && (a[29] == b[29] && (a[30] == b[30] && (a[31] == b[31] && true)))))))))))))))))))))))))))))))
theorem tagE_eq (a b : D32) : tagE a b = decide (a = b) := by
  by_cases h : a = b
  · subst h; simp [tagE]
  · rw [decide_eq_false h]
    cases ht : tagE a b with
    | false => rfl
    | true =>
      exfalso
      apply h
      simp only [tagE, Bool.and_eq_true, beq_iff_eq] at ht
      obtain ⟨h0, h1, h2, h3, h4, h5, h6, h7, h8, h9, h10, h11, h12, h13, h14, h15, h16, h17, h18, h19, h20, h21, h22, h23, h24, h25, h26, h27, h28, h29, h30, h31, -⟩ := ht
      apply Vector.ext
      intro i hi
      match i, hi with
      | 0, _ => exact h0
      | 1, _ => exact h1
      | 2, _ => exact h2
      | 3, _ => exact h3
      | 4, _ => exact h4
      | 5, _ => exact h5
      | 6, _ => exact h6
      | 7, _ => exact h7
      | 8, _ => exact h8
      | 9, _ => exact h9
      | 10, _ => exact h10
      | 11, _ => exact h11
      | 12, _ => exact h12
      | 13, _ => exact h13
      | 14, _ => exact h14
      | 15, _ => exact h15
      | 16, _ => exact h16
      | 17, _ => exact h17
      | 18, _ => exact h18
      | 19, _ => exact h19
      | 20, _ => exact h20
      | 21, _ => exact h21
      | 22, _ => exact h22
      | 23, _ => exact h23
      | 24, _ => exact h24
      | 25, _ => exact h25
      | 26, _ => exact h26
      | 27, _ => exact h27
      | 28, _ => exact h28
      | 29, _ => exact h29
      | 30, _ => exact h30
      | 31, _ => exact h31
      | n + 32, h => omega
theorem digEq (a b : D32) : eqFlat Tryz.prog 2 34 (.agg (D32.cells a)) (.agg (D32.cells b)) = decide (a = b) := by
  have h : eqFlat Tryz.prog 2 34 (.agg (D32.cells a)) (.agg (D32.cells b)) = tagE a b := by kernel_rfl
  rw [h, tagE_eq]
theorem reqEq (a b : ReqV) : eqFlat Tryz.prog 3 46 (.agg a.cells) (.agg b.cells) = decide (a = b) := by
  have h : eqFlat Tryz.prog 3 46 (.agg a.cells) (.agg b.cells) = (a.client == b.client && (a.time == b.time && (eqFlat Tryz.prog 2 44 (.agg a.op.cells) (.agg b.op.cells) && (tagE a.tag b.tag && true)))) := by kernel_rfl
  rw [h, opEq, tagE_eq, int_beq, int_beq, Bool.and_true]
  obtain ⟨a1, a2, a3, a4⟩ := a
  obtain ⟨b1, b2, b3, b4⟩ := b
  simp only [ReqV.mk.injEq, Bool.decide_and]
theorem reqsOK : ElemOK Tryz.prog 22 46 40 128 := ⟨by kernel_rfl, ⟨Tryz.t46, .agg dReq.cells, by kernel_rfl, by kernel_rfl, by kernel_rfl, by kernel_rfl, by kernel_rfl⟩, by decide⟩
structure NameV where
  cl : Int
  tm : Int
deriving DecidableEq
def NameV.cells (x : NameV) : Array Value := #[.int .i64 x.cl, .int .u64 x.tm]
structure TldV where
  client : Int
  time : Int
  reply : RepV
  at_ : Int
deriving DecidableEq
def TldV.cells (x : TldV) : Array Value := #[.int .i64 x.client, .int .u64 x.time, .int .i64 x.reply.err, .string x.reply.value, .int .u64 x.at_]
abbrev dTld : TldV := ⟨0, 0, ⟨0, ⟨#[]⟩⟩, 0⟩
theorem tldF : CellF TldV.cells 5 := ⟨fun _ => rfl, fun _ => rfl⟩
theorem tldsOK : ElemOK Tryz.prog 28 54 5 48 := ⟨by kernel_rfl, ⟨Tryz.t54, .agg dTld.cells, by kernel_rfl, by kernel_rfl, by kernel_rfl, by kernel_rfl, by kernel_rfl⟩, by decide⟩
abbrev ekN : NameV → Value := fun k => .agg (NameV.cells k)
abbrev evTd : TldV → Value := fun t => .agg (TldV.cells t)
theorem nameEq (a b : NameV) : eqFlat Tryz.prog 2 63 (.agg a.cells) (.agg b.cells) = decide (a = b) := by
  have h : eqFlat Tryz.prog 2 63 (.agg a.cells) (.agg b.cells) = (a.cl == b.cl && (a.tm == b.tm && true)) := by kernel_rfl
  rw [h, int_beq, int_beq, Bool.and_true]
  obtain ⟨a1, a2⟩ := a
  obtain ⟨b1, b2⟩ := b
  simp only [NameV.mk.injEq, Bool.decide_and]
theorem name_equal (a b : NameV) (w : World) : (Op.equal 63 (ekN a) (ekN b)).run Tryz.prog w = .ok (decide (a = b)) w := by
  have h := run_equalIn_flat (P := Tryz.prog) 2 63 (ekN a) (ekN b) 9998 w (by kernel_rfl)
  rw [nameEq] at h
  exact h
theorem nameLaw : MapLaw Tryz.prog 57 ekN evTd 63 54 :=
  MapLaw.ask (by kernel_rfl) (d := .struct (Tryz.prog.fieldsOf 63)) (by kernel_rfl) (fun a b => rfl) name_equal (fun a => by simp [Instr.sameBits, ekN, NameV.cells]) (fun em a w => rfl)
end Go.Proofs.YtkiaagddmlddpaaGreatDoor
