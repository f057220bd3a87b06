/-
  Package session: New, List.
-/
import Derived.Test.YtkiaagddmlddpaaGreatDoorProg
import Derived.Test.YtkiaagddmlddpaaGreatDoorSesB
import Derived.Test.YtkiaagddmlddpaaGreatDoorShelf
namespace Go.Proofs.YtkiaagddmlddpaaGreatDoor
open Go.RowKit Go.Sx
set_option linter.unusedVariables false
set_option linter.unusedSimpArgs false
set_option linter.unnecessarySimpa false
set_option maxRecDepth 100000
theorem sesNew_spec {w0 w : World} {L : List Asn} (hs : St w0 L w) : Calls Tryz.prog 20 #[] w (Ret fun rv w' => ∃ p : Nat, rv = .pointer (some ⟨p, 0, none⟩) ∧ St w0 ((Cel p (arrCells LastV.cells (List.replicate 8 dLast)) 90) :: L) w') := by
  refine enter (args := []) Tryz.func20 rfl Tryz.ntmps20 (Nat.le_of_ble_eq_true (by kernel_rfl)) ?_
  refine GoC.slots (S' := []) rfl ?_
  refine GoC.seq ?_
  refine GoC.regT [1] (.rd 0 .done) (by kernel_rfl) (by kernel_rfl) ?_
  refine GoR.phaseK [(0, .gen [])] [0] [] [(0, .pointer none)] (by kernel_rfl) rfl ak0 ?_
  refine GoR.done (GoQ.thn (GoC.seq ?_))
  refine GoC.regT [7, 7, 7] (.rd 0 (.ef 1 (.rd 2 .done))) (by kernel_rfl) (by kernel_rfl) ?_
  refine GoR.phaseK [(0, .gen [])] [1, 0] [] [(1, .agg #[.int .u64 0, .int .i64 0, .string (⟨#[]⟩ : ByteArray), .int .u64 0, .int .i64 0, .string (⟨#[]⟩ : ByteArray), .int .u64 0, .int .i64 0, .string (⟨#[]⟩ : ByteArray), .int .u64 0, .int .i64 0, .string (⟨#[]⟩ : ByteArray), .int .u64 0, .int .i64 0, .string (⟨#[]⟩ : ByteArray), .int .u64 0, .int .i64 0, .string (⟨#[]⟩ : ByteArray), .int .u64 0, .int .i64 0, .string (⟨#[]⟩ : ByteArray), .int .u64 0, .int .i64 0, .string (⟨#[]⟩ : ByteArray)]), (0, .pointer none)] (by kernel_rfl) rfl ak0 ?_
  refine GoR.box rfl rfl (by kernel_rfl) (v := .agg #[.int .u64 0, .int .i64 0, .string (⟨#[]⟩ : ByteArray), .int .u64 0, .int .i64 0, .string (⟨#[]⟩ : ByteArray), .int .u64 0, .int .i64 0, .string (⟨#[]⟩ : ByteArray), .int .u64 0, .int .i64 0, .string (⟨#[]⟩ : ByteArray), .int .u64 0, .int .i64 0, .string (⟨#[]⟩ : ByteArray), .int .u64 0, .int .i64 0, .string (⟨#[]⟩ : ByteArray), .int .u64 0, .int .i64 0, .string (⟨#[]⟩ : ByteArray), .int .u64 0, .int .i64 0, .string (⟨#[]⟩ : ByteArray)]) (by kernel_rfl) hs (cs := #[.int .u64 0, .int .i64 0, .string (⟨#[]⟩ : ByteArray), .int .u64 0, .int .i64 0, .string (⟨#[]⟩ : ByteArray), .int .u64 0, .int .i64 0, .string (⟨#[]⟩ : ByteArray), .int .u64 0, .int .i64 0, .string (⟨#[]⟩ : ByteArray), .int .u64 0, .int .i64 0, .string (⟨#[]⟩ : ByteArray), .int .u64 0, .int .i64 0, .string (⟨#[]⟩ : ByteArray), .int .u64 0, .int .i64 0, .string (⟨#[]⟩ : ByteArray), .int .u64 0, .int .i64 0, .string (⟨#[]⟩ : ByteArray)]) (by kernel_rfl) ?_
  intro b1 w2 hs3
  refine ⟨(opn (by kernel_rfl)), ?_⟩
  refine GoR.phaseK [(2, .gen [])] [0] [] [(0, .pointer (some ⟨b1, 0, none⟩))] (by kernel_rfl) rfl ak0 ?_
  refine GoR.done (GoQ.thn (GoC.ret ?_))
  refine GoQ.done (.inl rfl) (v := .pointer (some ⟨b1, 0, none⟩)) (fun a hf => results1 rfl (by kernel_rfl) a hf) ?_
  exact ⟨_, rfl, (show St w0 (Cel b1 (arrCells LastV.cells (List.replicate 8 dLast)) 90 :: L) _ from Eq.mp (by kernel_rfl) hs3)⟩
theorem clone_spec {w0 w : World} {L : List Asn} {p : Nat} (l : List LastV) (hl : l.length = 8) (hs : St w0 (Cel p (arrCells LastV.cells l) 90 :: L) w) : Calls Tryz.prog 43 #[.slice (some ⟨p, 0, none⟩) 8 8] w
    (Ret fun rv w' => ∃ (ad : Option Addr) (c : Nat), rv = .slice ad l.length c ∧ St w0 (Sl ad c 80 3 LastV.cells l :: Cel p (arrCells LastV.cells l) 90 :: L) w') := by
  obtain ⟨fr, hb, hfr⟩ := hs.holds _ (List.mem_cons_self ..)
  have hlen := flat_length (f := LastV.cells) (size := 3) (fun _ => rfl) l
  rw [hl] at hlen
  have h := Tryz.slices_Clone Tryz.t80 (.agg #[.int .u64 0, .int .i64 0, .string ⟨#[]⟩]) 3 32 (by kernel_rfl) (by kernel_rfl) (by kernel_rfl) (by kernel_rfl) (by kernel_rfl) (by decide) Tryz.sizeOf80 p 0 8 8 (l.flatMap fun x => (LastV.cells x).toList) w hlen (by decide) (by decide)
    (fun j u hj => by
      simp only [World.cell?, hb, Nat.zero_add]
      rw [arrCells, List.getElem?_toArray]
      exact hj)
    (fun u hu => by
      obtain ⟨y, _, hy⟩ := List.mem_flatMap.1 hu
      exact lastF.ones y u hy)
  refine h.mono ?_
  rintro e w' ⟨v', rfl, ho, hne, hbel⟩
  have hs2 := hs.below' hbel
  rcases ho.2 with ⟨h1, h2⟩ | ⟨g, cap, cur, hv, hg0, hg, hnc, hcm, hcs, htake⟩
  · omega
  · subst hv
    refine ⟨some ⟨g, 0, none⟩, cap, by rw [hl], ?_⟩
    refine ⟨hs2.os, hs2.tape, hs2.output, fun B hB => ?_, fun B hB b hb => ?_, List.pairwise_cons.2 ⟨fun B hB b hb hb' => ?_, hs2.apart⟩⟩
    · rcases List.mem_cons.1 hB with rfl | hB
      · show World.ownsRow _ 0 80 3 (.slice _ l.length cap) l.length _
        rw [hl]
        exact ⟨ho.1, .inr ⟨g, cap, cur, rfl, Nat.zero_le _, hg, hnc, hcm, hcs, htake⟩⟩
      · exact hs2.holds B hB
    · rcases List.mem_cons.1 hB with rfl | hB
      · have hb' : (some g : Option Nat) = some b := hb
        have := Option.some.inj hb'
        subst this
        exact (Array.getElem?_eq_some_iff.1 hg).1
      · exact hs2.lt B hB b hb
    · have hb2 : (some g : Option Nat) = some b := hb
      have := Option.some.inj hb2
      subst this
      have := hs.lt B hB g hb'
      omega
theorem sesList_spec {w0 w : World} {L : List Asn} {p : Nat} (l : List LastV) (hl : l.length = 8) (hs : St w0 ((Cel p (arrCells LastV.cells l) 90) :: L) w) : Calls Tryz.prog 27 #[.pointer (some ⟨p, 0, none⟩)] w (Ret fun rv w' => ∃ (ad : Option Addr) (c : Nat), rv = .slice ad l.length c ∧ St w0 (Sl ad c 80 3 LastV.cells l :: (Cel p (arrCells LastV.cells l) 90) :: L) w') := by
  refine enter (args := [.pointer (some ⟨p, 0, none⟩)]) Tryz.func27 rfl Tryz.ntmps27 (Nat.le_of_ble_eq_true (by kernel_rfl)) ?_
  refine GoC.slots (S' := [(0, .pointer (some ⟨p, 0, none⟩))]) rfl ?_
  refine GoC.seq ?_
  refine GoC.regT [1] (.rd 0 .done) (by kernel_rfl) (by kernel_rfl) ?_
  refine GoR.phaseK [(0, .gen [])] [2, 0] [] [(2, .slice none 0 0), (0, .pointer (some ⟨p, 0, none⟩))] (by kernel_rfl) rfl ak0 ?_
  refine GoR.done (GoQ.thn (GoC.seq (GoC.seq ?_)))
  refine GoC.regT [3, 3] (.rd 0 (.rd 1 .done)) (by kernel_rfl) (by kernel_rfl) ?_
  refine GoR.phaseK [(0, .gen []), (1, .gen [])] [4, 2, 0] [] [(4, .bool false), (2, .slice none 0 0), (0, .pointer (some ⟨p, 0, none⟩))] (by kernel_rfl) rfl ak0 ?_
  refine GoR.done (GoQ.thn (GoC.condF (by kernel_rfl) (GoC.skip (GoQ.thn (GoC.seq ?_)))))
  refine GoC.regT [63, 63, 63, 63, 63, 63] (.rd 0 (.rd 1 (.rd 2 (.rd 3 (.ef 4 (.rd 5 .done)))))) (by kernel_rfl) (by kernel_rfl) ?_
  refine GoR.phaseK [(0, .gen []), (1, .gen []), (2, .gen []), (3, .as_ (.slice (some ⟨p, 0, none⟩) 8 8) (.sub 0 8))] [8, 2] [(3, [.prop ((((none : Option Operand)) = none → (0 : Nat) = 0) ∧ (((none : Option Operand)) = none → (8 : Nat) = 8) ∧ (0 : Nat) ≤ 8 ∧ (8 : Nat) ≤ 8), .prop (Value.slice (some (if 8 = 0 then Addr.mk p 0 none else (Addr.mk p 0 none).add (0 * 3))) (8 - 0) (8 - 0) = Value.slice (some ⟨p, 0, none⟩) 8 8)])] [(8, .slice (some ⟨p, 0, none⟩) 8 8), (2, .slice none 0 0)] (by kernel_rfl) rfl (ak (okp ⟨(by first | (intro _; rfl) | (intro hc; cases hc)), (by first | (intro _; rfl) | (intro hc; cases hc)), (by omega), (by omega)⟩ (okp (subArr0 _ _ _ _ _ (by decide)) ok0)) ak0) ?_
  refine GoR.call rfl rfl (by kernel_rfl) (f := 43) (args := #[.slice (some ⟨p, 0, none⟩) 8 8]) (by kernel_rfl) Tryz.call43 (clone_spec l hl hs) ?_
  rintro v4 w5 ⟨ad1, c2, rfl, hs3⟩
  refine ⟨(opn (by kernel_rfl)), ?_⟩
  refine GoR.phaseK [(5, .gen [])] [2] [] [(2, .slice ad1 ((l).length) c2)] (by kernel_rfl) rfl ak0 ?_
  refine GoR.done (GoQ.thn (GoC.ret ?_))
  refine GoQ.done (.inl rfl) (v := .slice ad1 ((l).length) c2) (fun a hf => results1 rfl (by kernel_rfl) a hf) ?_
  exact ⟨_, _, rfl, hs3⟩
theorem sesList_nil {w0 w : World} {L : List Asn} (hs : St w0 L w) : Calls Tryz.prog 27 #[.pointer none] w (Ret fun rv w' => rv = .slice none 0 0 ∧ St w0 L w') := by
  refine enter (args := [.pointer none]) Tryz.func27 rfl Tryz.ntmps27 (Nat.le_of_ble_eq_true (by kernel_rfl)) ?_
  refine GoC.slots (S' := [(0, .pointer none)]) rfl ?_
  refine GoC.seq ?_
  refine GoC.regT [1] (.rd 0 .done) (by kernel_rfl) (by kernel_rfl) ?_
  refine GoR.phaseK [(0, .gen [])] [2, 0] [] [(2, .slice none 0 0), (0, .pointer none)] (by kernel_rfl) rfl ak0 ?_
  refine GoR.done (GoQ.thn (GoC.seq (GoC.seq ?_)))
  refine GoC.regT [3, 3] (.rd 0 (.rd 1 .done)) (by kernel_rfl) (by kernel_rfl) ?_
  refine GoR.phaseK [(0, .gen []), (1, .gen [])] [4, 2, 0] [] [(4, .bool true), (2, .slice none 0 0), (0, .pointer none)] (by kernel_rfl) rfl ak0 ?_
  refine GoR.done (GoQ.thn (GoC.condT (by kernel_rfl) (GoC.seq ?_)))
  refine GoC.regT [1] (.rd 0 .done) (by kernel_rfl) (by kernel_rfl) ?_
  refine GoR.phaseK [(0, .gen [])] [2, 0] [] [(2, .slice none 0 0), (0, .pointer none)] (by kernel_rfl) rfl ak0 ?_
  refine GoR.done (GoQ.thn (GoC.ret (GoQ.skipCR ?_)))
  refine GoQ.done (.inl rfl) (v := .slice none 0 0) (fun a hf => results1 rfl (by kernel_rfl) a hf) ?_
  exact ⟨rfl, hs.drop 0⟩
end Go.Proofs.YtkiaagddmlddpaaGreatDoor
