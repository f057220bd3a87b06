/-
  What package state cuts: a text; octet.New; bytes.Equal. Conditions: each theorem's own.
-/
import Derived.Test.YtkiaagddmlddpaaGreatDoorOctC
import Derived.Test.YtkiaagddmlddpaaGreatDoorStaV
namespace Go.Proofs.YtkiaagddmlddpaaGreatDoor
open Go.RowKit Go.Sx
set_option linter.unusedVariables false
set_option linter.unusedSimpArgs false
set_option linter.unnecessarySimpa false
set_option maxRecDepth 100000
theorem txt_len {r : List Int} {s : ByteArray} (h : r.take (8 + s.size) = txtB s) : 8 + s.size ≤ r.length := by
  have h1 := congrArg List.length h
  rw [List.length_take, txtB_length] at h1
  omega
theorem txt_take {r : List Int} {s : ByteArray} (h : r.take (8 + s.size) = txtB s) : r.take 8 = wd (s.size : Nat) := by
  have h1 := congrArg (List.take 8) h
  rw [List.take_take, Nat.min_eq_left (by omega), txtB, List.take_left' (wd_length _)] at h1
  exact h1
theorem txt_mid {r : List Int} {s : ByteArray} (h : r.take (8 + s.size) = txtB s) : (r.drop 8).take s.size = strB s := by
  have h1 := congrArg (List.drop 8) h
  rw [List.drop_take, Nat.add_sub_cancel_left, txtB, List.drop_left' (wd_length _)] at h1
  exact h1
theorem txt_byt {r : List Int} {s : ByteArray} (h : r.take (8 + s.size) = txtB s) : ∀ x ∈ (r.drop 8).take s.size, 0 ≤ x ∧ x < 256 := by
  rw [txt_mid h]; exact byt_str s
theorem txt_str {r : List Int} {s : ByteArray} (h : r.take (8 + s.size) = txtB s) : strOf ((r.drop 8).take s.size) = s := by
  rw [txt_mid h]; exact strOf_strB s
theorem text_spec {w0 w : World} {L : List Asn} {c : Nat} {az : Option Addr} {cz : Nat} (Q : Asn) (r : List Int) (s : ByteArray) (hQ : ∀ w, St w0 L w → Q.holds w) (hcz : r.length ≤ cz) (hsm : ∃ b off, az = some ⟨b, off, none⟩) (hz : ∀ w, Q.holds w → RowsAt w az r.length 1 (fun k => byteC (r.getD k (0 : Int)))) (hr : r.take (8 + s.size) = txtB s) (hss : s.size ≤ 1000) (hrl : r.length ≤ 1000000) (hs : St w0 ((Cel c #[.slice az r.length cz, .bool false] 126) :: L) w) : Calls Tryz.prog 36 #[.pointer (some ⟨c, 0, none⟩)] w (Ret fun rv w' => ∃ (az2 : Option Addr) (cz2 : Nat), rv = .string s ∧ ((r.drop (8 + s.size)).length ≤ cz2) ∧ (∃ b off, az2 = some ⟨b, off, none⟩) ∧ (∀ w, Q.holds w → RowsAt w az2 (r.drop (8 + s.size)).length 1 (fun k => byteC ((r.drop (8 + s.size)).getD k (0 : Int)))) ∧ St w0 ((Cel c #[.slice az2 ((r.drop (8 + s.size)).length) cz2, .bool false] 126) :: L) w') := by
  refine enter (args := [.pointer (some ⟨c, 0, none⟩)]) Tryz.func36 rfl Tryz.ntmps36 (Nat.le_of_ble_eq_true (by kernel_rfl)) ?_
  refine GoC.slots (S' := [(0, .pointer (some ⟨c, 0, none⟩))]) rfl ?_
  refine GoC.seq ?_
  refine GoC.regT [1] (.rd 0 .done) (by kernel_rfl) (by kernel_rfl) ?_
  refine GoR.phaseK [(0, .gen [])] [2, 0] [] [(2, .string (⟨#[]⟩ : ByteArray)), (0, .pointer (some ⟨c, 0, none⟩))] (by kernel_rfl) rfl ak0 ?_
  refine GoR.done (GoQ.thn (GoC.seq ?_))
  refine GoC.regT [7, 7, 7] (.rd 0 (.ef 1 (.rd 2 .done))) (by kernel_rfl) (by kernel_rfl) ?_
  refine GoR.phaseK [(0, .gen [])] [4, 2, 0] [] [(4, .pointer (some ⟨c, 0, none⟩)), (2, .string (⟨#[]⟩ : ByteArray)), (0, .pointer (some ⟨c, 0, none⟩))] (by kernel_rfl) rfl ak0 ?_
  refine GoR.call rfl rfl (by kernel_rfl) (f := 35) (args := #[.pointer (some ⟨c, 0, none⟩)]) (by kernel_rfl) Tryz.call35 (cutWord_spec Q r (s.size : Nat) (fun w h => hQ w (h.drop 0)) (by first | assumption | omega) hsm hz (txt_take hr) (by first | assumption | omega) (by first | assumption | omega) hs) ?_
  rintro v7 w8 ⟨az1, cz2, rfl, hcz23, hsm24, hz25, hs6⟩
  refine ⟨(opn (by kernel_rfl)), ?_⟩
  refine GoR.phaseK [(2, .gen [])] [3, 2, 0] [] [(3, .int .u64 (s.size : Nat)), (2, .string (⟨#[]⟩ : ByteArray)), (0, .pointer (some ⟨c, 0, none⟩))] (by kernel_rfl) rfl ak0 ?_
  refine GoR.done (GoQ.thn (GoC.seq (GoC.seq ?_)))
  have hrn := txt_len hr
  have hdl : (r.drop 8).length = r.length - 8 := List.length_drop ..
  refine GoC.regT [31, 31, 31, 31, 31] (.rd 0 (.rd 1 (.ef 2 (.rd 3 (.rd 4 .done))))) (by kernel_rfl) (by kernel_rfl) ?_
  refine GoR.phaseK [(0, .gen []), (1, .gen [])] [7, 6, 3, 2, 0] [] [(7, .pointer (some ⟨c, 0, none⟩)), (6, .int .u64 (s.size : Nat)), (3, .int .u64 (s.size : Nat)), (2, .string (⟨#[]⟩ : ByteArray)), (0, .pointer (some ⟨c, 0, none⟩))] (by kernel_rfl) rfl ak0 ?_
  refine GoR.call rfl rfl (by kernel_rfl) (f := 38) (args := #[.pointer (some ⟨c, 0, none⟩)]) (by kernel_rfl) Tryz.call38 (cutLeft_spec ((r.drop 8).length) hs6) ?_
  rintro v10 w11 ⟨rfl, hs9⟩
  refine ⟨(opn (by kernel_rfl)), ?_⟩
  refine GoR.phaseK [(3, .as_ (.int .u64 (((r.drop 8).length) : Nat)) (.gen [])), (4, .gen [])] [10, 3, 2, 0] [(3, [.prop (Value.int .u64 (IntKind.u64.wrap (((r.drop 8).length) : Nat)) = Value.int .u64 (((r.drop 8).length) : Nat))])] [(10, .bool (decide (((s.size : Nat) : Int) > (((r.drop 8).length) : Nat)))), (3, .int .u64 (s.size : Nat)), (2, .string (⟨#[]⟩ : ByteArray)), (0, .pointer (some ⟨c, 0, none⟩))] (by kernel_rfl) rfl (ak (okp (u64ok (by omega) (by omega)) ok0) ak0) ?_
  refine GoR.done (GoQ.thn ?_)
  refine GoC.cond (t := decide (((s.size : Nat) : Int) > (((r.drop 8).length) : Nat))) (by kernel_rfl) (fun h12 => ?_) (fun h12 => ?_)
  · have h12' : ((s.size : Nat) : Int) > (((r.drop 8).length) : Nat) := of_decide_eq_true h12
    exfalso; rw [List.length_drop] at *; omega
  · have h12' : ¬ (((s.size : Nat) : Int) > (((r.drop 8).length) : Nat)) := of_decide_eq_false h12
    refine GoC.skip (GoQ.thn (GoC.seq ?_))
    refine GoC.regT [63, 63, 63, 63, 63, 63] (.rd 0 (.rd 1 (.rd 2 (.ef 3 (.rd 4 (.rd 5 .done)))))) (by kernel_rfl) (by kernel_rfl) ?_
    refine GoR.phaseK [(0, .gen []), (1, .gen []), (2, .as_ (.int .i64 (s.size : Nat)) (.gen []))] [15, 13, 2] [(2, [.prop (Value.int .i64 (IntKind.i64.wrap (s.size : Nat)) = Value.int .i64 (s.size : Nat))])] [(15, .int .i64 (s.size : Nat)), (13, .pointer (some ⟨c, 0, none⟩)), (2, .string (⟨#[]⟩ : ByteArray))] (by kernel_rfl) rfl (ak (okp (i64ok (by omega) (by omega)) ok0) ak0) ?_
    refine GoR.call rfl rfl (by kernel_rfl) (f := 55) (args := #[.pointer (some ⟨c, 0, none⟩), .int .i64 (s.size : Nat)]) (by kernel_rfl) Tryz.call55 (cutRaw_spec Q (r.drop 8) s.size (fun w h => hQ w (h.drop 0)) hcz23 hsm24 hz25 (by rw [List.length_drop]; omega) (by rw [List.length_drop]; omega) hs9) ?_
    rintro v21 w22 ⟨ao13, co14, az15, cz16, rfl, hcz217, hsm218, hz219, hs20⟩
    refine ⟨(opn (by kernel_rfl)), ?_⟩
    refine GoR.bytesStrG rfl (by kernel_rfl) (src := 23) (dst := 9) (e := 5) (ad := ao13) (n := (((r.drop 8).take s.size).length)) (cap := co14) (f := byteC) rfl ((r.drop 8).take s.size) rfl (by kernel_rfl) (by kernel_rfl) (by kernel_rfl) (by kernel_rfl) (txt_byt hr) (hs20.rows 0 rfl (byteF).size (0 : Int)) ?_
    refine GoR.phaseK [(5, .gen [])] [2] [] [(2, .string (strOf ((r.drop 8).take s.size)))] (by kernel_rfl) rfl ak0 ?_
    refine GoR.done (GoQ.thn (GoC.ret ?_))
    refine GoQ.done (.inl rfl) (v := .string (strOf ((r.drop 8).take s.size))) (fun a hf => results1 rfl (by kernel_rfl) a hf) ?_
    have hs23 : St w0 ((Cel c #[.slice az15 (((r.drop 8).drop s.size).length) cz16, .bool false] 126) :: L) w22 := hs20.drop 1
    rw [List.drop_drop] at hs23
    exact ⟨az15, cz16, by rw [txt_str hr], by rw [← List.drop_drop]; exact hcz217, hsm218, by rw [← List.drop_drop]; exact hz219, hs23⟩
theorem cutNew_spec {w0 w : World} {L : List Asn} {ad : Option Addr} {ca : Nat} (F : List Int) (hFl : F.length ≤ 1000000000) (hsm : ∃ b off, ad = some ⟨b, off, none⟩) (hr : ∀ w, St w0 L w → RowsAt w ad F.length 1 (fun k => byteC (F.getD k (0 : Int)))) (hs : St w0 (L) w) : Calls Tryz.prog 34 #[.slice ad F.length ca] w (Ret fun rv w' => ∃ (c : Nat) (ao : Option Addr) (co : Nat), rv = .pointer (some ⟨c, 0, none⟩) ∧ St w0 ((Cel c #[.slice ao F.length co, .bool false] 126) :: (Sl ao co 5 1 byteC F) :: L) w') := by
  refine enter (args := [.slice ad F.length ca]) Tryz.func34 rfl Tryz.ntmps34 (Nat.le_of_ble_eq_true (by kernel_rfl)) ?_
  refine GoC.slots (S' := [(0, .slice ad F.length ca)]) rfl ?_
  refine GoC.seq ?_
  refine GoC.regT [1] (.rd 0 .done) (by kernel_rfl) (by kernel_rfl) ?_
  refine GoR.phaseK [(0, .gen [])] [2, 0] [] [(2, .pointer none), (0, .slice ad F.length ca)] (by kernel_rfl) rfl ak0 ?_
  refine GoR.done (GoQ.thn (GoC.seq ?_))
  refine GoC.regT [31, 31, 31, 31, 31] (.rd 0 (.ef 1 (.rd 2 (.ef 3 (.rd 4 .done))))) (by kernel_rfl) (by kernel_rfl) ?_
  refine GoR.phaseK [(0, .gen [])] [3, 2] [] [(3, .slice ad F.length ca), (2, .pointer none)] (by kernel_rfl) rfl ak0 ?_
  refine GoR.call rfl rfl (by kernel_rfl) (f := 52) (args := #[.slice ad F.length ca]) (by kernel_rfl) Tryz.call52 (cloneV_spec F (by first | assumption | omega) (by first | assumption | omega) (fun w h => hr _ (h.drop 0)) hs) ?_
  rintro v4 w5 ⟨ao1, co2, rfl, hs3⟩
  refine ⟨(opn (by kernel_rfl)), ?_⟩
  refine GoR.phaseK [(2, .gen [])] [5, 2] [] [(5, .agg #[.slice ao1 F.length co2, .bool false]), (2, .pointer none)] (by kernel_rfl) rfl ak0 ?_
  refine GoR.box rfl rfl (by kernel_rfl) (v := .agg #[.slice ao1 F.length co2, .bool false]) (by kernel_rfl) hs3 (cs := #[.slice ao1 F.length co2, .bool false]) (by kernel_rfl) ?_
  intro b6 w7 hs8
  refine ⟨(opn (by kernel_rfl)), ?_⟩
  refine GoR.phaseK [(4, .gen [])] [2] [] [(2, .pointer (some ⟨b6, 0, none⟩))] (by kernel_rfl) rfl ak0 ?_
  refine GoR.done (GoQ.thn (GoC.ret ?_))
  refine GoQ.done (.inl rfl) (v := .pointer (some ⟨b6, 0, none⟩)) (fun a hf => results1 rfl (by kernel_rfl) a hf) ?_
  exact ⟨b6, ao1, co2, rfl, hs8⟩
theorem bytesEq_spec {w0 w : World} {L : List Asn} {ax : Option Addr} {cx : Nat} {ay : Option Addr} {cy : Nat} (x : List Int) (y : List Int) (heq : x = y) (hbx : ∀ z ∈ x, 0 ≤ z ∧ z < 256) (hby : ∀ z ∈ y, 0 ≤ z ∧ z < 256) (hr1 : ∀ w, St w0 L w → RowsAt w ax x.length 1 (fun k => byteC (x.getD k (0 : Int)))) (hr2 : ∀ w, St w0 L w → RowsAt w ay y.length 1 (fun k => byteC (y.getD k (0 : Int)))) (hs : St w0 (L) w) : Calls Tryz.prog 41 #[.slice ax x.length cx, .slice ay y.length cy] w (Ret fun rv w' => rv = .bool true ∧ St w0 (L) w') := by
  refine enter (args := [.slice ax x.length cx, .slice ay y.length cy]) Tryz.func41 rfl Tryz.ntmps41 (Nat.le_of_ble_eq_true (by kernel_rfl)) ?_
  refine GoC.slots (S' := [(0, .slice ax x.length cx), (1, .slice ay y.length cy)]) rfl ?_
  refine GoC.seq ?_
  refine GoC.regT [1] (.rd 0 .done) (by kernel_rfl) (by kernel_rfl) ?_
  refine GoR.phaseK [(0, .gen [])] [4, 0, 1] [] [(4, .bool false), (0, .slice ax x.length cx), (1, .slice ay y.length cy)] (by kernel_rfl) rfl ak0 ?_
  refine GoR.done (GoQ.thn (GoC.seq ?_))
  refine GoC.regT [63, 63, 63, 63, 63, 63] (.rd 0 (.rd 1 (.rd 2 (.rd 3 (.rd 4 (.rd 5 .done)))))) (by kernel_rfl) (by kernel_rfl) ?_
  refine GoR.phaseK [(0, .gen [])] [5, 4, 1] [] [(5, .slice ax x.length cx), (4, .bool false), (1, .slice ay y.length cy)] (by kernel_rfl) rfl ak0 ?_
  refine GoR.bytesStrG rfl (by kernel_rfl) (src := 23) (dst := 9) (e := 5) (ad := ax) (n := x.length) (cap := cx) (f := byteC) rfl x rfl (by kernel_rfl) (by kernel_rfl) (by kernel_rfl) (by kernel_rfl) hbx (hr1 _ (hs.drop 0)) ?_
  refine GoR.phaseK [(2, .gen [])] [7, 6, 4] [] [(7, .slice ay y.length cy), (6, .string (strOf x)), (4, .bool false)] (by kernel_rfl) rfl ak0 ?_
  refine GoR.bytesStrG rfl (by kernel_rfl) (src := 23) (dst := 9) (e := 5) (ad := ay) (n := y.length) (cap := cy) (f := byteC) rfl y rfl (by kernel_rfl) (by kernel_rfl) (by kernel_rfl) (by kernel_rfl) hby (hr2 _ (hs.drop 0)) ?_
  refine GoR.phaseK [(4, .as_ (.bool (decide ((strOf x) = (strOf y)))) (.gen [])), (5, .gen [])] [4] [(4, [.prop (Value.bool ((strOf x).toList == (strOf y).toList) = Value.bool (decide ((strOf x) = (strOf y))))])] [(4, .bool (decide ((strOf x) = (strOf y))))] (by kernel_rfl) rfl (ak (okp (seq _ _) ok0) ak0) ?_
  refine GoR.done (GoQ.thn (GoC.ret ?_))
  refine GoQ.done (.inl rfl) (v := .bool (decide ((strOf x) = (strOf y)))) (fun a hf => results1 rfl (by kernel_rfl) a hf) ?_
  exact ⟨(by rw [heq]; simp), hs⟩
end Go.Proofs.YtkiaagddmlddpaaGreatDoor
