/-
  Bytes: Grow, put, Word. Conditions: none beside each theorem's own.
-/
import Derived.Test.YtkiaagddmlddpaaGreatDoorOctA
import Derived.Test.YtkiaagddmlddpaaGreatDoorSxS
import Derived.Test.YtkiaagddmlddpaaGreatDoorSxU
namespace Go.Proofs.YtkiaagddmlddpaaGreatDoor
open Go.RowKit Go.Sx
set_option linter.unusedVariables false
set_option linter.unusedSimpArgs false
set_option linter.unnecessarySimpa false
set_option maxRecDepth 100000
/-- A row of one's own that was grown. -/
theorem grown_sl {w0 w w' : World} {L : List Asn} {ad base : Option Addr} {c n : Nat} {l : List Int} {all : List Value} {v : Value} (hs : St w0 (Sl ad c 5 1 byteC l :: L) w) (hb : base = ad) (hx : all.take l.length = l.flatMap fun x => (byteC x).toList) (h : Grown w0 (Sl ad c 5 1 byteC l :: L) w base l.length c n all v w') :
    ∃ (ao : Option Addr) (co : Nat), v = .slice ao l.length co ∧ St w0 (Sl ao co 5 1 byteC l :: L) w' := by
  subst hb
  rcases h with ⟨-, rfl, rfl⟩ | ⟨cap, rest, e1, e2, rfl, e3, rfl⟩
  · exact ⟨_, _, rfl, hs⟩
  · have hf := flat_length (f := byteC) (size := 1) (fun _ => rfl) l
    have hd : St w0 L { w with drawn := w.drawn + 1 } := (hs.tail).drew
    refine ⟨_, _, rfl, ?_⟩
    refine St.new hd rfl rfl rfl (by simp) (fun b hb => ?_) ?_ (fun b hb => ?_)
    · have hb' : b < w.heap.size := hb
      simp only [Array.getElem?_push]; rw [if_neg (by omega)]
    · refine ⟨hf, .inr ⟨w.heap.size, cap, (all ++ rest).toArray, rfl, Nat.zero_le _, by simp, e1, by simp only [maxLen]; omega, by simpa using e3, ?_⟩⟩
      have hl : l.length ≤ all.length := by
        have := congrArg List.length hx
        rw [List.length_take, hf] at this
        omega
      rw [Nat.mul_one, List.take_append_of_le_length hl, hx]
    · have : some w.heap.size = some b := hb
      cases this
      simp
theorem growS_spec {w0 w : World} {L : List Asn} {b c : Nat} (l : List Int) (n : Nat) (hl : l.length ≤ 1000000) (hn : n ≤ 1000000) (hs : St w0 (Sl (some ⟨b, 0, none⟩) c 5 1 byteC l :: L) w) :
    Calls Tryz.prog 60 #[.slice (some ⟨b, 0, none⟩) l.length c, .int .i64 n] w (Ret fun rv w' => ∃ (ao : Option Addr) (co : Nat), rv = .slice ao l.length co ∧ St w0 (Sl ao co 5 1 byteC l :: L) w') := by
  obtain ⟨h1, h2⟩ := hs.holds _ (List.mem_cons_self ..)
  rcases h2 with ⟨h2, -⟩ | ⟨g, cap, cur, h2, -, h4, h5, h6, h7, h8⟩
  · cases h2
  · cases h2
    refine Calls.ret (grow_spec (all := cur.toList) (n := n) hs (fun ad h => by cases h; rfl) h5 (by simp only [maxLen] at h6; omega) hn hl (by rw [Array.length_toList]; omega) ?_) (fun v w' h => grown_sl hs rfl (by rw [← h8, Nat.mul_one]) h)
    intro w1 hw
    simp only [Builtin.firstCells, loadCells]
    refine run_loadCells0 _ _ (by simpa using h7) fun i hi => ?_
    rw [add_mk, Nat.zero_add]
    simp only [World.cell?, hw, h4]
    simp
theorem growN_spec {w0 w : World} {L : List Asn} {c : Nat} (n : Nat) (hn : n ≤ 1000000) (hs : St w0 (Sl none 0 5 1 byteC [] :: L) w) :
    Calls Tryz.prog 60 #[.slice none 0 0, .int .i64 n] w (Ret fun rv w' => ∃ (ao : Option Addr) (co : Nat), rv = .slice ao (([] : List Int).length) co ∧ St w0 (Sl ao co 5 1 byteC [] :: L) w') :=
  Calls.ret (grow_spec (all := []) (n := n) (len := 0) (c := 0) (base := none) hs (fun ad h => by cases h) (Nat.le_refl _) (by omega) hn (by omega) rfl (fun w1 _ => by simp [Builtin.firstCells])) (fun v w' h => grown_sl (l := []) hs rfl rfl h)
/-- Clone of a row of one's own, and Grow of it. -/
theorem clone_spec2 {w0 w : World} {L : List Asn} {ad : Option Addr} {c : Nat} (l : List Int) (hl : l.length ≤ 1000000) (hs : St w0 (Sl ad c 5 1 byteC l :: L) w) :
    Calls Tryz.prog 52 #[.slice ad l.length c] w (Ret fun rv w' => ∃ (ao : Option Addr) (co : Nat), rv = .slice ao l.length co ∧ St w0 (Sl ao co 5 1 byteC l :: L) w') := by
  obtain ⟨h1, h2⟩ := hs.holds _ (List.mem_cons_self ..)
  rcases h2 with ⟨h2, h3⟩ | ⟨g, cap, cur, h2, -⟩
  · obtain rfl : l = [] := List.length_eq_zero_iff.1 h3
    cases h2
    refine Calls.ret (cloneN_spec hs) ?_
    rintro v w' ⟨rfl, h⟩
    exact ⟨none, 0, rfl, h⟩
  · cases h2
    refine Calls.ret (cloneS_spec l (by omega) hs) ?_
    rintro v w' ⟨ao, co, rfl, h⟩
    exact ⟨ao, co, rfl, h.sub (List.Sublist.cons_cons _ (List.Sublist.cons _ (List.Sublist.refl _)))⟩
theorem grow_spec2 {w0 w : World} {L : List Asn} {ad : Option Addr} {c : Nat} (l : List Int) (n : Nat) (hl : l.length ≤ 1000000) (hn : n ≤ 1000000) (hs : St w0 (Sl ad c 5 1 byteC l :: L) w) :
    Calls Tryz.prog 60 #[.slice ad l.length c, .int .i64 n] w (Ret fun rv w' => ∃ (ao : Option Addr) (co : Nat), rv = .slice ao l.length co ∧ St w0 (Sl ao co 5 1 byteC l :: L) w') := by
  obtain ⟨h1, h2⟩ := hs.holds _ (List.mem_cons_self ..)
  rcases h2 with ⟨h2, h3⟩ | ⟨g, cap, cur, h2, -⟩
  · obtain rfl : l = [] := List.length_eq_zero_iff.1 h3
    cases h2
    exact growN_spec (c := 0) n hn hs
  · cases h2
    exact growS_spec l n hl hn hs
end Go.Proofs.YtkiaagddmlddpaaGreatDoor
