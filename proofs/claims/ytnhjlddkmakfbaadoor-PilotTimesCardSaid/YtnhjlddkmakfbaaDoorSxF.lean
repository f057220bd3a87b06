/-
  Sx, part F: an argument of flat data (numbers, bools, strings, structs and arrays of these) read as cells. Proved once, for any program. Conditions: none beside each theorem's own.
-/
import Derived.Test.YtnhjlddkmakfbaaDoorSxE
import Derived.ProofKit
import Derived.OpenShut
import Derived.ShutString
import Derived.ChangeOld
import Derived.Deep.Slices
namespace Go.Sx
open Go.RowKit Go.ChangeShapes Go.WideShapes Go.Deep
set_option linter.unusedVariables false
set_option linter.unusedSimpArgs false

inductive FK where
  | int (k : IntKind)
  | bool
  | str

def FK.fits : FK → Value → Prop
  | .int k, v => ∃ n, v = .int k n ∧ (Lit.int k n).wf = true
  | .bool, v => ∃ b, v = .bool b
  | .str, v => ∃ s, v = .string s ∧ s.size ≤ maxLen

def fitsAll : List FK → List Value → Prop
  | [], [] => True
  | k :: ks, v :: vs => k.fits v ∧ fitsAll ks vs
  | _, _ => False

theorem fitsAll_append : ∀ {ks ks' : List FK} {vs vs' : List Value}, fitsAll ks vs → fitsAll ks' vs' → fitsAll (ks ++ ks') (vs ++ vs')
  | [], _, [], _, _, h => h
  | [], _, _ :: _, _, h, _ => h.elim
  | _ :: _, _, [], _, h, _ => h.elim
  | _ :: _, _, _ :: _, _, h, h' => ⟨h.1, fitsAll_append h.2 h'⟩

theorem fitsAll_length : ∀ {ks : List FK} {vs : List Value}, fitsAll ks vs → vs.length = ks.length
  | [], [], _ => rfl
  | [], _ :: _, h => h.elim
  | _ :: _, [], h => h.elim
  | _ :: _, _ :: _, h => by simp [fitsAll_length h.2]

def flatFs (f : TypeId → Option (List FK)) (P : Program) : List Field → Nat → Nat → Option (List FK)
  | [], off, tot => if off == tot then some [] else none
  | fd :: fs, off, tot =>
    if fd.offset == off then
      match f fd.type with
      | some ks => if ks.length == P.cellsOf fd.type then (match flatFs f P fs (off + ks.length) tot with | some r => some (ks ++ r) | none => none) else none
      | none => none
    else none

def flatK (P : Program) : Nat → TypeId → Option (List FK)
  | 0, _ => none
  | m + 1, t =>
    match P.underlying t with
    | some .bool => some [.bool]
    | some (.int k) => some [.int k]
    | some .string => some [.str]
    | some (.struct fs) => flatFs (flatK P m) P fs.toList 0 (P.cellsOf t)
    | some (.array n e) =>
      match flatK P m e with
      | some ks => if ks.length == P.cellsOf e && n * ks.length == P.cellsOf t then some (List.replicate n ks).flatten else none
      | none => none
    | _ => none

section
variable {H : Type} {enc : TypeId × Value → H} {P : Program} {w : World} {base : Nat} {spare : Nat → Bool} {held : Bool}

theorem flat_fits : ∀ (m : Nat) (t : TypeId) (fuel : Nat) (cs : List Value) (x : DataW H × List MemPlace) (ks : List FK), flatK P m t = some ks → DataW.trod enc P w base spare held fuel t cs = some x → fitsAll ks cs := by
  intro m
  induction m with
  | zero => intro t fuel cs x ks h; cases h
  | succ m ih =>
    intro t fuel cs x ks hk h
    unfold flatK at hk
    cases hu : P.underlying t with
    | none => rw [hu] at hk; cases hk
    | some d =>
      rw [hu] at hk
      cases d with
      | bool =>
        simp only [Option.some.injEq] at hk
        subst hk
        cases fuel with
        | zero => simp [DataW.trod] at h
        | succ fuel =>
          unfold DataW.trod at h
          rw [hu] at h
          split at h <;> simp_all
          exact ⟨⟨_, rfl⟩, trivial⟩
      | int k =>
        simp only [Option.some.injEq] at hk
        subst hk
        cases fuel with
        | zero => simp [DataW.trod] at h
        | succ fuel =>
          unfold DataW.trod at h
          rw [hu] at h
          split at h <;> simp_all
          exact ⟨⟨_, rfl, h.1.2⟩, trivial⟩
      | string =>
        simp only [Option.some.injEq] at hk
        subst hk
        cases fuel with
        | zero => simp [DataW.trod] at h
        | succ fuel =>
          unfold DataW.trod at h
          rw [hu] at h
          split at h <;> simp_all
          exact ⟨⟨_, rfl, h.1⟩, trivial⟩
      | struct fs =>
        simp only at hk
        obtain ⟨xs, n, _, _, hlen, hxl, hget⟩ := DataW.trod_struct hu h
        have key : ∀ (l : List Field) (off i : Nat) (ks : List FK), (∀ j f, l[j]? = some f → fs[i + j]? = some f) → flatFs (flatK P m) P l off (P.cellsOf t) = some ks → fitsAll ks (cs.drop off) := by
          intro l
          induction l with
          | nil =>
            intro off i ks _ hf
            simp only [flatFs] at hf
            split at hf
            · rename_i he
              simp only [Option.some.injEq] at hf
              subst hf
              have : off = P.cellsOf t := by simpa using he
              rw [List.drop_eq_nil_of_le (by omega)]
              trivial
            · cases hf
          | cons f l ihl =>
            intro off i ks hsub hf
            simp only [flatFs] at hf
            split at hf
            · rename_i he
              have he : f.offset = off := by simpa using he
              cases hfk : flatK P m f.type with
              | none => rw [hfk] at hf; cases hf
              | some k1 =>
                rw [hfk] at hf
                simp only at hf
                split at hf
                · rename_i hl1
                  have hl1 : k1.length = P.cellsOf f.type := by simpa using hl1
                  cases hr : flatFs (flatK P m) P l (off + k1.length) (P.cellsOf t) with
                  | none => rw [hr] at hf; cases hf
                  | some r =>
                    rw [hr] at hf
                    simp only [Option.some.injEq] at hf
                    subst hf
                    have hfi : fs[i]? = some f := by simpa using hsub 0 f rfl
                    have h1 := hget i f hfi
                    have hi : i < xs.length := by rw [hxl]; exact (Array.getElem?_eq_some_iff.1 hfi).1
                    rw [List.getElem?_eq_getElem hi] at h1
                    have h2 := ih _ _ _ _ _ hfk h1
                    rw [he] at h2
                    have h3 := ihl (off + k1.length) (i + 1) r (fun j g hg => by rw [Nat.add_assoc, Nat.add_comm 1 j]; exact hsub (j + 1) g (by simpa using hg)) hr
                    have h4 : cs.drop off = (cs.drop off).take (P.cellsOf f.type) ++ cs.drop (off + k1.length) := by
                      rw [hl1, ← List.drop_drop, List.take_append_drop]
                    rw [h4]
                    exact fitsAll_append h2 h3
                · cases hf
            · cases hf
        simpa using key fs.toList 0 0 ks (fun j f hj => by simpa using hj) hk
      | array n e =>
        simp only at hk
        cases hfk : flatK P m e with
        | none => rw [hfk] at hk; cases hk
        | some k1 =>
          rw [hfk] at hk
          simp only at hk
          split at hk
          · rename_i hc
            simp only [Bool.and_eq_true, beq_iff_eq] at hc
            simp only [Option.some.injEq] at hk
            subst hk
            obtain ⟨xs, q, _, _, hlen, hxl, hget⟩ := DataW.trod_array hu h
            have key : ∀ (r i : Nat), i + r = n → fitsAll (List.replicate r k1).flatten (cs.drop (i * P.cellsOf e)) := by
              intro r
              induction r with
              | zero =>
                intro i hi
                have : cs.drop (i * P.cellsOf e) = [] := List.drop_eq_nil_of_le (by rw [hlen, ← hc.2, hc.1, ← hi]; simp)
                rw [this]
                trivial
              | succ r ihr =>
                intro i hi
                have h1 := hget i (by omega)
                rw [List.getElem?_eq_getElem (by omega)] at h1
                have h2 := ih _ _ _ _ _ hfk h1
                have h3 := ihr (i + 1) (by omega)
                have h4 : cs.drop (i * P.cellsOf e) = (cs.drop (i * P.cellsOf e)).take (P.cellsOf e) ++ cs.drop ((i + 1) * P.cellsOf e) := by
                  rw [show (i + 1) * P.cellsOf e = i * P.cellsOf e + P.cellsOf e from by rw [Nat.add_mul, Nat.one_mul], ← List.drop_drop, List.take_append_drop]
                rw [h4, List.replicate_succ, List.flatten_cons]
                exact fitsAll_append h2 h3
            simpa using key n 0 (by omega)
          · cases hk
      | _ => cases hk

/-- A slice that came in, its elements flat: each element's cells, of the kinds ks. -/
theorem open_flat {t e : TypeId} {m : Nat} {ks : List FK} (ht : P.underlying t = some (.slice e)) (hk : flatK P m e = some ks) (hsz : P.cellsOf e = ks.length) (h0 : 0 < ks.length) {ad : Option Addr} {n c : Nat} {d : DataW H} {ps : List MemPlace}
    (h : DataW.Trod enc P w base spare held t (.slice ad n c) d ps) :
    n ≤ maxLen ∧ ∃ cell : Nat → Array Value, RowsAt w ad n ks.length cell ∧ ∀ k, k < n → fitsAll ks (cell k).toList := by
  obtain ⟨fuel, hf⟩ := h
  rcases open_slice ht hf with ⟨hcs, _⟩ | ⟨a, len, cap, mm, nn, D, Pl, hcs, _, hl, hm, hmm, _, hi⟩
  · simp [Value.cells] at hcs
    obtain ⟨rfl, rfl, rfl⟩ := hcs
    exact ⟨Nat.zero_le _, fun _ => #[], fun h => absurd h (by omega), fun k hk => absurd hk (by omega)⟩
  · simp [Value.cells] at hcs
    obtain ⟨rfl, rfl, rfl⟩ := hcs
    have hle : n ≤ mm := by rw [hmm]; split <;> omega
    have H : ∀ k, ∃ cs' : List Value, k < n → (w.cells? base (a.add (k * P.cellsOf e)) (P.cellsOf e) = some cs' ∧ fitsAll ks cs') := fun k => by
      by_cases hk' : k < n
      · obtain ⟨cs', h1, h2⟩ := hi k (by omega)
        exact ⟨cs', fun _ => ⟨h1, flat_fits _ _ _ _ _ _ hk h2⟩⟩
      · exact ⟨[], fun h => absurd h hk'⟩
    obtain ⟨F, hF⟩ := Classical.axiomOfChoice H
    refine ⟨by omega, fun k => (F k).toArray, fun hn => ?_, fun k hk' => by simpa using (hF k hk').2⟩
    have hsp : a.spot = none := by
      obtain ⟨h1, h2⟩ := hF 0 hn
      obtain ⟨_, h3, h4⟩ := World.cells?_some h1
      have h5 := h4 0 (by rw [hsz]; exact h0)
      simp only [Nat.zero_mul, Addr.add, if_true] at h5
      cases hs : a.spot with
      | none => rfl
      | some q =>
        exfalso
        rw [List.getElem?_eq_getElem (by rw [h3, hsz]; exact h0)] at h5
        simp only [World.cell?, hs] at h5
        split at h5 <;> simp at h5
    obtain ⟨b, off, sp⟩ := a
    simp only at hsp
    subst hsp
    refine ⟨b, off, rfl, fun k hk' j hj => ?_⟩
    obtain ⟨h1, h2⟩ := hF k hk'
    obtain ⟨_, h3, h4⟩ := World.cells?_some h1
    have h5 := h4 j (by omega)
    rw [add_mk, add_mk, hsz] at h5
    rw [h5]
    simp
end

theorem pickAll {α : Type} (d : α) (Q : α → Prop) (hd : Q d) (f : α → Array Value) (n : Nat) (cell : Nat → Array Value) (H : ∀ k, k < n → ∃ x, Q x ∧ cell k = f x) :
    ∃ xs : Nat → α, (∀ k, Q (xs k)) ∧ ∀ k, k < n → cell k = f (xs k) := by
  have H' : ∀ k, ∃ x, Q x ∧ (k < n → cell k = f x) := fun k => by
    by_cases h : k < n
    · obtain ⟨x, h1, h2⟩ := H k h
      exact ⟨x, h1, fun _ => h2⟩
    · exact ⟨d, hd, fun h' => absurd h' h⟩
  obtain ⟨F, hF⟩ := Classical.axiomOfChoice H'
  exact ⟨F, fun k => (hF k).1, fun k => (hF k).2⟩

theorem RowsAt.congr {W : World} {ad : Option Addr} {n size : Nat} {cell cell' : Nat → Array Value} (h : RowsAt W ad n size cell) (hc : ∀ k, k < n → cell k = cell' k) : RowsAt W ad n size cell' := fun hn => by
  obtain ⟨b, off, h1, h2⟩ := h hn
  exact ⟨b, off, h1, fun k hk j hj => by rw [← hc k hk]; exact h2 k hk j hj⟩

theorem Calls.law {P : Program} {f : FuncId} {args : Array Value} {w : World} {B : World → Prop} (h : Calls P f args w (Ret fun v w' => v = .bool true ∧ B w')) : Calls P f args w fun e w' => e = .returned (.bool true) ∧ B w' :=
  Calls.mono h fun e w' he => by
    cases e with
    | returned v => exact ⟨by rw [he.1], he.2⟩
    | panicked c => exact he.elim
    | outgrown => exact he.elim

theorem wf_u64 {n : Int} (h : (Lit.int .u64 n).wf = true) : 0 ≤ n ∧ n ≤ 18446744073709551615 := by simp [Lit.wf, IntKind.min, IntKind.max, IntKind.signed, IntKind.bits] at h; omega
theorem wf_i64 {n : Int} (h : (Lit.int .i64 n).wf = true) : -9223372036854775808 ≤ n ∧ n ≤ 9223372036854775807 := by simp [Lit.wf, IntKind.min, IntKind.max, IntKind.signed, IntKind.bits] at h; omega
theorem wf_u8 {n : Int} (h : (Lit.int .u8 n).wf = true) : 0 ≤ n ∧ n ≤ 255 := by simp [Lit.wf, IntKind.min, IntKind.max, IntKind.signed, IntKind.bits] at h; omega
theorem wf_u16 {n : Int} (h : (Lit.int .u16 n).wf = true) : 0 ≤ n ∧ n ≤ 65535 := by simp [Lit.wf, IntKind.min, IntKind.max, IntKind.signed, IntKind.bits] at h; omega
end Go.Sx
