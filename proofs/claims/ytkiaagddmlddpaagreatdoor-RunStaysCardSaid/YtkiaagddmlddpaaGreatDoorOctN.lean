/-
  Words by their bytes; what is left of a row behind a cut. Conditions: none beside each theorem's own.
-/
import Derived.Test.YtkiaagddmlddpaaGreatDoorOctW
import Derived.Test.YtkiaagddmlddpaaGreatDoorSxZ
namespace Go.Proofs.YtkiaagddmlddpaaGreatDoor
open Go.RowKit Go.Sx
set_option linter.unusedVariables false
set_option linter.unusedSimpArgs false

/-- A number by its bytes. -/
def numB (l : List Int) : Int := l.foldl (fun n x => iOr .u64 (iShl .u64 n 8) (IntKind.u64.wrap x)) 0
theorem numB_succ {l : List Int} {k : Nat} (hk : k < l.length) : numB (l.take (k + 1)) = iOr .u64 (iShl .u64 (numB (l.take k)) 8) (IntKind.u64.wrap (l.getD k 0)) := by
  rw [take_succ_getD (d := (0 : Int)) hk]
  simp only [numB, List.foldl_append, List.foldl_cons, List.foldl_nil]
theorem u64_id {n : Int} (h0 : 0 ≤ n) (h1 : n < 18446744073709551616) : IntKind.u64.wrap n = n := u64w h0 (by omega)
theorem or8 {a b : Int} (ha : 0 ≤ a) (hb : 0 ≤ b ∧ b < 256) (h : a * 256 + b < 18446744073709551616) : iOr .u64 (iShl .u64 a 8) b = a * 256 + b := by
  obtain ⟨A, rfl⟩ : ∃ A : Nat, a = A := ⟨a.toNat, by omega⟩
  obtain ⟨B, rfl⟩ : ∃ B : Nat, b = B := ⟨b.toNat, by omega⟩
  have e1 : iShl .u64 (A : Int) 8 = ((A * 256 : Nat) : Int) := by
    show IntKind.u64.wrap ((A : Int) * 2 ^ 8) = _
    rw [show ((A : Int) * 2 ^ 8) = ((A * 256 : Nat) : Int) by omega]
    exact u64_id (by omega) (by omega)
  rw [e1]
  show IntKind.u64.wrap (((BitVec.ofInt 64 ((A * 256 : Nat) : Int) ||| BitVec.ofInt 64 ((B : Nat) : Int)).toNat : Nat) : Int) = _
  rw [BitVec.ofInt_natCast, BitVec.ofInt_natCast, BitVec.toNat_or, BitVec.toNat_ofNat, BitVec.toNat_ofNat, Nat.mod_eq_of_lt (by omega), Nat.mod_eq_of_lt (by omega)]
  have e2 := Nat.two_pow_add_eq_or_of_lt (i := 8) (b := B) (by omega) A
  rw [show A * 256 = 2 ^ 8 * A by omega, ← e2, u64_id (by omega) (by omega)]
  omega
theorem iShr_nat (n : Nat) (k : Nat) (hk : k ≤ 64) : iShr .u64 (n : Int) (k : Int) = ((n / 2 ^ k : Nat) : Int) := by
  show (n : Int).fdiv (2 ^ (min (Int.toNat (k : Int)) 64)) = _
  rw [Int.toNat_natCast, Nat.min_eq_left hk, Int.fdiv_eq_ediv_of_nonneg _ (by exact Int.pow_nonneg (by decide))]
  rw [Int.natCast_ediv, Int.natCast_pow]
  rfl
theorem wdb_nat (n : Nat) (x : Nat) (hx : x < 8) : wdb (n : Int) x = ((n / 2 ^ (8 * (7 - x)) % 256 : Nat) : Int) := by
  show IntKind.u8.wrap (iShr .u64 (n : Int) (8 * ((7 : Int) - (x : Nat)))) = _
  rw [show (8 * ((7 : Int) - (x : Nat))) = ((8 * (7 - x) : Nat) : Int) by omega, iShr_nat n _ (by omega)]
  show ((n / 2 ^ (8 * (7 - x)) : Nat) : Int) % 256 = _
  omega
theorem numB_wdn (n : Nat) (hn : n < 18446744073709551616) : ∀ k, k ≤ 8 → numB (wdn (n : Int) k) = ((n / 2 ^ (8 * (8 - k)) : Nat) : Int)
  | 0, _ => by
    show (0 : Int) = _
    rw [Nat.div_eq_of_lt (by exact hn)]
    rfl
  | k + 1, hk => by
    have ih := numB_wdn n hn k (by omega)
    rw [wdn_succ]
    have e : numB (wdn (n : Int) k ++ [wdb (n : Int) k]) = iOr .u64 (iShl .u64 (numB (wdn (n : Int) k)) 8) (IntKind.u64.wrap (wdb (n : Int) k)) := by
      simp only [numB, List.foldl_append, List.foldl_cons, List.foldl_nil]
    have hdiv : n / 2 ^ (8 * (8 - k)) = n / 2 ^ (8 * (8 - (k + 1))) / 256 := by
      rw [Nat.div_div_eq_div_mul, show 8 * (8 - k) = 8 * (8 - (k + 1)) + 8 by omega, Nat.pow_add]
    have hle : n / 2 ^ (8 * (8 - (k + 1))) ≤ n := Nat.div_le_self ..
    rw [e, ih, wdb_nat n k (by omega), u64_id (by omega) (by omega), show 8 * (7 - k) = 8 * (8 - (k + 1)) by omega, hdiv]
    generalize n / 2 ^ (8 * (8 - (k + 1))) = q at hle ⊢
    rw [or8 (by omega) (by omega) (by omega)]
    omega
theorem numB_wd {v : Int} (h : 0 ≤ v ∧ v < 18446744073709551616) : numB (wd v) = v := by
  obtain ⟨n, rfl⟩ : ∃ n : Nat, v = n := ⟨v.toNat, by omega⟩
  rw [wd, numB_wdn n (by omega) 8 (Nat.le_refl _)]
  simp
theorem len8 {r : List Int} {v : Int} (h : r.take 8 = wd v) : 8 ≤ r.length := by
  have h1 := congrArg List.length h
  rw [List.length_take, wd_length] at h1
  omega
theorem subAd_some {ad : Option Addr} {c lo size : Nat} (h : ∃ b off, ad = some ⟨b, off, none⟩) : ∃ b off, subAd ad c lo size = some ⟨b, off, none⟩ := by
  obtain ⟨b, off, rfl⟩ := h
  unfold subAd
  split
  · exact ⟨_, _, rfl⟩
  · exact ⟨b, off + lo * size, by simp [Addr.add]⟩
theorem strOf_strB (s : ByteArray) : strOf (strB s) = s := by
  unfold strOf strB
  rw [List.map_map]
  have e : (s.data.toList.map (u8of ∘ fun b : UInt8 => (b.toNat : Int))) = s.data.toList := by
    conv => rhs; rw [← List.map_id s.data.toList]
    refine List.map_congr_left fun b _ => ?_
    show u8of (b.toNat : Int) = b
    apply UInt8.toNat_inj.1
    have h := u8of_toNat (x := (b.toNat : Int)) (by omega) (by have := b.toNat_lt; omega)
    omega
  rw [e]
end Go.Proofs.YtkiaagddmlddpaaGreatDoor
