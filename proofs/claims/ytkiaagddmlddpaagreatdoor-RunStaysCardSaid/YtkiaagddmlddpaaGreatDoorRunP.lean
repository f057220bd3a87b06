/-
  What a row of requests makes of a state, and the digests of its places. Conditions: none beside each theorem's own.
-/
import Derived.Test.YtkiaagddmlddpaaGreatDoorStaV
import Derived.Test.YtkiaagddmlddpaaGreatDoorRunB
import Derived.Test.YtkiaagddmlddpaaGreatDoorCardS
namespace Go.Proofs.YtkiaagddmlddpaaGreatDoor
open Go.RowKit Go.Sx
set_option linter.unusedVariables false
set_option linter.unusedSimpArgs false

/-- The table and the ledger behind a row of requests. -/
def trun (l : List ReqV) : TS := l.foldl (fun s r => (sdo s.1 s.2 r).2) (List.replicate 8 dLast, [])
theorem tfold_inv : ∀ (l : List ReqV) (s : TS), TInv s → (∀ q ∈ l, ReqV.OK q) → TInv (l.foldl (fun s r => (sdo s.1 s.2 r).2) s)
  | [], _, h, _ => h
  | r :: l, s, h, hok => tfold_inv l _ (sdo_inv r h (hok r (List.mem_cons_self ..)).time) fun q hq => hok q (List.mem_cons_of_mem _ hq)
theorem trun_inv {l : List ReqV} (hok : ∀ q ∈ l, ReqV.OK q) : TInv ((trun l).1, (trun l).2) := tfold_inv l _ t0_inv hok
theorem trun_succ {l : List ReqV} {k : Nat} (hk : k < l.length) : trun (l.take (k + 1)) = (sdo (trun (l.take k)).1 (trun (l.take k)).2 (l.getD k dReq)).2 := by
  rw [take_succ_getD (d := dReq) hk]
  simp only [trun, List.foldl_append, List.foldl_cons, List.foldl_nil]
theorem ok_take {l : List ReqV} (hok : ∀ q ∈ l, ReqV.OK q) (n : Nat) : ∀ q ∈ l.take n, ReqV.OK q := fun q hq => hok q (List.mem_of_mem_take hq)
/-- The digest of the state behind a row. -/
def digAt (l : List ReqV) : D32 := digV (wd (l.length : Nat) ++ tailB (trun l).1 (lst (trun l).2))
/-- The digests of the first n requests' places. -/
def digsN (l : List ReqV) (n : Nat) : List D32 := (List.range (n / 4)).map fun j => digAt (l.take (4 * (j + 1)))
def digsOf (l : List ReqV) : List D32 := digsN l l.length
theorem digsN_length (l : List ReqV) (n : Nat) : (digsN l n).length = n / 4 := by simp [digsN]
theorem digsN_no {l : List ReqV} {n : Nat} (h : ¬ (n + 1) % 4 = 0) : digsN l (n + 1) = digsN l n := by
  simp only [digsN]
  rw [show (n + 1) / 4 = n / 4 by omega]
theorem digsN_yes {l : List ReqV} {n : Nat} (h : (n + 1) % 4 = 0) : digsN l (n + 1) = digsN l n ++ [digAt (l.take (n + 1))] := by
  simp only [digsN]
  rw [show (n + 1) / 4 = n / 4 + 1 by omega, List.range_succ, List.map_append, List.map_cons, List.map_nil, show 4 * (n / 4 + 1) = n + 1 by omega]
theorem digsN_take (l : List ReqV) {n m : Nat} (h : n ≤ m) : digsN (l.take m) n = digsN l n := by
  simp only [digsN]
  refine List.map_congr_left fun j hj => ?_
  rw [List.mem_range] at hj
  rw [List.take_take, Nat.min_eq_left (by omega)]
theorem digsN_get {l : List ReqV} {n j : Nat} (h : j < n / 4) : (digsN l n).getD j dD32 = digAt (l.take (4 * (j + 1))) := by
  have h1 : j < (digsN l n).length := by rw [digsN_length]; exact h
  rw [List.getD_eq_getElem?_getD, List.getElem?_eq_getElem h1, Option.getD_some]
  simp [digsN]
theorem digsOf_take (l : List ReqV) {n : Nat} (h : n ≤ l.length) : digsOf (l.take n) = digsN l n := by
  rw [digsOf, List.length_take, Nat.min_eq_left h, digsN_take l (Nat.le_refl _)]
theorem digsOf_length (l : List ReqV) : (digsOf l).length = l.length / 4 := digsN_length _ _
abbrev TDT := List (NameV × TldV)
def toldOf (q : ReqV) (r : RepV) (n : Int) : TldV := ⟨q.client, q.time, r, n⟩
/-- What one request adds to what is told. -/
def upStep (x : List ReqV) (n : Nat) (s : TDT × List TldV) : TDT × List TldV :=
  if (sdo (trun (x.take n)).1 (trun (x.take n)).2 (x.getD n dReq)).1.2 = true then
    (aset s.1 ⟨(x.getD n dReq).client, (x.getD n dReq).time⟩ (toldOf (x.getD n dReq) (sdo (trun (x.take n)).1 (trun (x.take n)).2 (x.getD n dReq)).1.1 ((n + 1 : Nat) : Int)), s.2 ++ [toldOf (x.getD n dReq) (sdo (trun (x.take n)).1 (trun (x.take n)).2 (x.getD n dReq)).1.1 ((n + 1 : Nat) : Int)])
  else s
/-- What is told behind k requests more than n0. -/
def upT (x : List ReqV) (n0 : Nat) : Nat → TDT × List TldV → TDT × List TldV
  | 0, s => s
  | k + 1, s => upStep x (n0 + k) (upT x n0 k s)
theorem up_yes {x y yy : List ReqV} {k : Nat} {q : ReqV} {tA : List LastV} {mA : Pairs} {td : TDT} {ol : List TldV} {s0 : TDT × List TldV} (htm : (tA, mA) = trun (x.take (y.length + k))) (hq : q = x.getD (y.length + k) dReq) (hup : (td, ol) = upT x y.length k s0)
    (hs : (sdo tA mA q).1.2 = true) (hl : yy.length = y.length + k) : (aset td (⟨q.client, q.time⟩ : NameV) (⟨q.client, q.time, (sdo tA mA q).1.1, ((yy ++ [q]).length : Nat)⟩ : TldV), ol ++ [(⟨q.client, q.time, (sdo tA mA q).1.1, ((yy ++ [q]).length : Nat)⟩ : TldV)]) = upT x y.length (k + 1) s0 := by
  have e1 : tA = (trun (x.take (y.length + k))).1 := congrArg Prod.fst htm
  have e2 : mA = (trun (x.take (y.length + k))).2 := congrArg Prod.snd htm
  subst hq e1 e2
  show _ = upStep x (y.length + k) (upT x y.length k s0)
  rw [← hup, upStep, if_pos hs]
  simp only [toldOf, List.length_append, List.length_cons, List.length_nil, hl]
theorem up_no {x y : List ReqV} {k : Nat} {q : ReqV} {tA : List LastV} {mA : Pairs} {td : TDT} {ol : List TldV} {s0 : TDT × List TldV} (htm : (tA, mA) = trun (x.take (y.length + k))) (hq : q = x.getD (y.length + k) dReq) (hup : (td, ol) = upT x y.length k s0)
    (hs : (sdo tA mA q).1.2 = false) : (td, ol) = upT x y.length (k + 1) s0 := by
  have e1 : tA = (trun (x.take (y.length + k))).1 := congrArg Prod.fst htm
  have e2 : mA = (trun (x.take (y.length + k))).2 := congrArg Prod.snd htm
  subst hq e1 e2
  show _ = upStep x (y.length + k) (upT x y.length k s0)
  rw [← hup, upStep, if_neg (by rw [hs]; decide)]
end Go.Proofs.YtkiaagddmlddpaaGreatDoor
