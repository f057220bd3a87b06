/-
  Package ledger: List.
-/
import Derived.Test.YtkiaagddmlddpaaGreatDoorProg
import Derived.Test.YtkiaagddmlddpaaGreatDoorLedD
import Derived.Test.YtkiaagddmlddpaaGreatDoorLedS
namespace Go.Proofs.YtkiaagddmlddpaaGreatDoor
open Go.RowKit Go.Sx
set_option linter.unusedVariables false
set_option linter.unusedSimpArgs false
set_option linter.unnecessarySimpa false
set_option maxRecDepth 100000
def itemsOf (m : List (ByteArray × ByteArray)) : List ItemV := m.map fun y => ⟨y.1, y.2⟩
/-- what a ledger lists -/
def lst (m : List (ByteArray × ByteArray)) : List ItemV := (itemsOf m).mergeSort (fun x y => !slt y.key x.key)
theorem sle_trans (x y z : ItemV) (h1 : (!slt y.key x.key) = true) (h2 : (!slt z.key y.key) = true) : (!slt z.key x.key) = true := by
  simp only [Bool.not_eq_true'] at *
  rw [← ltItem] at *
  exact swoItem.ntrans _ _ _ h2 h1
theorem sle_total (x y : ItemV) : ((!slt y.key x.key) || (!slt x.key y.key)) = true := by
  cases h1 : slt y.key x.key with
  | false => rfl
  | true =>
    cases h2 : slt x.key y.key with
    | false => rfl
    | true => have := slt_trans h1 h2; rw [slt_irrefl] at this; cases this
theorem lst_perm (m : List (ByteArray × ByteArray)) : (lst m).Perm (itemsOf m) := List.mergeSort_perm _ _
theorem lst_sorted (m : List (ByteArray × ByteArray)) : (lst m).Pairwise fun x y => slt y.key x.key = false :=
  (List.pairwise_mergeSort (le := fun x y : ItemV => !slt y.key x.key) sle_trans sle_total (itemsOf m)).imp fun h => by simpa using h
theorem lst_length (m : List (ByteArray × ByteArray)) : (lst m).length = m.length := by rw [(lst_perm m).length_eq, itemsOf, List.length_map]
/-- one order alone is there -/
theorem sorted_unique : ∀ {l l' : List ItemV}, l.Perm l' → (l.map (·.key)).Nodup → (l.Pairwise fun x y => slt y.key x.key = false) → (l'.Pairwise fun x y => slt y.key x.key = false) → l = l'
  | [], l', h, _, _, _ => (List.nil_perm.1 h).symm
  | x :: l, [], h, _, _, _ => absurd h.symm (List.not_perm_nil_cons _ _)
  | x :: l, y :: l', h, hn, h1, h2 => by
    have hxy : x = y := by
      have hx : x ∈ y :: l' := h.mem_iff.1 (List.mem_cons_self ..)
      have hy : y ∈ x :: l := h.mem_iff.2 (List.mem_cons_self ..)
      rcases List.mem_cons.1 hx with e | hx
      · exact e
      · rcases List.mem_cons.1 hy with e | hy
        · exact e.symm
        · have a1 := (List.pairwise_cons.1 h1).1 y hy
          have a2 := (List.pairwise_cons.1 h2).1 x hx
          have := slt_total a2 a1
          simp only [List.map_cons, List.nodup_cons] at hn
          exact absurd (List.mem_map.2 ⟨y, hy, this.symm⟩) hn.1
    subst hxy
    rw [sorted_unique (List.Perm.cons_inv h) (List.nodup_cons.1 hn).2 (List.pairwise_cons.1 h1).2 (List.pairwise_cons.1 h2).2]
theorem keysOf {w0 w : World} {L : List Asn} {r : Nat} {m : List (ByteArray × ByteArray)} (hs : St w0 L w) (i : Nat) (hi : L[i]? = some (MapA Value.string Value.string r m)) : (m.map fun y : ByteArray × ByteArray => y.1).Nodup := by
  obtain ⟨x, clk, h⟩ := hs.at_ i hi
  exact h.apart
theorem lst_of {m : List (ByteArray × ByteArray)} {l : List ItemV} (hn : (m.map fun y : ByteArray × ByteArray => y.1).Nodup) (h1 : l.Perm (itemsOf m)) (h2 : l.Pairwise fun x y => slt y.key x.key = false) : l = lst m := by
  refine sorted_unique (h1.trans (lst_perm m).symm) ?_ h2 (lst_sorted m)
  have : (itemsOf m).map (·.key) = m.map fun y : ByteArray × ByteArray => y.1 := by simp [itemsOf]
  exact ((h1.map (·.key)).nodup_iff).2 (by rw [this]; exact hn)
structure LG where
  done : List (ByteArray × ByteArray)
  l : List ItemV
  ad : Option Addr
  c : Nat
set_option maxHeartbeats 400000 in
theorem list_spec {w0 w : World} {L : List Asn} {p r : Nat} (m : List (ByteArray × ByteArray)) (hml : m.length ≤ 4294967296) (hs : St w0 ((Cel p #[.map (some r)] 87) :: (MapA Value.string Value.string r m) :: L) w) : Calls Tryz.prog 28 #[.pointer (some ⟨p, 0, none⟩)] w (Ret fun rv w' => ∃ (ad : Option Addr) (c : Nat), rv = .slice ad (lst m).length c ∧ St w0 (Sl ad c 84 2 ItemV.cells (lst m) :: (Cel p #[.map (some r)] 87) :: (MapA Value.string Value.string r m) :: L) w') := by
  refine enter (args := [.pointer (some ⟨p, 0, none⟩)]) Tryz.func28 rfl Tryz.ntmps28 (Nat.le_of_ble_eq_true (by kernel_rfl)) ?_
  refine GoC.slots (S' := [(0, .pointer (some ⟨p, 0, none⟩))]) rfl ?_
  refine GoC.seq ?_
  refine GoC.regT [1] (.rd 0 .done) (by kernel_rfl) (by kernel_rfl) ?_
  refine GoR.phaseK [(0, .gen [])] [2, 0] [] [(2, .slice none 0 0), (0, .pointer (some ⟨p, 0, none⟩))] (by kernel_rfl) rfl ak0 ?_
  refine GoR.done (GoQ.thn (GoC.seq (GoC.seq ?_)))
  refine GoC.regT [3, 3] (.rd 0 (.rd 1 .done)) (by kernel_rfl) (by kernel_rfl) ?_
  refine GoR.phaseK [(0, .gen []), (1, .gen [])] [6, 2, 0] [] [(6, .bool false), (2, .slice none 0 0), (0, .pointer (some ⟨p, 0, none⟩))] (by kernel_rfl) rfl ak0 ?_
  refine GoR.done (GoQ.thn (GoC.condF (by kernel_rfl) (GoC.skip (GoQ.thn (GoC.seq (GoC.seq ?_))))))
  refine GoC.regT [31, 31, 31, 31, 31] (.rd 0 (.rd 1 (.rd 2 (.rd 3 (.ef 4 .done))))) (by kernel_rfl) (by kernel_rfl) ?_
  refine GoR.phaseK [(0, .gen []), (1, .gen []), (2, .gen []), (3, .gen [.map (some r)])] [10, 2] [(3, [.cell ⟨p, 0, none⟩ (.map (some r))])] [(10, .map (some r)), (2, .slice none 0 0)] (by kernel_rfl) rfl (ak (okc (hs.cell 0 rfl (by kernel_rfl)) ok0) ak0) ?_
  refine GoR.range rfl (by kernel_rfl) (T := 85) (K := 9) (E := 9) (by kernel_rfl) (r := r) (by kernel_rfl) hs 1 rfl ?_
  intro it1 w2 hs3
  refine ⟨(opn (by kernel_rfl)), ?_⟩
  refine GoR.done (GoQ.thn (GoC.block ?_))
  refine GoC.loop (T := LG) (fun x => [(2, .slice x.ad x.l.length x.c), (11, .pointer (some ⟨it1, 0, none⟩))]) (fun x w => (x.l = itemsOf x.done) ∧ St w0 ((Sl x.ad x.c 84 2 ItemV.cells x.l) :: (MapIt Value.string Value.string r it1 m x.done) :: (Cel p #[.map (some r)] 87) :: L) w) (fun x => List.length m - x.done.length) (⟨[], [], none, 0⟩) [2, 11] (by kernel_rfl) ⟨rfl, (hs3.slNil 84 2 ItemV.cells)⟩ ?_
  rintro x w4 ⟨hp, hs5⟩
  refine GoC.slots (S' := [(2, .slice x.ad x.l.length x.c), (11, .pointer (some ⟨it1, 0, none⟩))]) rfl ?_
  refine GoC.seq ?_
  refine GoC.regT [3, 3] (.ef 0 (.rd 1 .done)) (by kernel_rfl) (by kernel_rfl) ?_
  have hs6 : St w0 ((MapIt Value.string Value.string r it1 m x.done) :: (Sl x.ad x.c 84 2 ItemV.cells x.l) :: (Cel p #[.map (some r)] 87) :: L) w4 := (hs5.pull 1 rfl)
  refine GoR.next rfl rfl (by kernel_rfl) (r := r) (it := it1) (by kernel_rfl) hs6 ?_ ?_
  · intro hp13
    refine ⟨(opn (by kernel_rfl)), ?_⟩
    refine GoR.phaseK [(1, .gen [])] [13, 2, 11] [] [(13, .bool false), (2, .slice x.ad x.l.length x.c), (11, .pointer (some ⟨it1, 0, none⟩))] (by kernel_rfl) rfl ak0 ?_
    refine GoR.done (GoQ.thn (GoC.seq (GoC.condF (by kernel_rfl) (GoC.exit (GoQ.skipC (GoQ.skipL (GoQ.hit (GoQ.thn (GoC.seq ?_)))))))))
    refine GoC.regT [3, 3] (.rd 0 (.ef 1 .done)) (by kernel_rfl) (by kernel_rfl) ?_
    refine GoR.phaseK [(0, .gen [])] [23, 2] [] [(23, .slice x.ad x.l.length x.c), (2, .slice x.ad x.l.length x.c)] (by kernel_rfl) rfl ak0 ?_
    have hs14 : St w0 ((Sl x.ad x.c 84 2 ItemV.cells x.l) :: (MapIt Value.string Value.string r it1 m x.done) :: (Cel p #[.map (some r)] 87) :: L) w4 := (hs6.pull 1 rfl)
    refine GoR.call rfl rfl (by kernel_rfl) (f := 44) (args := #[.slice x.ad x.l.length x.c, .func (.func 45) #[] #[]]) (by kernel_rfl) Tryz.call44 (sort_spec x.l (by first | omega | (have hh := hp13.length_eq; rw [hp] ; simp only [itemsOf, List.length_map]; omega)) hs14) ?_
    rintro v19 w20 ⟨rfl, l15, hp16, hq17, hs18⟩
    refine ⟨(opn (by kernel_rfl)), ?_⟩
    refine GoR.done (GoQ.thn (GoC.seq ?_))
    refine GoC.regT [3, 3] (.rd 0 (.rd 1 .done)) (by kernel_rfl) (by kernel_rfl) ?_
    refine GoR.phaseK [(0, .gen []), (1, .gen [])] [2] [] [(2, .slice x.ad x.l.length x.c)] (by kernel_rfl) rfl ak0 ?_
    refine GoR.done (GoQ.thn (GoC.ret ?_))
    refine GoQ.done (.inl rfl) (v := .slice x.ad x.l.length x.c) (fun a hf => results1 rfl (by kernel_rfl) a hf) ?_
    have hs21 : St w0 ((MapIt Value.string Value.string r it1 m x.done) :: (Sl x.ad x.c 84 2 ItemV.cells l15) :: (Cel p #[.map (some r)] 87) :: L) w20 := (((hs18.pull 2 rfl).pull 1 rfl).pull 2 rfl)
    have hs22 : St w0 ((MapA Value.string Value.string r m) :: (Sl x.ad x.c 84 2 ItemV.cells l15) :: (Cel p #[.map (some r)] 87) :: L) w20 := hs21.conv (fun ⟨_, x, _, clk, hx, _⟩ => ⟨x, clk, hx⟩) (fun b hb => .inl hb)
    have hlm : l15 = lst m := lst_of (keysOf hs22 0 rfl) (hp16.trans (by rw [hp]; exact hp13.map _)) hq17
    have hlen : x.l.length = (lst m).length := by rw [← hlm]; exact hp16.length_eq.symm
    have hs23 : St w0 ((Sl x.ad x.c 84 2 ItemV.cells l15) :: (Cel p #[.map (some r)] 87) :: (MapA Value.string Value.string r m) :: L) w20 := ((hs22.pull 2 rfl).pull 2 rfl)
    refine ⟨x.ad, x.c, by rw [hlen], ?_⟩
    rw [← hlm]
    exact hs23
  · intro k7 v8 w9 hm11 hl12 hs10
    refine ⟨(opn (by kernel_rfl)), ?_⟩
    refine GoR.phaseK [(1, .gen [])] [13, 2, 11] [] [(13, .bool true), (2, .slice x.ad x.l.length x.c), (11, .pointer (some ⟨it1, 0, none⟩))] (by kernel_rfl) rfl ak0 ?_
    refine GoR.done (GoQ.thn (GoC.seq (GoC.condT (by kernel_rfl) (GoC.skip (GoQ.thn (GoC.block (GoC.seq ?_)))))))
    refine GoC.regT [31, 31, 31, 31, 31] (.rd 0 (.rd 1 (.rd 2 (.rd 3 (.rd 4 .done))))) (by kernel_rfl) (by kernel_rfl) ?_
    refine GoR.entry rfl rfl (by kernel_rfl) (r := r) (it := it1) (by kernel_rfl) hs10 0 rfl ?_
    refine GoR.phaseK [(1, .gen []), (2, .gen []), (3, .gen []), (4, .gen [])] [4, 3, 2, 11] [] [(4, .string v8), (3, .string k7), (2, .slice x.ad x.l.length x.c), (11, .pointer (some ⟨it1, 0, none⟩))] (by kernel_rfl) rfl ak0 ?_
    refine GoR.done (GoQ.thn ?_)
    refine GoC.regT [127, 127, 127, 127, 127, 127, 127] (.rd 0 (.rd 1 (.rd 2 (.rd 3 (.ef 4 (.ef 5 (.rd 6 .done))))))) (by kernel_rfl) (by kernel_rfl) ?_
    refine GoR.phaseK [(0, .gen []), (1, .gen []), (2, .gen []), (3, .gen [])] [20, 17, 2, 11] [] [(20, .agg #[.string k7, .string v8]), (17, .slice x.ad x.l.length x.c), (2, .slice x.ad x.l.length x.c), (11, .pointer (some ⟨it1, 0, none⟩))] (by kernel_rfl) rfl ak0 ?_
    refine GoR.sliceLit rfl (by kernel_rfl) (t := 81) (e := 84) (n := 1) (ps := [(0, .agg #[.string k7, .string v8])]) (by kernel_rfl) (by kernel_rfl) (ti := Tryz.t84) (z := .agg #[.string (⟨#[]⟩ : ByteArray), .string (⟨#[]⟩ : ByteArray)]) (by kernel_rfl) (by kernel_rfl) (by decide) (by decide) (cs := #[.string k7, .string v8]) (by kernel_rfl) hs10 ?_
    intro b24 w25 hs26 hz27
    have hs28 : St w0 ((Sl (some ⟨b24, 0, none⟩) 1 84 2 ItemV.cells ([(⟨k7, v8⟩ : ItemV)])) :: (MapIt Value.string Value.string r it1 m (x.done ++ [(k7, v8)])) :: (Sl x.ad x.c 84 2 ItemV.cells x.l) :: (Cel p #[.map (some r)] 87) :: L) w25 := St.slOf (l := [(⟨k7, v8⟩ : ItemV)]) (f := ItemV.cells) hs26 hz27 (itemF).size (by simp only [List.length_cons, List.length_nil, maxLen]; omega) (by kernel_rfl)
    refine ⟨(opn (by kernel_rfl)), ?_⟩
    have hs31 : St w0 ((Sl x.ad x.c 84 2 ItemV.cells x.l) :: (Sl (some ⟨b24, 0, none⟩) 1 84 2 ItemV.cells ([(⟨k7, v8⟩ : ItemV)])) :: (MapIt Value.string Value.string r it1 m (x.done ++ [(k7, v8)])) :: (Cel p #[.map (some r)] 87) :: L) w25 := (hs28.pull 2 rfl)
    refine GoR.append rfl (by kernel_rfl) itemsOK itemF (ad := x.ad) (c := x.c) (xs := x.l) (ys := [(⟨k7, v8⟩ : ItemV)]) (adx := some ⟨b24, 0, none⟩) (cx := 1) dItem (by kernel_rfl) hs31 (hs31.rows 1 rfl (itemF).size dItem) (fun h => nomatch h) (by have hh : x.l.length = x.done.length := (by rw [hp, itemsOf, List.length_map]); simp only [List.length_cons, List.length_nil]; omega) (by have hh : x.l.length = x.done.length := (by rw [hp, itemsOf, List.length_map]); simp only [List.length_cons, List.length_nil]; omega) ?_
    intro ad32 c33 w29 hs30
    refine ⟨(opn (by kernel_rfl)), ?_⟩
    refine GoR.phaseK [(6, .gen [])] [2, 11] [] [(2, .slice ad32 ((x.l ++ ([(⟨k7, v8⟩ : ItemV)])).length) c33), (11, .pointer (some ⟨it1, 0, none⟩))] (by kernel_rfl) rfl ak0 ?_
    refine GoR.done (GoQ.blkN ?_)
    have hs34 : St w0 ((Sl (some ⟨b24, 0, none⟩) 1 84 2 ItemV.cells ([(⟨k7, v8⟩ : ItemV)])) :: (Sl ad32 c33 84 2 ItemV.cells (x.l ++ ([(⟨k7, v8⟩ : ItemV)]))) :: (MapIt Value.string Value.string r it1 m (x.done ++ [(k7, v8)])) :: (Cel p #[.map (some r)] 87) :: L) w29 := ((((hs30.pull 3 rfl).pull 3 rfl).pull 2 rfl).pull 3 rfl)
    have hs35 : St w0 ((Sl ad32 c33 84 2 ItemV.cells (x.l ++ ([(⟨k7, v8⟩ : ItemV)]))) :: (MapIt Value.string Value.string r it1 m (x.done ++ [(k7, v8)])) :: (Cel p #[.map (some r)] 87) :: L) w29 := hs34.drop 1
    exact GoQ.back (⟨x.done ++ [(k7, v8)], x.l ++ ([(⟨k7, v8⟩ : ItemV)]), ad32, c33⟩) [2, 11] (by kernel_rfl) (by simp only [List.length_append, List.length_cons, List.length_nil]; omega) ⟨(by simp only [hp, itemsOf, List.map_append, List.map_cons, List.map_nil]), hs35⟩
theorem list_nil {w0 w : World} {L : List Asn} (hs : St w0 L w) : Calls Tryz.prog 28 #[.pointer none] w (Ret fun rv w' => rv = .slice none 0 0 ∧ St w0 L w') := by
  refine enter (args := [.pointer none]) Tryz.func28 rfl Tryz.ntmps28 (Nat.le_of_ble_eq_true (by kernel_rfl)) ?_
  refine GoC.slots (S' := [(0, .pointer none)]) rfl ?_
  refine GoC.seq ?_
  refine GoC.regT [1] (.rd 0 .done) (by kernel_rfl) (by kernel_rfl) ?_
  refine GoR.phaseK [(0, .gen [])] [2, 0] [] [(2, .slice none 0 0), (0, .pointer none)] (by kernel_rfl) rfl ak0 ?_
  refine GoR.done (GoQ.thn (GoC.seq (GoC.seq ?_)))
  refine GoC.regT [3, 3] (.rd 0 (.rd 1 .done)) (by kernel_rfl) (by kernel_rfl) ?_
  refine GoR.phaseK [(0, .gen []), (1, .gen [])] [6, 2, 0] [] [(6, .bool true), (2, .slice none 0 0), (0, .pointer none)] (by kernel_rfl) rfl ak0 ?_
  refine GoR.done (GoQ.thn (GoC.condT (by kernel_rfl) (GoC.seq ?_)))
  refine GoC.regT [1] (.rd 0 .done) (by kernel_rfl) (by kernel_rfl) ?_
  refine GoR.phaseK [(0, .gen [])] [2, 0] [] [(2, .slice none 0 0), (0, .pointer none)] (by kernel_rfl) rfl ak0 ?_
  refine GoR.done (GoQ.thn (GoC.ret (GoQ.skipCR ?_)))
  refine GoQ.done (.inl rfl) (v := .slice none 0 0) (fun a hf => results1 rfl (by kernel_rfl) a hf) ?_
  exact ⟨rfl, hs.drop 0⟩
end Go.Proofs.YtkiaagddmlddpaaGreatDoor
