/-
  WorldNil is true, whatever step comes: the walk. Conditions: what ratchet/sha.table holds.
-/
import Derived.Test.YthdggndldnefpaaGreatDoorWoW
import Derived.Test.YthdggndldnefpaaGreatDoorWoP
namespace Go.Proofs.YthdggndldnefpaaGreatDoor
open Go.RowKit Go.Sx Go.Ev
set_option linter.unusedVariables false
set_option linter.unusedSimpArgs false
set_option linter.unnecessarySimpa false
set_option maxRecDepth 100000
def X_pl : Specs := fun g => bif Nat.beq g 13 then some (fun avs m => match avs with | [] => some (.bool true, m) | _ => none) else none
theorem X_pl_ok : SpecsOK Tryz.prog tabG X_pl := by
  intro g f h avs m r m' ν vs w w0 L hf hG hv hs
  unfold X_pl at h
  cases hb : Nat.beq g 13 with
  | false => rw [hb] at h; cases h
  | true =>
    rw [hb] at h
    have := Nat.eq_of_beq_eq_true hb
    subst this
    simp only [cond_true, Option.some.injEq] at h
    subst h
    simp only at hf
    split at hf
    · simp only [Option.some.injEq, Prod.mk.injEq] at hf
      obtain ⟨rfl, rfl⟩ := hf
      simp only [vals, Option.some.injEq] at hv
      subst hv
      refine Calls.ret (woworks_spec (hG.frame _) hs) ?_
      rintro v w' ⟨rfl, h2⟩
      exact ⟨ν, Nu.le_refl ν, rfl, h2⟩
    · cases hf
/-- The rest of a body, by the reckoner. -/
theorem ev_rest2 {X : Specs} (hX : SpecsOK Tryz.prog tabG X) (n : Nat) (f : FuncId) {fn : Func} {φ : Value → World → Prop} {N t : Nat} {c b : Code} (hfn : Tryz.prog.funcs[f]? = some fn) (hb : fn.body = some b) (hd : ∀ x ∈ draws c, x ∈ draws b) (hr : fn.results = #[.tmp t]) {l : List (Nat × AV)} {m : AM} {v : Value} {r : AV}
    (h : (match exec Tryz.prog tabG plans X n f N c (envA l) m with
      | some (.ret, S', _) => S'.get t
      | _ => none) = some r) (hv : r.val (fun _ => none) = some v) {S : Env} {ν : Nu} {w w0 : World} {L : List Asn} (hG : GOK tabG w0 L) (hl : ∀ p ∈ l, ∃ v, p.2.val ν = some v ∧ S.get p.1 = some v) (hs : St w0 (Mem ν m :: L) w)
    (hk : ∀ w', St w0 L w' → φ v w') (hnr : noRF c = true := by kernel_rfl) : GoC Tryz.prog (bodyPost Tryz.prog fn (Ret φ)) N [] c S w := by
  intro a hf
  split at h
  · rename_i S' m' he
    have hdd : OKd plans f c := fun x hx => hpl f fn b hfn hb x (hd x hx)
    have hwp := (wpIn_wide (n := 0)).1 (exec_soundO hX hpl mix he hnr hdd hG (fits_envA hf l hl) hs)
    refine wp_mono hwp fun e' a' w' hq => ?_
    obtain ⟨rfl, ν', k1, k2, k3⟩ := hq
    obtain ⟨u, h1, h2⟩ := k2.at_ t r h
    have h3 : u = v := by
      have := AV.val_mono (ν := fun _ => none) (ν' := ν') (fun id p hp => by cases hp) r hv
      rw [this] at h1
      exact (Option.some.inj h1).symm
    subst h3
    exact ⟨k2.defers, u, by rw [results_tmp hr, h2], hk w' k3.tail⟩
  · cases h
theorem vals_flats (ν : Nu) : ∀ l : List Value, vals ν (l.map AV.flat) = some l
  | [] => rfl
  | v :: l => vals_cons_mk rfl (vals_flats ν l)
set_option maxHeartbeats 4000000 in
theorem woNil_walk (W : World) (hW : Glob tabG W) {mad : Option Addr} {mc : Nat} (x : ApV) (ms : List MsV) (hz0 : x.op_.key_.size ≤ 140737488351232) (hz1 : x.op_.value_.size ≤ 140737488351232) (hz2 : x.op_.old_.size ≤ 140737488351232) (hz3 : x.op_.to_.size ≤ 140737488351232) (hz4 : x.body_.request_.op_.key_.size ≤ 140737488351232) (hz5 : x.body_.request_.op_.value_.size ≤ 140737488351232) (hz6 : x.body_.request_.op_.old_.size ≤ 140737488351232) (hz7 : x.body_.request_.op_.to_.size ≤ 140737488351232) (hm : RowsAt W mad ms.length 121 (fun k => MsV.cells (ms.getD k dMs))) : Calls Tryz.prog 4 #[.agg (ApV.cells mad ms.length mc x)] W (Ret fun rv w' => rv = .bool true ∧ Below W.heap.size W w') := by
  refine enter (args := [.agg (ApV.cells mad ms.length mc x)]) Tryz.func4 rfl Tryz.ntmps4 (Nat.le_of_ble_eq_true (by kernel_rfl)) ?_
  refine GoC.slots (S' := [(0, .agg (ApV.cells mad ms.length mc x))]) rfl ?_
  refine GoC.seq ?_
  refine GoC.regT [3, 3] (.ef 0 (.rd 1 .done)) (by kernel_rfl) (by kernel_rfl) ?_
  refine GoR.box rfl rfl (by kernel_rfl) (v := .agg (ApV.cells mad ms.length mc x)) (by kernel_rfl) (St.start W) (cs := ApV.cells mad ms.length mc x) (by kernel_rfl) ?_
  intro b1 w2 hs3
  refine ⟨(opn (by kernel_rfl)), ?_⟩
  refine GoR.phaseK [(1, .gen [])] [2, 1] [] [(2, .bool false), (1, .pointer (some ⟨b1, 0, none⟩))] (by kernel_rfl) rfl ak0 ?_
  refine GoR.done (GoQ.thn (GoC.seq (GoC.seq ?_)))
  refine GoC.regT [31, 31, 31, 31, 31] (.rd 0 (.rd 1 (.ef 2 (.ef 3 (.rd 4 .done))))) (by kernel_rfl) (by kernel_rfl) ?_
  refine GoR.phaseK [(0, .agg (ApV.cells mad ms.length mc x)), (1, .gen [])] [9, 2, 1] [(0, [.prop (Array.size (ApV.cells mad ms.length mc x) = 107), .cells ⟨b1, 0, none⟩ (ApV.cells mad ms.length mc x)])] [(9, .agg #[.int .u8 x.do_, .int .i64 x.client_, .int .i64 x.who_, .int .i64 x.j_, .int .i64 x.k_, .int .i64 x.n_, .int .u8 x.op_.kind_, .string x.op_.key_, .string x.op_.value_, .string x.op_.old_, .string x.op_.to_, .int .u64 x.op_.amount_, .int .u8 x.body_.kind_, .int .u64 x.body_.view_, .int .u64 x.body_.k_, .int .i64 x.body_.request_.client_, .int .u64 x.body_.request_.time_, .int .u8 x.body_.request_.op_.kind_, .string x.body_.request_.op_.key_, .string x.body_.request_.op_.value_, .string x.body_.request_.op_.old_, .string x.body_.request_.op_.to_, .int .u64 x.body_.request_.op_.amount_, .int .u8 (x.body_.request_.tag_[0]), .int .u8 (x.body_.request_.tag_[1]), .int .u8 (x.body_.request_.tag_[2]), .int .u8 (x.body_.request_.tag_[3]), .int .u8 (x.body_.request_.tag_[4]), .int .u8 (x.body_.request_.tag_[5]), .int .u8 (x.body_.request_.tag_[6]), .int .u8 (x.body_.request_.tag_[7]), .int .u8 (x.body_.request_.tag_[8]), .int .u8 (x.body_.request_.tag_[9]), .int .u8 (x.body_.request_.tag_[10]), .int .u8 (x.body_.request_.tag_[11]), .int .u8 (x.body_.request_.tag_[12]), .int .u8 (x.body_.request_.tag_[13]), .int .u8 (x.body_.request_.tag_[14]), .int .u8 (x.body_.request_.tag_[15]), .int .u8 (x.body_.request_.tag_[16]), .int .u8 (x.body_.request_.tag_[17]), .int .u8 (x.body_.request_.tag_[18]), .int .u8 (x.body_.request_.tag_[19]), .int .u8 (x.body_.request_.tag_[20]), .int .u8 (x.body_.request_.tag_[21]), .int .u8 (x.body_.request_.tag_[22]), .int .u8 (x.body_.request_.tag_[23]), .int .u8 (x.body_.request_.tag_[24]), .int .u8 (x.body_.request_.tag_[25]), .int .u8 (x.body_.request_.tag_[26]), .int .u8 (x.body_.request_.tag_[27]), .int .u8 (x.body_.request_.tag_[28]), .int .u8 (x.body_.request_.tag_[29]), .int .u8 (x.body_.request_.tag_[30]), .int .u8 (x.body_.request_.tag_[31]), .slice x.body_.q_.ad x.body_.q_.n x.body_.q_.c, .int .u8 (x.body_.digest_[0]), .int .u8 (x.body_.digest_[1]), .int .u8 (x.body_.digest_[2]), .int .u8 (x.body_.digest_[3]), .int .u8 (x.body_.digest_[4]), .int .u8 (x.body_.digest_[5]), .int .u8 (x.body_.digest_[6]), .int .u8 (x.body_.digest_[7]), .int .u8 (x.body_.digest_[8]), .int .u8 (x.body_.digest_[9]), .int .u8 (x.body_.digest_[10]), .int .u8 (x.body_.digest_[11]), .int .u8 (x.body_.digest_[12]), .int .u8 (x.body_.digest_[13]), .int .u8 (x.body_.digest_[14]), .int .u8 (x.body_.digest_[15]), .int .u8 (x.body_.digest_[16]), .int .u8 (x.body_.digest_[17]), .int .u8 (x.body_.digest_[18]), .int .u8 (x.body_.digest_[19]), .int .u8 (x.body_.digest_[20]), .int .u8 (x.body_.digest_[21]), .int .u8 (x.body_.digest_[22]), .int .u8 (x.body_.digest_[23]), .int .u8 (x.body_.digest_[24]), .int .u8 (x.body_.digest_[25]), .int .u8 (x.body_.digest_[26]), .int .u8 (x.body_.digest_[27]), .int .u8 (x.body_.digest_[28]), .int .u8 (x.body_.digest_[29]), .int .u8 (x.body_.digest_[30]), .int .u8 (x.body_.digest_[31]), .int .i64 x.packet_.from_, .int .i64 x.packet_.to_, .int .u64 (x.packet_.known_[0]), .int .u64 (x.packet_.known_[1]), .int .u64 (x.packet_.known_[2]), .int .u64 (x.packet_.known_[3]), .int .u64 (x.packet_.known_[4]), .int .u64 (x.packet_.known_[5]), .int .u64 (x.packet_.known_[6]), .int .u64 (x.packet_.known_[7]), .int .u64 (x.packet_.known_[8]), .int .u64 (x.packet_.known_[9]), .int .u64 (x.packet_.known_[10]), .slice mad ms.length mc, .int .u64 x.time_, .int .i64 x.reply_.err_, .string x.reply_.value_, .int .u64 x.at_, .slice x.picks_.ad x.picks_.n x.picks_.c, .bool false]), (2, .bool false), (1, .pointer (some ⟨b1, 0, none⟩))] (by kernel_rfl) rfl (ak (okp (by kernel_rfl) (oka (hs3.cells 0 0 rfl (by kernel_rfl)) ok0)) ak0) ?_
  refine GoR.sliceLit rfl (by kernel_rfl) (t := 45) (e := 44) (n := 1) (ps := [(0, .agg #[.int .u8 x.do_, .int .i64 x.client_, .int .i64 x.who_, .int .i64 x.j_, .int .i64 x.k_, .int .i64 x.n_, .int .u8 x.op_.kind_, .string x.op_.key_, .string x.op_.value_, .string x.op_.old_, .string x.op_.to_, .int .u64 x.op_.amount_, .int .u8 x.body_.kind_, .int .u64 x.body_.view_, .int .u64 x.body_.k_, .int .i64 x.body_.request_.client_, .int .u64 x.body_.request_.time_, .int .u8 x.body_.request_.op_.kind_, .string x.body_.request_.op_.key_, .string x.body_.request_.op_.value_, .string x.body_.request_.op_.old_, .string x.body_.request_.op_.to_, .int .u64 x.body_.request_.op_.amount_, .int .u8 (x.body_.request_.tag_[0]), .int .u8 (x.body_.request_.tag_[1]), .int .u8 (x.body_.request_.tag_[2]), .int .u8 (x.body_.request_.tag_[3]), .int .u8 (x.body_.request_.tag_[4]), .int .u8 (x.body_.request_.tag_[5]), .int .u8 (x.body_.request_.tag_[6]), .int .u8 (x.body_.request_.tag_[7]), .int .u8 (x.body_.request_.tag_[8]), .int .u8 (x.body_.request_.tag_[9]), .int .u8 (x.body_.request_.tag_[10]), .int .u8 (x.body_.request_.tag_[11]), .int .u8 (x.body_.request_.tag_[12]), .int .u8 (x.body_.request_.tag_[13]), .int .u8 (x.body_.request_.tag_[14]), .int .u8 (x.body_.request_.tag_[15]), .int .u8 (x.body_.request_.tag_[16]), .int .u8 (x.body_.request_.tag_[17]), .int .u8 (x.body_.request_.tag_[18]), .int .u8 (x.body_.request_.tag_[19]), .int .u8 (x.body_.request_.tag_[20]), .int .u8 (x.body_.request_.tag_[21]), .int .u8 (x.body_.request_.tag_[22]), .int .u8 (x.body_.request_.tag_[23]), .int .u8 (x.body_.request_.tag_[24]), .int .u8 (x.body_.request_.tag_[25]), .int .u8 (x.body_.request_.tag_[26]), .int .u8 (x.body_.request_.tag_[27]), .int .u8 (x.body_.request_.tag_[28]), .int .u8 (x.body_.request_.tag_[29]), .int .u8 (x.body_.request_.tag_[30]), .int .u8 (x.body_.request_.tag_[31]), .slice x.body_.q_.ad x.body_.q_.n x.body_.q_.c, .int .u8 (x.body_.digest_[0]), .int .u8 (x.body_.digest_[1]), .int .u8 (x.body_.digest_[2]), .int .u8 (x.body_.digest_[3]), .int .u8 (x.body_.digest_[4]), .int .u8 (x.body_.digest_[5]), .int .u8 (x.body_.digest_[6]), .int .u8 (x.body_.digest_[7]), .int .u8 (x.body_.digest_[8]), .int .u8 (x.body_.digest_[9]), .int .u8 (x.body_.digest_[10]), .int .u8 (x.body_.digest_[11]), .int .u8 (x.body_.digest_[12]), .int .u8 (x.body_.digest_[13]), .int .u8 (x.body_.digest_[14]), .int .u8 (x.body_.digest_[15]), .int .u8 (x.body_.digest_[16]), .int .u8 (x.body_.digest_[17]), .int .u8 (x.body_.digest_[18]), .int .u8 (x.body_.digest_[19]), .int .u8 (x.body_.digest_[20]), .int .u8 (x.body_.digest_[21]), .int .u8 (x.body_.digest_[22]), .int .u8 (x.body_.digest_[23]), .int .u8 (x.body_.digest_[24]), .int .u8 (x.body_.digest_[25]), .int .u8 (x.body_.digest_[26]), .int .u8 (x.body_.digest_[27]), .int .u8 (x.body_.digest_[28]), .int .u8 (x.body_.digest_[29]), .int .u8 (x.body_.digest_[30]), .int .u8 (x.body_.digest_[31]), .int .i64 x.packet_.from_, .int .i64 x.packet_.to_, .int .u64 (x.packet_.known_[0]), .int .u64 (x.packet_.known_[1]), .int .u64 (x.packet_.known_[2]), .int .u64 (x.packet_.known_[3]), .int .u64 (x.packet_.known_[4]), .int .u64 (x.packet_.known_[5]), .int .u64 (x.packet_.known_[6]), .int .u64 (x.packet_.known_[7]), .int .u64 (x.packet_.known_[8]), .int .u64 (x.packet_.known_[9]), .int .u64 (x.packet_.known_[10]), .slice mad ms.length mc, .int .u64 x.time_, .int .i64 x.reply_.err_, .string x.reply_.value_, .int .u64 x.at_, .slice x.picks_.ad x.picks_.n x.picks_.c, .bool false])]) (by kernel_rfl) (by kernel_rfl) (ti := Tryz.t44) (z := .agg #[.int .u8 0, .int .i64 0, .int .i64 0, .int .i64 0, .int .i64 0, .int .i64 0, .int .u8 0, .string (⟨#[]⟩ : ByteArray), .string (⟨#[]⟩ : ByteArray), .string (⟨#[]⟩ : ByteArray), .string (⟨#[]⟩ : ByteArray), .int .u64 0, .int .u8 0, .int .u64 0, .int .u64 0, .int .i64 0, .int .u64 0, .int .u8 0, .string (⟨#[]⟩ : ByteArray), .string (⟨#[]⟩ : ByteArray), .string (⟨#[]⟩ : ByteArray), .string (⟨#[]⟩ : ByteArray), .int .u64 0, .int .u8 0, .int .u8 0, .int .u8 0, .int .u8 0, .int .u8 0, .int .u8 0, .int .u8 0, .int .u8 0, .int .u8 0, .int .u8 0, .int .u8 0, .int .u8 0, .int .u8 0, .int .u8 0, .int .u8 0, .int .u8 0, .int .u8 0, .int .u8 0, .int .u8 0, .int .u8 0, .int .u8 0, .int .u8 0, .int .u8 0, .int .u8 0, .int .u8 0, .int .u8 0, .int .u8 0, .int .u8 0, .int .u8 0, .int .u8 0, .int .u8 0, .int .u8 0, .slice none 0 0, .int .u8 0, .int .u8 0, .int .u8 0, .int .u8 0, .int .u8 0, .int .u8 0, .int .u8 0, .int .u8 0, .int .u8 0, .int .u8 0, .int .u8 0, .int .u8 0, .int .u8 0, .int .u8 0, .int .u8 0, .int .u8 0, .int .u8 0, .int .u8 0, .int .u8 0, .int .u8 0, .int .u8 0, .int .u8 0, .int .u8 0, .int .u8 0, .int .u8 0, .int .u8 0, .int .u8 0, .int .u8 0, .int .u8 0, .int .u8 0, .int .u8 0, .int .u8 0, .int .i64 0, .int .i64 0, .int .u64 0, .int .u64 0, .int .u64 0, .int .u64 0, .int .u64 0, .int .u64 0, .int .u64 0, .int .u64 0, .int .u64 0, .int .u64 0, .int .u64 0, .slice none 0 0, .int .u64 0, .int .i64 0, .string (⟨#[]⟩ : ByteArray), .int .u64 0, .slice none 0 0, .bool false]) (by kernel_rfl) (by kernel_rfl) (by decide) (by decide) (cs := #[.int .u8 x.do_, .int .i64 x.client_, .int .i64 x.who_, .int .i64 x.j_, .int .i64 x.k_, .int .i64 x.n_, .int .u8 x.op_.kind_, .string x.op_.key_, .string x.op_.value_, .string x.op_.old_, .string x.op_.to_, .int .u64 x.op_.amount_, .int .u8 x.body_.kind_, .int .u64 x.body_.view_, .int .u64 x.body_.k_, .int .i64 x.body_.request_.client_, .int .u64 x.body_.request_.time_, .int .u8 x.body_.request_.op_.kind_, .string x.body_.request_.op_.key_, .string x.body_.request_.op_.value_, .string x.body_.request_.op_.old_, .string x.body_.request_.op_.to_, .int .u64 x.body_.request_.op_.amount_, .int .u8 (x.body_.request_.tag_[0]), .int .u8 (x.body_.request_.tag_[1]), .int .u8 (x.body_.request_.tag_[2]), .int .u8 (x.body_.request_.tag_[3]), .int .u8 (x.body_.request_.tag_[4]), .int .u8 (x.body_.request_.tag_[5]), .int .u8 (x.body_.request_.tag_[6]), .int .u8 (x.body_.request_.tag_[7]), .int .u8 (x.body_.request_.tag_[8]), .int .u8 (x.body_.request_.tag_[9]), .int .u8 (x.body_.request_.tag_[10]), .int .u8 (x.body_.request_.tag_[11]), .int .u8 (x.body_.request_.tag_[12]), .int .u8 (x.body_.request_.tag_[13]), .int .u8 (x.body_.request_.tag_[14]), .int .u8 (x.body_.request_.tag_[15]), .int .u8 (x.body_.request_.tag_[16]), .int .u8 (x.body_.request_.tag_[17]), .int .u8 (x.body_.request_.tag_[18]), .int .u8 (x.body_.request_.tag_[19]), .int .u8 (x.body_.request_.tag_[20]), .int .u8 (x.body_.request_.tag_[21]), .int .u8 (x.body_.request_.tag_[22]), .int .u8 (x.body_.request_.tag_[23]), .int .u8 (x.body_.request_.tag_[24]), .int .u8 (x.body_.request_.tag_[25]), .int .u8 (x.body_.request_.tag_[26]), .int .u8 (x.body_.request_.tag_[27]), .int .u8 (x.body_.request_.tag_[28]), .int .u8 (x.body_.request_.tag_[29]), .int .u8 (x.body_.request_.tag_[30]), .int .u8 (x.body_.request_.tag_[31]), .slice x.body_.q_.ad x.body_.q_.n x.body_.q_.c, .int .u8 (x.body_.digest_[0]), .int .u8 (x.body_.digest_[1]), .int .u8 (x.body_.digest_[2]), .int .u8 (x.body_.digest_[3]), .int .u8 (x.body_.digest_[4]), .int .u8 (x.body_.digest_[5]), .int .u8 (x.body_.digest_[6]), .int .u8 (x.body_.digest_[7]), .int .u8 (x.body_.digest_[8]), .int .u8 (x.body_.digest_[9]), .int .u8 (x.body_.digest_[10]), .int .u8 (x.body_.digest_[11]), .int .u8 (x.body_.digest_[12]), .int .u8 (x.body_.digest_[13]), .int .u8 (x.body_.digest_[14]), .int .u8 (x.body_.digest_[15]), .int .u8 (x.body_.digest_[16]), .int .u8 (x.body_.digest_[17]), .int .u8 (x.body_.digest_[18]), .int .u8 (x.body_.digest_[19]), .int .u8 (x.body_.digest_[20]), .int .u8 (x.body_.digest_[21]), .int .u8 (x.body_.digest_[22]), .int .u8 (x.body_.digest_[23]), .int .u8 (x.body_.digest_[24]), .int .u8 (x.body_.digest_[25]), .int .u8 (x.body_.digest_[26]), .int .u8 (x.body_.digest_[27]), .int .u8 (x.body_.digest_[28]), .int .u8 (x.body_.digest_[29]), .int .u8 (x.body_.digest_[30]), .int .u8 (x.body_.digest_[31]), .int .i64 x.packet_.from_, .int .i64 x.packet_.to_, .int .u64 (x.packet_.known_[0]), .int .u64 (x.packet_.known_[1]), .int .u64 (x.packet_.known_[2]), .int .u64 (x.packet_.known_[3]), .int .u64 (x.packet_.known_[4]), .int .u64 (x.packet_.known_[5]), .int .u64 (x.packet_.known_[6]), .int .u64 (x.packet_.known_[7]), .int .u64 (x.packet_.known_[8]), .int .u64 (x.packet_.known_[9]), .int .u64 (x.packet_.known_[10]), .slice mad ms.length mc, .int .u64 x.time_, .int .i64 x.reply_.err_, .string x.reply_.value_, .int .u64 x.at_, .slice x.picks_.ad x.picks_.n x.picks_.c, .bool false]) (by kernel_rfl) hs3 ?_
  intro b4 w5 hs6 hz7
  have hs8 : St W ((Sl (some ⟨b4, 0, none⟩) 1 44 108 (S6V.cells mad ms.length mc) ([(⟨x, false⟩ : S6V)])) :: (Cel b1 (ApV.cells mad ms.length mc x) 41) :: (Base W) :: []) w5 := St.slOf (l := [(⟨x, false⟩ : S6V)]) (f := S6V.cells mad ms.length mc) hs6 hz7 ((s6F mad ms.length mc)).size (by simp only [List.length_cons, List.length_nil, maxLen]; omega) (by kernel_rfl)
  refine ⟨(opn (by kernel_rfl)), ?_⟩
  refine GoR.call rfl rfl (by kernel_rfl) (f := 5) (args := #[.slice (some ⟨b4, 0, none⟩) 1 1, .int .i64 1]) (by kernel_rfl) Tryz.call5 (few26_spec x false ms (by simp only [Small, opSum]; omega) (by simp only [Small, opSum]; omega) (fun w h => h.rows 0 rfl (s6F _ _ _).size _) (fun w h => hm.base (fun k _ => msF.size _) h 2 rfl) hs8) ?_
  rintro v11 w12 ⟨fb10, rfl, hs9⟩
  refine ⟨(opn (by kernel_rfl)), ?_⟩
  refine GoR.phaseK [(4, .gen [])] [12, 2, 1] [] [(12, .bool (!fb10)), (2, .bool false), (1, .pointer (some ⟨b1, 0, none⟩))] (by kernel_rfl) rfl ak0 ?_
  refine GoR.done (GoQ.thn ?_)
  refine GoC.cond (t := !fb10) (by kernel_rfl) (fun h13 => ?_) (fun h13 => ?_)
  · have h13n : fb10 = false := notT h13
    refine GoC.seq ?_
    refine GoC.regT [3, 3] (.ef 0 (.rd 1 .done)) (by kernel_rfl) (by kernel_rfl) ?_
    refine GoR.call rfl rfl (by kernel_rfl) (f := 13) (args := #[]) (by kernel_rfl) Tryz.call13 (woworks_spec (gok_base hW (by simp)) hs9) ?_
    rintro v15 w16 ⟨rfl, hs14⟩
    refine ⟨(opn (by kernel_rfl)), ?_⟩
    refine GoR.phaseK [(1, .gen [])] [2, 1] [] [(2, .bool true), (1, .pointer (some ⟨b1, 0, none⟩))] (by kernel_rfl) rfl ak0 ?_
    refine GoR.done (GoQ.thn (GoC.ret (GoQ.skipCR ?_)))
    refine GoQ.done (.inl rfl) (v := .bool true) (fun a hf => results1 rfl (by kernel_rfl) a hf) ?_
    exact ⟨rfl, hs14.below 2 rfl⟩
  · have h13n : fb10 = true := notF h13
    refine GoC.skip (GoQ.thn ?_)
    have hs17 : St W ((Cel b1 (ApV.cells mad ms.length mc x) 41) :: (Base W) :: []) w12 := hs9.drop 1
    have hA := St.absorbCel (cs := (ApV.cells mad ms.length mc x).toList.map AV.flat) (Ev.St.start hs17) (by rw [vals_flats] <;> simp)
    refine ev_rest2 (X := X_pl) X_pl_ok 100000 4 (fn := Tryz.f4) (t := 2) Tryz.func4 rfl (fun x hx => by revert hx; exact (fun h => h)) rfl (l := [(2, .bool false), (1, .ptr 0 0)]) (m := (⟨.nil, 0⟩ : AM).new (.cells ((ApV.cells mad ms.length mc x).toList.map AV.flat))) (v := .bool true) (r := .bool true) (by kernel_rfl) rfl (gok_base hW (by simp)) (ν := Nu.add (fun _ => none) 0 (b1, 0)) (fun p hp => ?_) hA (fun w' h => ⟨rfl, h.below 0 rfl⟩)
    simp only [List.mem_cons, List.not_mem_nil, or_false] at hp
    rcases hp with rfl | rfl
    · exact ⟨_, rfl, by kernel_rfl⟩
    · exact ⟨_, rfl, by kernel_rfl⟩
end Go.Proofs.YthdggndldnefpaaGreatDoor
