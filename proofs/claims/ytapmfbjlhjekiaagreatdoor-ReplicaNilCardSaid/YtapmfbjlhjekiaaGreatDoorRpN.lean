/-
  ReplicaNil is true, whatever step comes: the walk. Conditions: what ratchet/sha.table holds.
-/
import Derived.Test.YtapmfbjlhjekiaaGreatDoorRpW
import Derived.Test.YtapmfbjlhjekiaaGreatDoorRpP
import Derived.Test.YtapmfbjlhjekiaaGreatDoorRfE
import Derived.Test.YtapmfbjlhjekiaaGreatDoorEvZ
namespace Go.Proofs.YtapmfbjlhjekiaaGreatDoor
open Go.RowKit Go.Sx Go.Ev
set_option linter.unusedVariables false
set_option linter.unusedSimpArgs false
set_option linter.unnecessarySimpa false
set_option maxRecDepth 100000
theorem ask_nil {w0 w : World} {L : List Asn} (r : QrV) (hs : St w0 (L) w) : Calls Tryz.prog 6 #[.pointer none, .agg (QrV.cells r)] w (Ret fun rv w' => rv = .tuple #[.agg #[.int .i64 0, .int .u64 0, .int .i64 0, .string (⟨#[]⟩ : ByteArray), .int .u64 0], .bool false] ∧ St w0 (L) w') := by
  refine enter (args := [.pointer none, .agg (QrV.cells r)]) Tryz.func6 rfl Tryz.ntmps6 (Nat.le_of_ble_eq_true (by kernel_rfl)) ?_
  refine GoC.slots (S' := [(0, .pointer none), (1, .agg (QrV.cells r))]) rfl ?_
  refine GoC.seq ?_
  refine GoC.regT [7, 7, 7] (.ef 0 (.ef 1 (.rd 2 .done))) (by kernel_rfl) (by kernel_rfl) ?_
  refine GoR.box rfl rfl (by kernel_rfl) (v := .agg (QrV.cells r)) (by kernel_rfl) hs (cs := QrV.cells r) (by kernel_rfl) ?_
  intro b1 w2 hs3
  refine ⟨(opn (by kernel_rfl)), ?_⟩
  refine GoR.alloc rfl rfl (by kernel_rfl) (z := .agg #[.int .i64 0, .int .u64 0, .int .i64 0, .string (⟨#[]⟩ : ByteArray), .int .u64 0]) (by kernel_rfl) hs3 (cs := #[.int .i64 0, .int .u64 0, .int .i64 0, .string (⟨#[]⟩ : ByteArray), .int .u64 0]) (by kernel_rfl) ?_
  intro b4 w5 hs6
  refine ⟨(opn (by kernel_rfl)), ?_⟩
  refine GoR.phaseK [(2, .gen [])] [5, 4, 3, 0] [] [(5, .bool false), (4, .pointer (some ⟨b4, 0, none⟩)), (3, .pointer (some ⟨b1, 0, none⟩)), (0, .pointer none)] (by kernel_rfl) rfl ak0 ?_
  refine GoR.done (GoQ.thn (GoC.seq (GoC.seq ?_)))
  refine GoC.regT [3, 3] (.rd 0 (.rd 1 .done)) (by kernel_rfl) (by kernel_rfl) ?_
  refine GoR.phaseK [(0, .gen []), (1, .gen [])] [8, 5, 4, 3, 0] [] [(8, .bool true), (5, .bool false), (4, .pointer (some ⟨b4, 0, none⟩)), (3, .pointer (some ⟨b1, 0, none⟩)), (0, .pointer none)] (by kernel_rfl) rfl ak0 ?_
  refine GoR.done (GoQ.thn (GoC.condT (by kernel_rfl) (GoC.seq ?_)))
  refine GoC.regT [7, 7, 7] (.rd 0 (.ef 1 (.rd 2 .done))) (by kernel_rfl) (by kernel_rfl) ?_
  refine GoR.phaseK [(0, .agg #[.int .i64 0, .int .u64 0, .int .i64 0, .string (⟨#[]⟩ : ByteArray), .int .u64 0])] [9, 5, 4, 3, 0] [(0, [.prop (Array.size (#[.int .i64 0, .int .u64 0, .int .i64 0, .string (⟨#[]⟩ : ByteArray), .int .u64 0] : Array Value) = 5), .cells ⟨b4, 0, none⟩ #[.int .i64 0, .int .u64 0, .int .i64 0, .string (⟨#[]⟩ : ByteArray), .int .u64 0]])] [(9, .agg #[.int .i64 0, .int .u64 0, .int .i64 0, .string (⟨#[]⟩ : ByteArray), .int .u64 0]), (5, .bool false), (4, .pointer (some ⟨b4, 0, none⟩)), (3, .pointer (some ⟨b1, 0, none⟩)), (0, .pointer none)] (by kernel_rfl) rfl (ak (okp (by kernel_rfl) (oka (hs6.cells 0 0 rfl (by kernel_rfl)) ok0)) ak0) ?_
  refine GoR.store rfl rfl (by kernel_rfl) (b := b4) (off := 0) (v := .agg #[.int .i64 0, .int .u64 0, .int .i64 0, .string (⟨#[]⟩ : ByteArray), .int .u64 0]) (by kernel_rfl) (by kernel_rfl) (ti := Tryz.t46) (by kernel_rfl) hs6 0 rfl (by kernel_rfl) (by kernel_rfl) (Nat.le_of_ble_eq_true (by kernel_rfl)) (cs' := #[.int .i64 0, .int .u64 0, .int .i64 0, .string (⟨#[]⟩ : ByteArray), .int .u64 0]) (L' := (Cel b4 #[.int .i64 0, .int .u64 0, .int .i64 0, .string (⟨#[]⟩ : ByteArray), .int .u64 0] 46) :: (Cel b1 (QrV.cells r) 27) :: L) (by kernel_rfl) rfl ?_
  intro w7 hs8
  refine ⟨(opn (by kernel_rfl)), ?_⟩
  refine GoR.phaseK [(2, .gen [])] [5, 4, 3, 0] [] [(5, .bool false), (4, .pointer (some ⟨b4, 0, none⟩)), (3, .pointer (some ⟨b1, 0, none⟩)), (0, .pointer none)] (by kernel_rfl) rfl ak0 ?_
  refine GoR.done (GoQ.thn (GoC.ret (GoQ.skipCR ?_)))
  refine GoQ.done (.inl rfl) (v := .tuple #[.agg #[.int .i64 0, .int .u64 0, .int .i64 0, .string (⟨#[]⟩ : ByteArray), .int .u64 0], .bool false]) (fun a hf => resultsAV rfl (by kernel_rfl) (by kernel_rfl) (ti := Tryz.t46) (by kernel_rfl) (by kernel_rfl) (vs := #[.int .i64 0, .int .u64 0, .int .i64 0, .string (⟨#[]⟩ : ByteArray), .int .u64 0]) (by kernel_rfl) (hs8.cells 0 0 rfl (by kernel_rfl)) a hf) ?_
  have hs9 : St w0 (L) w7 := hs8.drop 2
  exact ⟨rfl, hs9⟩
def X_pl : Specs := fun g => bif Nat.beq g 5 then some (fun avs m => match avs with | [] => some (.bool true, m) | _ => none) else none
theorem X_pl_ok : SpecsOK Tryz.prog tabG X_pl := by
  intro g f h avs m r m' ν vs w w0 L hf hG hv hs
  unfold X_pl at h
  cases hb : Nat.beq g 5 with
  | false => rw [hb] at h; cases h
  | true =>
    rw [hb] at h
    have := Nat.eq_of_beq_eq_true hb
    subst this
    simp only [cond_true, Option.some.injEq] at h
    subst h
    simp only at hf
    split at hf
    · simp only [Option.some.injEq, Prod.mk.injEq] at hf
      obtain ⟨rfl, rfl⟩ := hf
      simp only [vals, Option.some.injEq] at hv
      subst hv
      refine Calls.ret (rpworks_spec (hG.frame _) hs) ?_
      rintro v w' ⟨rfl, h2⟩
      exact ⟨ν, Nu.le_refl ν, rfl, h2⟩
    · cases hf
/-- The rest of a body, by the reckoner. -/
theorem ev_rest2 {X : Specs} (hX : SpecsOK Tryz.prog tabG X) (n : Nat) (f : FuncId) {fn : Func} {φ : Value → World → Prop} {N t : Nat} {c b : Code} (hfn : Tryz.prog.funcs[f]? = some fn) (hb : fn.body = some b) (hd : ∀ x ∈ draws c, x ∈ draws b) (hr : fn.results = #[.tmp t]) {l : List (Nat × AV)} {m : AM} {v : Value} {r : AV}
    (h : (match exec Tryz.prog tabG plans X n f N c (envA l) m with
      | some (.ret, S', _) => S'.get t
      | _ => none) = some r) (hv : r.val (fun _ => none) = some v) {S : Env} {ν : Nu} {w w0 : World} {L : List Asn} (hG : GOK tabG w0 L) (hl : ∀ p ∈ l, ∃ v, p.2.val ν = some v ∧ S.get p.1 = some v) (hs : St w0 (Mem ν m :: L) w)
    (hk : ∀ w', St w0 L w' → φ v w') (hnr : noRF c = true := by kernel_rfl) : GoC Tryz.prog (bodyPost Tryz.prog fn (Ret φ)) N [] c S w := by
  intro a hf
  split at h
  · rename_i S' m' he
    have hdd : OKd plans f c := fun x hx => hpl f fn b hfn hb x (hd x hx)
    have hwp := (wpIn_wide (n := 0)).1 (exec_soundO hX hpl mix he hnr hdd hG (fits_envA hf l hl) hs)
    refine wp_mono hwp fun e' a' w' hq => ?_
    obtain ⟨rfl, ν', k1, k2, k3⟩ := hq
    obtain ⟨u, h1, h2⟩ := k2.at_ t r h
    have h3 : u = v := by
      have := AV.val_mono (ν := fun _ => none) (ν' := ν') (fun id p hp => by cases hp) r hv
      rw [this] at h1
      exact (Option.some.inj h1).symm
    subst h3
    exact ⟨k2.defers, u, by rw [results_tmp hr, h2], hk w' k3.tail⟩
  · cases h
theorem vals_flats (ν : Nu) : ∀ l : List Value, vals ν (l.map AV.flat) = some l
  | [] => rfl
  | v :: l => vals_cons_mk rfl (vals_flats ν l)
set_option maxHeartbeats 4000000 in
theorem rpNil_walk (W : World) (hW : Glob tabG W) {mad : Option Addr} {mc : Nat} (x : R2V) (ms : List MsV) (hz : x.body_.request_.op_.key_.size ≤ 140737488351232) (hclient_0 : 0 ≤ x.client_ ∧ x.client_ ≤ 255) (htime_0 : 0 ≤ x.time_ ∧ x.time_ ≤ 255) (hkey_0 : 0 ≤ x.key_ ∧ x.key_ ≤ 255) (hm : RowsAt W mad ms.length 121 (fun k => MsV.cells (ms.getD k dMs))) : Calls Tryz.prog 3 #[.agg (R2V.cells mad ms.length mc x)] W (Ret fun rv w' => rv = .bool true ∧ Below W.heap.size W w') := by
  refine enter (args := [.agg (R2V.cells mad ms.length mc x)]) Tryz.func3 rfl Tryz.ntmps3 (Nat.le_of_ble_eq_true (by kernel_rfl)) ?_
  refine GoC.slots (S' := [(0, .agg (R2V.cells mad ms.length mc x))]) rfl ?_
  refine GoC.seq ?_
  refine GoC.regT [3, 3] (.ef 0 (.rd 1 .done)) (by kernel_rfl) (by kernel_rfl) ?_
  refine GoR.box rfl rfl (by kernel_rfl) (v := .agg (R2V.cells mad ms.length mc x)) (by kernel_rfl) (St.start W) (cs := R2V.cells mad ms.length mc x) (by kernel_rfl) ?_
  intro b1 w2 hs3
  refine ⟨(opn (by kernel_rfl)), ?_⟩
  refine GoR.phaseK [(1, .gen [])] [2, 1] [] [(2, .bool false), (1, .pointer (some ⟨b1, 0, none⟩))] (by kernel_rfl) rfl ak0 ?_
  refine GoR.done (GoQ.thn (GoC.seq (GoC.seq ?_)))
  refine GoC.regT [15, 15, 15, 15] (.rd 0 (.ef 1 (.ef 2 (.rd 3 .done)))) (by kernel_rfl) (by kernel_rfl) ?_
  refine GoR.phaseK [(0, .agg (R2V.cells mad ms.length mc x))] [14, 2, 1] [(0, [.prop (Array.size (R2V.cells mad ms.length mc x) = 98), .cells ⟨b1, 0, none⟩ (R2V.cells mad ms.length mc x)])] [(14, .agg (R2V.cells mad ms.length mc x)), (2, .bool false), (1, .pointer (some ⟨b1, 0, none⟩))] (by kernel_rfl) rfl (ak (okp (by kernel_rfl) (oka (hs3.cells 0 0 rfl (by kernel_rfl)) ok0)) ak0) ?_
  refine GoR.sliceLit rfl (by kernel_rfl) (t := 39) (e := 37) (n := 1) (ps := [(0, .agg (R2V.cells mad ms.length mc x))]) (by kernel_rfl) (by kernel_rfl) (ti := Tryz.t37) (z := .agg #[.int .u8 0, .int .u8 0, .int .u8 0, .int .u8 0, .int .u8 0, .int .u8 0, .bool false, .int .u8 0, .int .u64 0, .int .u64 0, .int .i64 0, .int .u64 0, .int .u8 0, .string (⟨#[]⟩ : ByteArray), .string (⟨#[]⟩ : ByteArray), .string (⟨#[]⟩ : ByteArray), .string (⟨#[]⟩ : ByteArray), .int .u64 0, .int .u8 0, .int .u8 0, .int .u8 0, .int .u8 0, .int .u8 0, .int .u8 0, .int .u8 0, .int .u8 0, .int .u8 0, .int .u8 0, .int .u8 0, .int .u8 0, .int .u8 0, .int .u8 0, .int .u8 0, .int .u8 0, .int .u8 0, .int .u8 0, .int .u8 0, .int .u8 0, .int .u8 0, .int .u8 0, .int .u8 0, .int .u8 0, .int .u8 0, .int .u8 0, .int .u8 0, .int .u8 0, .int .u8 0, .int .u8 0, .int .u8 0, .int .u8 0, .slice none 0 0, .int .u8 0, .int .u8 0, .int .u8 0, .int .u8 0, .int .u8 0, .int .u8 0, .int .u8 0, .int .u8 0, .int .u8 0, .int .u8 0, .int .u8 0, .int .u8 0, .int .u8 0, .int .u8 0, .int .u8 0, .int .u8 0, .int .u8 0, .int .u8 0, .int .u8 0, .int .u8 0, .int .u8 0, .int .u8 0, .int .u8 0, .int .u8 0, .int .u8 0, .int .u8 0, .int .u8 0, .int .u8 0, .int .u8 0, .int .u8 0, .int .u8 0, .int .u8 0, .int .i64 0, .int .i64 0, .int .u64 0, .int .u64 0, .int .u64 0, .int .u64 0, .int .u64 0, .int .u64 0, .int .u64 0, .int .u64 0, .int .u64 0, .int .u64 0, .int .u64 0, .slice none 0 0, .int .u8 0]) (by kernel_rfl) (by kernel_rfl) (by decide) (by decide) (cs := #[.int .u8 x.do_, .int .u8 x.who_, .int .u8 x.client_, .int .u8 x.time_, .int .u8 x.key_, .int .u8 x.pick_, .bool x.stay_, .int .u8 x.body_.kind_, .int .u64 x.body_.view_, .int .u64 x.body_.k_, .int .i64 x.body_.request_.client_, .int .u64 x.body_.request_.time_, .int .u8 x.body_.request_.op_.kind_, .string x.body_.request_.op_.key_, .string x.body_.request_.op_.value_, .string x.body_.request_.op_.old_, .string x.body_.request_.op_.to_, .int .u64 x.body_.request_.op_.amount_, .int .u8 (x.body_.request_.tag_[0]), .int .u8 (x.body_.request_.tag_[1]), .int .u8 (x.body_.request_.tag_[2]), .int .u8 (x.body_.request_.tag_[3]), .int .u8 (x.body_.request_.tag_[4]), .int .u8 (x.body_.request_.tag_[5]), .int .u8 (x.body_.request_.tag_[6]), .int .u8 (x.body_.request_.tag_[7]), .int .u8 (x.body_.request_.tag_[8]), .int .u8 (x.body_.request_.tag_[9]), .int .u8 (x.body_.request_.tag_[10]), .int .u8 (x.body_.request_.tag_[11]), .int .u8 (x.body_.request_.tag_[12]), .int .u8 (x.body_.request_.tag_[13]), .int .u8 (x.body_.request_.tag_[14]), .int .u8 (x.body_.request_.tag_[15]), .int .u8 (x.body_.request_.tag_[16]), .int .u8 (x.body_.request_.tag_[17]), .int .u8 (x.body_.request_.tag_[18]), .int .u8 (x.body_.request_.tag_[19]), .int .u8 (x.body_.request_.tag_[20]), .int .u8 (x.body_.request_.tag_[21]), .int .u8 (x.body_.request_.tag_[22]), .int .u8 (x.body_.request_.tag_[23]), .int .u8 (x.body_.request_.tag_[24]), .int .u8 (x.body_.request_.tag_[25]), .int .u8 (x.body_.request_.tag_[26]), .int .u8 (x.body_.request_.tag_[27]), .int .u8 (x.body_.request_.tag_[28]), .int .u8 (x.body_.request_.tag_[29]), .int .u8 (x.body_.request_.tag_[30]), .int .u8 (x.body_.request_.tag_[31]), .slice x.body_.q_.ad x.body_.q_.n x.body_.q_.c, .int .u8 (x.body_.digest_[0]), .int .u8 (x.body_.digest_[1]), .int .u8 (x.body_.digest_[2]), .int .u8 (x.body_.digest_[3]), .int .u8 (x.body_.digest_[4]), .int .u8 (x.body_.digest_[5]), .int .u8 (x.body_.digest_[6]), .int .u8 (x.body_.digest_[7]), .int .u8 (x.body_.digest_[8]), .int .u8 (x.body_.digest_[9]), .int .u8 (x.body_.digest_[10]), .int .u8 (x.body_.digest_[11]), .int .u8 (x.body_.digest_[12]), .int .u8 (x.body_.digest_[13]), .int .u8 (x.body_.digest_[14]), .int .u8 (x.body_.digest_[15]), .int .u8 (x.body_.digest_[16]), .int .u8 (x.body_.digest_[17]), .int .u8 (x.body_.digest_[18]), .int .u8 (x.body_.digest_[19]), .int .u8 (x.body_.digest_[20]), .int .u8 (x.body_.digest_[21]), .int .u8 (x.body_.digest_[22]), .int .u8 (x.body_.digest_[23]), .int .u8 (x.body_.digest_[24]), .int .u8 (x.body_.digest_[25]), .int .u8 (x.body_.digest_[26]), .int .u8 (x.body_.digest_[27]), .int .u8 (x.body_.digest_[28]), .int .u8 (x.body_.digest_[29]), .int .u8 (x.body_.digest_[30]), .int .u8 (x.body_.digest_[31]), .int .i64 x.p_.from_, .int .i64 x.p_.to_, .int .u64 (x.p_.known_[0]), .int .u64 (x.p_.known_[1]), .int .u64 (x.p_.known_[2]), .int .u64 (x.p_.known_[3]), .int .u64 (x.p_.known_[4]), .int .u64 (x.p_.known_[5]), .int .u64 (x.p_.known_[6]), .int .u64 (x.p_.known_[7]), .int .u64 (x.p_.known_[8]), .int .u64 (x.p_.known_[9]), .int .u64 (x.p_.known_[10]), .slice mad ms.length mc, .int .u8 x.pass_]) (by kernel_rfl) hs3 ?_
  intro b4 w5 hs6 hz7
  have hs8 : St W ((Sl (some ⟨b4, 0, none⟩) 1 37 98 (R2V.cells mad ms.length mc) ([(x : R2V)])) :: (Cel b1 (R2V.cells mad ms.length mc x) 37) :: (Base W) :: []) w5 := St.slOf (l := [(x : R2V)]) (f := R2V.cells mad ms.length mc) hs6 hz7 ((r2F mad ms.length mc)).size (by simp only [List.length_cons, List.length_nil, maxLen]; omega) (by kernel_rfl)
  refine ⟨(opn (by kernel_rfl)), ?_⟩
  refine GoR.call rfl rfl (by kernel_rfl) (f := 4) (args := #[.slice (some ⟨b4, 0, none⟩) 1 1, .int .i64 1]) (by kernel_rfl) Tryz.call4 (few22_spec (x : R2V) 1 ms (fun w h => h.rows 0 rfl (r2F _ _ _).size _) (fun w h => hm.base (fun k _ => msF.size _) h 2 rfl) hs8) ?_
  rintro v11 w12 ⟨fb10, rfl, hs9⟩
  refine ⟨(opn (by kernel_rfl)), ?_⟩
  refine GoR.phaseK [(3, .gen [])] [17, 2, 1] [] [(17, .bool (!fb10)), (2, .bool false), (1, .pointer (some ⟨b1, 0, none⟩))] (by kernel_rfl) rfl ak0 ?_
  refine GoR.done (GoQ.thn ?_)
  refine GoC.cond (t := !fb10) (by kernel_rfl) (fun h13 => ?_) (fun h13 => ?_)
  · have h13n : fb10 = false := notT h13
    refine GoC.seq ?_
    refine GoC.regT [3, 3] (.ef 0 (.rd 1 .done)) (by kernel_rfl) (by kernel_rfl) ?_
    refine GoR.call rfl rfl (by kernel_rfl) (f := 5) (args := #[]) (by kernel_rfl) Tryz.call5 (rpworks_spec (gok_base hW (by simp)) hs9) ?_
    rintro v15 w16 ⟨rfl, hs14⟩
    refine ⟨(opn (by kernel_rfl)), ?_⟩
    refine GoR.phaseK [(1, .gen [])] [2, 1] [] [(2, .bool true), (1, .pointer (some ⟨b1, 0, none⟩))] (by kernel_rfl) rfl ak0 ?_
    refine GoR.done (GoQ.thn (GoC.ret (GoQ.skipCR ?_)))
    refine GoQ.done (.inl rfl) (v := .bool true) (fun a hf => results1 rfl (by kernel_rfl) a hf) ?_
    exact ⟨rfl, hs14.below 2 rfl⟩
  · have h13n : fb10 = true := notF h13
    refine GoC.skip (GoQ.thn (GoC.seq ?_))
    refine GoC.regT [1] (.rd 0 .done) (by kernel_rfl) (by kernel_rfl) ?_
    refine GoR.phaseK [(0, .gen [])] [3, 2, 1] [] [(3, .pointer none), (2, .bool false), (1, .pointer (some ⟨b1, 0, none⟩))] (by kernel_rfl) rfl ak0 ?_
    refine GoR.done (GoQ.thn (GoC.seq ?_))
    refine GoC.regT [32767, 32767, 32767, 32767, 32767, 32767, 32767, 32767, 32767, 32767, 32767, 32767, 32767, 32767, 32767] (.rd 0 (.rd 1 (.rd 2 (.rd 3 (.rd 4 (.rd 5 (.rd 6 (.ef 7 (.ef 8 (.rd 9 (.rd 10 (.rd 11 (.ef 12 (.ef 13 (.rd 14 .done))))))))))))))) (by kernel_rfl) (by kernel_rfl) ?_
    refine GoR.phaseK [(0, .gen []), (1, .gen []), (2, .gen [.int .u8 x.client_]), (3, .gen []), (4, .gen [.int .u8 x.time_]), (5, .gen []), (6, .gen [.int .u8 x.key_])] [26, 24, 22, 20, 3, 2, 1] [(2, [.cell ⟨b1, 2, none⟩ (.int .u8 x.client_)]), (4, [.cell ⟨b1, 3, none⟩ (.int .u8 x.time_)]), (6, [.cell ⟨b1, 4, none⟩ (.int .u8 x.key_)])] [(26, .int .u8 x.key_), (24, .int .u8 x.time_), (22, .int .u8 x.client_), (20, .pointer none), (3, .pointer none), (2, .bool false), (1, .pointer (some ⟨b1, 0, none⟩))] (by kernel_rfl) rfl (ak (okc (hs9.cell 1 rfl (by kernel_rfl)) ok0) (ak (okc (hs9.cell 1 rfl (by kernel_rfl)) ok0) (ak (okc (hs9.cell 1 rfl (by kernel_rfl)) ok0) ak0))) ?_
    refine GoR.call rfl rfl (by kernel_rfl) (f := 7) (args := #[.int .u8 x.client_, .int .u8 x.time_, .int .u8 x.key_]) (by kernel_rfl) Tryz.call7 (rrq22_spec x.client_ x.time_ x.key_ (by first | assumption | omega) (by first | assumption | omega) (by first | assumption | omega) hs9) ?_
    rintro v19 w20 ⟨rq17, rfl, hs18⟩
    refine ⟨(opn (by kernel_rfl)), ?_⟩
    refine GoR.call rfl rfl (by kernel_rfl) (f := 6) (args := #[.pointer none, .agg (QrV.cells rq17)]) (by kernel_rfl) Tryz.call6 (ask_nil rq17 hs18) ?_
    rintro v22 w23 ⟨rfl, hs21⟩
    refine ⟨(opn (by kernel_rfl)), ?_⟩
    refine GoR.phaseK [(9, .gen []), (10, .gen []), (11, .gen [])] [30, 29, 3, 2, 1] [] [(30, .bool false), (29, .agg #[.int .i64 0, .int .u64 0, .int .i64 0, .string (⟨#[]⟩ : ByteArray), .int .u64 0]), (3, .pointer none), (2, .bool false), (1, .pointer (some ⟨b1, 0, none⟩))] (by kernel_rfl) rfl ak0 ?_
    refine GoR.alloc rfl rfl (by kernel_rfl) (z := .agg #[.int .i64 0, .int .u64 0, .int .i64 0, .string (⟨#[]⟩ : ByteArray), .int .u64 0]) (by kernel_rfl) hs21 (cs := #[.int .i64 0, .int .u64 0, .int .i64 0, .string (⟨#[]⟩ : ByteArray), .int .u64 0]) (by kernel_rfl) ?_
    intro b24 w25 hs26
    refine ⟨(opn (by kernel_rfl)), ?_⟩
    refine GoR.store rfl rfl (by kernel_rfl) (b := b24) (off := 0) (v := .agg #[.int .i64 0, .int .u64 0, .int .i64 0, .string (⟨#[]⟩ : ByteArray), .int .u64 0]) (by kernel_rfl) (by kernel_rfl) (ti := Tryz.t46) (by kernel_rfl) hs26 0 rfl (by kernel_rfl) (by kernel_rfl) (Nat.le_of_ble_eq_true (by kernel_rfl)) (cs' := #[.int .i64 0, .int .u64 0, .int .i64 0, .string (⟨#[]⟩ : ByteArray), .int .u64 0]) (L' := (Cel b24 #[.int .i64 0, .int .u64 0, .int .i64 0, .string (⟨#[]⟩ : ByteArray), .int .u64 0] 46) :: (Sl (some ⟨b4, 0, none⟩) 1 37 98 (R2V.cells mad ms.length mc) ([(x : R2V)])) :: (Cel b1 (R2V.cells mad ms.length mc x) 37) :: (Base W) :: []) (by kernel_rfl) rfl ?_
    intro w27 hs28
    refine ⟨(opn (by kernel_rfl)), ?_⟩
    refine GoR.phaseK [(14, .gen [])] [5, 3, 2, 1] [] [(5, .bool false), (3, .pointer none), (2, .bool false), (1, .pointer (some ⟨b1, 0, none⟩))] (by kernel_rfl) rfl ak0 ?_
    refine GoR.done (GoQ.thn ?_)
    have hs29 : St W ((Cel b1 (R2V.cells mad ms.length mc x) 37) :: (Base W) :: []) w27 := hs28.drop 2
    have hA := St.absorbCel (cs := (R2V.cells mad ms.length mc x).toList.map AV.flat) (Ev.St.start hs29) (by rw [vals_flats] <;> simp)
    refine ev_rest2 (X := X_pl) X_pl_ok 100000 3 (fn := Tryz.f3) (t := 2) Tryz.func3 rfl (fun x hx => by revert hx; exact (fun h => h)) rfl (l := [(5, .bool false), (3, .flat (.pointer none)), (2, .bool false), (1, .ptr 0 0)]) (m := (⟨.nil, 0⟩ : AM).new (.cells ((R2V.cells mad ms.length mc x).toList.map AV.flat))) (v := .bool true) (r := .bool true) (by kernel_rfl) rfl (gok_base hW (by simp)) (ν := Nu.add (fun _ => none) 0 (b1, 0)) (fun p hp => ?_) hA (fun w' h => ⟨rfl, h.below 0 rfl⟩)
    simp only [List.mem_cons, List.not_mem_nil, or_false] at hp
    rcases hp with rfl | rfl | rfl | rfl
    · exact ⟨_, rfl, by kernel_rfl⟩
    · exact ⟨_, rfl, by kernel_rfl⟩
    · exact ⟨_, rfl, by kernel_rfl⟩
    · exact ⟨_, rfl, by kernel_rfl⟩
end Go.Proofs.YtapmfbjlhjekiaaGreatDoor
