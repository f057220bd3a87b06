/-
  Sx, part L: worlds that grew; bytes into a string. Proved once, for any program. Conditions: none beside each theorem's own.
-/
import Derived.Test.YtnhjlddkmakfbaaDoorSxK
import Derived.Laws.IdiomStrings
namespace Go.Sx
open Go.RowKit
set_option linter.unusedVariables false
set_option linter.unusedSimpArgs false

theorem St.below' {w0 w w' : World} {L : List Asn} (hs : St w0 L w) (h : Below w.heap.size w w') : St w0 L w' :=
  ⟨h.os.trans hs.os, h.tape.trans hs.tape, h.output.trans hs.output, fun B hB => B.loc w w' (fun b hb => h.block b (hs.lt B hB b hb)) (hs.holds B hB), fun B hB b hb => Nat.lt_of_lt_of_le (hs.lt B hB b hb) h.size, hs.apart⟩

/-- what was read from a part stays so while the rest is kept -/
theorem St.refl {w : World} {L : List Asn} {w0 : World} (hs : St w0 L w) : St w0 L w := hs

theorem subArr0 (b off n s h : Nat) (hn : 0 < n) : Value.slice (some (if n = 0 then Addr.mk b off none else (Addr.mk b off none).add (0 * s))) (h - 0) (n - 0) = .slice (some ⟨b, off, none⟩) h n := by
  rw [if_neg (by omega), add_mk]
  simp

section
variable {P : Program} {R0 : Exit → Act → World → Prop} {N : Nat} {Kk : List KItem} {S : Env} {w w0 : World} {l : List Oper} {M : List Nat} {A : Asked} {rest : PT} {L : List Asn}

def cvArgs (S : Env) (o : Oper) : Option (TypeId × TypeId × Value) :=
  match o.op with
  | .convert src dst x => match S.op x with
    | some v => some (src, dst, v)
    | none => none
  | _ => none

def BytesAt (b off : Nat) (l : List UInt8) (w : World) : Prop := ∀ j (hj : j < l.length), w.cell? ⟨b, off + j, none⟩ = some (.int .u8 (l[j].toNat : Int))

/-- string(bytes) -/
theorem GoR.bytesStr {i : Nat} {o : Oper} (ho : l[i]? = some o) (hw : wantE l.toArray S o = some true) {src dst e : TypeId} {b off cap : Nat} {q : List UInt8} (ha : cvArgs S o = some (src, dst, .slice (some ⟨b, off, none⟩) q.length cap)) (h1 : P.underlying src = some (.slice e)) (h2 : P.underlying e = some (.int .u8)) (h3 : P.underlying dst = some .string)
    (hq : BytesAt b off q w) (h : GoR P l M R0 Kk N ((i, [.holds (BytesAt b off q)]) :: A) rest (S.setO o.dst (.string ⟨q.toArray⟩)) w) : GoR P l M R0 Kk N A (.rd i rest) S w := by
  refine GoR.read ho hw [.holds (BytesAt b off q)] _ (fun a w' hf hn => ?_) ⟨hq, trivial⟩ h
  have hb : BytesAt b off q w' := hn.1
  unfold cvArgs at ha
  split at ha
  · rename_i s' d' x' hop
    split at ha
    · rename_i v hv
      simp only [Option.some.injEq, Prod.mk.injEq] at ha
      obtain ⟨rfl, rfl, rfl⟩ := ha
      have hv' := hf.op hv
      generalize a.eval = ρ at hv' ⊢
      have hr := run_convert_bytes_back (P := P) w' s' d' e ⟨b, off, none⟩ cap q h1 h2 h3 (fun j hj => by rw [add_mk]; exact hb j hj)
      simp only [execOp, hop, hv', Sem.run_bind, hr, Result.andThen_ok]
      rfl
    · cases ha
  · cases ha
end
end Go.Sx
