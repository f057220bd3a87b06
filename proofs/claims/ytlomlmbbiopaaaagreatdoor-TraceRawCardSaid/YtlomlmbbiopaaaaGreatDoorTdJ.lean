/-
  The law, whatever comes. Conditions: what ratchet/sha.table holds.
-/
import Derived.Test.YtlomlmbbiopaaaaGreatDoorSxT
import Derived.Test.YtlomlmbbiopaaaaGreatDoorTrV
import Derived.Test.YtlomlmbbiopaaaaGreatDoorGaE
namespace Go.Proofs.YtlomlmbbiopaaaaGreatDoor
open Go.RowKit Go.Sx Go.Ev
set_option linter.unusedVariables false
set_option linter.unusedSimpArgs false
set_option linter.unnecessarySimpa false
set_option maxRecDepth 100000
theorem traceRaw_walk (W:World) (hW:Glob tabG W){ar al:Option Addr}{cr cl:Nat}(rw:List Int) (hcr:rw.length≤cr) (hrb:Byt rw) (hr1:RowsAt W ar rw.length 1 (fun k=>byteC (rw.getD k (0:Int)))) (ls:List TS6) (hi:∀ y∈ls,StIn W y.s) (hr2:RowsAt W al ls.length 108 (fun k=>TS6.cells (ls.getD k dS6))){n at_ by_ k:Int}(hn:0≤n∧n≤255) (ha:0≤at_∧at_≤65535) :
 Calls Tryz.prog 3 #[.slice ar rw.length cr,.int .u8 n,.slice al ls.length cl,.int .u16 at_,.int .u8 by_,.int .i64 k] W (Ret fun rv w'=>rv=.bool true∧Below W.heap.size W w') :=
 raw_in W (fun M w h=>trworks_spec (gok_base hW (by simp)) h) rw hcr hrb hr1 ls hi hr2 hn ha
end Go.Proofs.YtlomlmbbiopaaaaGreatDoor
