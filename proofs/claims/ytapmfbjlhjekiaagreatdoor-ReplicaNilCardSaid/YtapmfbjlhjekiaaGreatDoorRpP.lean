/-
  Flat structs with slices in them; Few at one step. Conditions: none beside each theorem's own.
-/
import Derived.Test.YtapmfbjlhjekiaaGreatDoorProg
import Derived.Test.YtapmfbjlhjekiaaGreatDoorSxT
namespace Go.Proofs.YtapmfbjlhjekiaaGreatDoor
open Go.RowKit Go.Sx
set_option linter.unusedVariables false
set_option linter.unusedSimpArgs false
set_option linter.unnecessarySimpa false
set_option maxRecDepth 100000
structure SlV where
  ad : Option Addr
  n : Nat
  c : Nat
structure OpV where
  kind_ : Int
  key_ : ByteArray
  value_ : ByteArray
  old_ : ByteArray
  to_ : ByteArray
  amount_ : Int
def OpV.cells (o : OpV) : Array Value := #[.int .u8 o.kind_, .string o.key_, .string o.value_, .string o.old_, .string o.to_, .int .u64 o.amount_]
structure RqV where
  client_ : Int
  time_ : Int
  op_ : OpV
  tag_ : Vector Int 32
def RqV.cells (o : RqV) : Array Value := #[.int .i64 o.client_, .int .u64 o.time_, .int .u8 o.op_.kind_, .string o.op_.key_, .string o.op_.value_, .string o.op_.old_, .string o.op_.to_, .int .u64 o.op_.amount_, .int .u8 (o.tag_[0]), .int .u8 (o.tag_[1]), .int .u8 (o.tag_[2]), .int .u8 (o.tag_[3]), .int .u8 (o.tag_[4]), .int .u8 (o.tag_[5]), .int .u8 (o.tag_[6]), .int .u8 (o.tag_[7]), .int .u8 (o.tag_[8]), .int .u8 (o.tag_[9]), .int .u8 (o.tag_[10]), .int .u8 (o.tag_[11]), .int .u8 (o.tag_[12]), .int .u8 (o.tag_[13]), .int .u8 (o.tag_[14]), .int .u8 (o.tag_[15]), .int .u8 (o.tag_[16]), .int .u8 (o.tag_[17]), .int .u8 (o.tag_[18]), .int .u8 (o.tag_[19]), .int .u8 (o.tag_[20]), .int .u8 (o.tag_[21]), .int .u8 (o.tag_[22]), .int .u8 (o.tag_[23]), .int .u8 (o.tag_[24]), .int .u8 (o.tag_[25]), .int .u8 (o.tag_[26]), .int .u8 (o.tag_[27]), .int .u8 (o.tag_[28]), .int .u8 (o.tag_[29]), .int .u8 (o.tag_[30]), .int .u8 (o.tag_[31])]
structure BdV where
  kind_ : Int
  view_ : Int
  k_ : Int
  request_ : RqV
  q_ : SlV
  digest_ : Vector Int 32
def BdV.cells (o : BdV) : Array Value := #[.int .u8 o.kind_, .int .u64 o.view_, .int .u64 o.k_, .int .i64 o.request_.client_, .int .u64 o.request_.time_, .int .u8 o.request_.op_.kind_, .string o.request_.op_.key_, .string o.request_.op_.value_, .string o.request_.op_.old_, .string o.request_.op_.to_, .int .u64 o.request_.op_.amount_, .int .u8 (o.request_.tag_[0]), .int .u8 (o.request_.tag_[1]), .int .u8 (o.request_.tag_[2]), .int .u8 (o.request_.tag_[3]), .int .u8 (o.request_.tag_[4]), .int .u8 (o.request_.tag_[5]), .int .u8 (o.request_.tag_[6]), .int .u8 (o.request_.tag_[7]), .int .u8 (o.request_.tag_[8]), .int .u8 (o.request_.tag_[9]), .int .u8 (o.request_.tag_[10]), .int .u8 (o.request_.tag_[11]), .int .u8 (o.request_.tag_[12]), .int .u8 (o.request_.tag_[13]), .int .u8 (o.request_.tag_[14]), .int .u8 (o.request_.tag_[15]), .int .u8 (o.request_.tag_[16]), .int .u8 (o.request_.tag_[17]), .int .u8 (o.request_.tag_[18]), .int .u8 (o.request_.tag_[19]), .int .u8 (o.request_.tag_[20]), .int .u8 (o.request_.tag_[21]), .int .u8 (o.request_.tag_[22]), .int .u8 (o.request_.tag_[23]), .int .u8 (o.request_.tag_[24]), .int .u8 (o.request_.tag_[25]), .int .u8 (o.request_.tag_[26]), .int .u8 (o.request_.tag_[27]), .int .u8 (o.request_.tag_[28]), .int .u8 (o.request_.tag_[29]), .int .u8 (o.request_.tag_[30]), .int .u8 (o.request_.tag_[31]), .slice o.q_.ad o.q_.n o.q_.c, .int .u8 (o.digest_[0]), .int .u8 (o.digest_[1]), .int .u8 (o.digest_[2]), .int .u8 (o.digest_[3]), .int .u8 (o.digest_[4]), .int .u8 (o.digest_[5]), .int .u8 (o.digest_[6]), .int .u8 (o.digest_[7]), .int .u8 (o.digest_[8]), .int .u8 (o.digest_[9]), .int .u8 (o.digest_[10]), .int .u8 (o.digest_[11]), .int .u8 (o.digest_[12]), .int .u8 (o.digest_[13]), .int .u8 (o.digest_[14]), .int .u8 (o.digest_[15]), .int .u8 (o.digest_[16]), .int .u8 (o.digest_[17]), .int .u8 (o.digest_[18]), .int .u8 (o.digest_[19]), .int .u8 (o.digest_[20]), .int .u8 (o.digest_[21]), .int .u8 (o.digest_[22]), .int .u8 (o.digest_[23]), .int .u8 (o.digest_[24]), .int .u8 (o.digest_[25]), .int .u8 (o.digest_[26]), .int .u8 (o.digest_[27]), .int .u8 (o.digest_[28]), .int .u8 (o.digest_[29]), .int .u8 (o.digest_[30]), .int .u8 (o.digest_[31])]
structure MsV where
  origin_ : Int
  number_ : Int
  deps_ : Vector Int 11
  body_ : BdV
  tag_ : Vector Int 32
def MsV.cells (o : MsV) : Array Value := #[.int .i64 o.origin_, .int .u64 o.number_, .int .u64 (o.deps_[0]), .int .u64 (o.deps_[1]), .int .u64 (o.deps_[2]), .int .u64 (o.deps_[3]), .int .u64 (o.deps_[4]), .int .u64 (o.deps_[5]), .int .u64 (o.deps_[6]), .int .u64 (o.deps_[7]), .int .u64 (o.deps_[8]), .int .u64 (o.deps_[9]), .int .u64 (o.deps_[10]), .int .u8 o.body_.kind_, .int .u64 o.body_.view_, .int .u64 o.body_.k_, .int .i64 o.body_.request_.client_, .int .u64 o.body_.request_.time_, .int .u8 o.body_.request_.op_.kind_, .string o.body_.request_.op_.key_, .string o.body_.request_.op_.value_, .string o.body_.request_.op_.old_, .string o.body_.request_.op_.to_, .int .u64 o.body_.request_.op_.amount_, .int .u8 (o.body_.request_.tag_[0]), .int .u8 (o.body_.request_.tag_[1]), .int .u8 (o.body_.request_.tag_[2]), .int .u8 (o.body_.request_.tag_[3]), .int .u8 (o.body_.request_.tag_[4]), .int .u8 (o.body_.request_.tag_[5]), .int .u8 (o.body_.request_.tag_[6]), .int .u8 (o.body_.request_.tag_[7]), .int .u8 (o.body_.request_.tag_[8]), .int .u8 (o.body_.request_.tag_[9]), .int .u8 (o.body_.request_.tag_[10]), .int .u8 (o.body_.request_.tag_[11]), .int .u8 (o.body_.request_.tag_[12]), .int .u8 (o.body_.request_.tag_[13]), .int .u8 (o.body_.request_.tag_[14]), .int .u8 (o.body_.request_.tag_[15]), .int .u8 (o.body_.request_.tag_[16]), .int .u8 (o.body_.request_.tag_[17]), .int .u8 (o.body_.request_.tag_[18]), .int .u8 (o.body_.request_.tag_[19]), .int .u8 (o.body_.request_.tag_[20]), .int .u8 (o.body_.request_.tag_[21]), .int .u8 (o.body_.request_.tag_[22]), .int .u8 (o.body_.request_.tag_[23]), .int .u8 (o.body_.request_.tag_[24]), .int .u8 (o.body_.request_.tag_[25]), .int .u8 (o.body_.request_.tag_[26]), .int .u8 (o.body_.request_.tag_[27]), .int .u8 (o.body_.request_.tag_[28]), .int .u8 (o.body_.request_.tag_[29]), .int .u8 (o.body_.request_.tag_[30]), .int .u8 (o.body_.request_.tag_[31]), .slice o.body_.q_.ad o.body_.q_.n o.body_.q_.c, .int .u8 (o.body_.digest_[0]), .int .u8 (o.body_.digest_[1]), .int .u8 (o.body_.digest_[2]), .int .u8 (o.body_.digest_[3]), .int .u8 (o.body_.digest_[4]), .int .u8 (o.body_.digest_[5]), .int .u8 (o.body_.digest_[6]), .int .u8 (o.body_.digest_[7]), .int .u8 (o.body_.digest_[8]), .int .u8 (o.body_.digest_[9]), .int .u8 (o.body_.digest_[10]), .int .u8 (o.body_.digest_[11]), .int .u8 (o.body_.digest_[12]), .int .u8 (o.body_.digest_[13]), .int .u8 (o.body_.digest_[14]), .int .u8 (o.body_.digest_[15]), .int .u8 (o.body_.digest_[16]), .int .u8 (o.body_.digest_[17]), .int .u8 (o.body_.digest_[18]), .int .u8 (o.body_.digest_[19]), .int .u8 (o.body_.digest_[20]), .int .u8 (o.body_.digest_[21]), .int .u8 (o.body_.digest_[22]), .int .u8 (o.body_.digest_[23]), .int .u8 (o.body_.digest_[24]), .int .u8 (o.body_.digest_[25]), .int .u8 (o.body_.digest_[26]), .int .u8 (o.body_.digest_[27]), .int .u8 (o.body_.digest_[28]), .int .u8 (o.body_.digest_[29]), .int .u8 (o.body_.digest_[30]), .int .u8 (o.body_.digest_[31]), .int .u8 (o.tag_[0]), .int .u8 (o.tag_[1]), .int .u8 (o.tag_[2]), .int .u8 (o.tag_[3]), .int .u8 (o.tag_[4]), .int .u8 (o.tag_[5]), .int .u8 (o.tag_[6]), .int .u8 (o.tag_[7]), .int .u8 (o.tag_[8]), .int .u8 (o.tag_[9]), .int .u8 (o.tag_[10]), .int .u8 (o.tag_[11]), .int .u8 (o.tag_[12]), .int .u8 (o.tag_[13]), .int .u8 (o.tag_[14]), .int .u8 (o.tag_[15]), .int .u8 (o.tag_[16]), .int .u8 (o.tag_[17]), .int .u8 (o.tag_[18]), .int .u8 (o.tag_[19]), .int .u8 (o.tag_[20]), .int .u8 (o.tag_[21]), .int .u8 (o.tag_[22]), .int .u8 (o.tag_[23]), .int .u8 (o.tag_[24]), .int .u8 (o.tag_[25]), .int .u8 (o.tag_[26]), .int .u8 (o.tag_[27]), .int .u8 (o.tag_[28]), .int .u8 (o.tag_[29]), .int .u8 (o.tag_[30]), .int .u8 (o.tag_[31])]
structure PkV where
  from_ : Int
  to_ : Int
  known_ : Vector Int 11
def PkV.cells (mad : Option Addr) (mn mc : Nat) (o : PkV) : Array Value := #[.int .i64 o.from_, .int .i64 o.to_, .int .u64 (o.known_[0]), .int .u64 (o.known_[1]), .int .u64 (o.known_[2]), .int .u64 (o.known_[3]), .int .u64 (o.known_[4]), .int .u64 (o.known_[5]), .int .u64 (o.known_[6]), .int .u64 (o.known_[7]), .int .u64 (o.known_[8]), .int .u64 (o.known_[9]), .int .u64 (o.known_[10]), .slice mad mn mc]
structure R2V where
  do_ : Int
  who_ : Int
  client_ : Int
  time_ : Int
  key_ : Int
  pick_ : Int
  stay_ : Bool
  body_ : BdV
  p_ : PkV
  pass_ : Int
def R2V.cells (mad : Option Addr) (mn mc : Nat) (o : R2V) : Array Value := #[.int .u8 o.do_, .int .u8 o.who_, .int .u8 o.client_, .int .u8 o.time_, .int .u8 o.key_, .int .u8 o.pick_, .bool o.stay_, .int .u8 o.body_.kind_, .int .u64 o.body_.view_, .int .u64 o.body_.k_, .int .i64 o.body_.request_.client_, .int .u64 o.body_.request_.time_, .int .u8 o.body_.request_.op_.kind_, .string o.body_.request_.op_.key_, .string o.body_.request_.op_.value_, .string o.body_.request_.op_.old_, .string o.body_.request_.op_.to_, .int .u64 o.body_.request_.op_.amount_, .int .u8 (o.body_.request_.tag_[0]), .int .u8 (o.body_.request_.tag_[1]), .int .u8 (o.body_.request_.tag_[2]), .int .u8 (o.body_.request_.tag_[3]), .int .u8 (o.body_.request_.tag_[4]), .int .u8 (o.body_.request_.tag_[5]), .int .u8 (o.body_.request_.tag_[6]), .int .u8 (o.body_.request_.tag_[7]), .int .u8 (o.body_.request_.tag_[8]), .int .u8 (o.body_.request_.tag_[9]), .int .u8 (o.body_.request_.tag_[10]), .int .u8 (o.body_.request_.tag_[11]), .int .u8 (o.body_.request_.tag_[12]), .int .u8 (o.body_.request_.tag_[13]), .int .u8 (o.body_.request_.tag_[14]), .int .u8 (o.body_.request_.tag_[15]), .int .u8 (o.body_.request_.tag_[16]), .int .u8 (o.body_.request_.tag_[17]), .int .u8 (o.body_.request_.tag_[18]), .int .u8 (o.body_.request_.tag_[19]), .int .u8 (o.body_.request_.tag_[20]), .int .u8 (o.body_.request_.tag_[21]), .int .u8 (o.body_.request_.tag_[22]), .int .u8 (o.body_.request_.tag_[23]), .int .u8 (o.body_.request_.tag_[24]), .int .u8 (o.body_.request_.tag_[25]), .int .u8 (o.body_.request_.tag_[26]), .int .u8 (o.body_.request_.tag_[27]), .int .u8 (o.body_.request_.tag_[28]), .int .u8 (o.body_.request_.tag_[29]), .int .u8 (o.body_.request_.tag_[30]), .int .u8 (o.body_.request_.tag_[31]), .slice o.body_.q_.ad o.body_.q_.n o.body_.q_.c, .int .u8 (o.body_.digest_[0]), .int .u8 (o.body_.digest_[1]), .int .u8 (o.body_.digest_[2]), .int .u8 (o.body_.digest_[3]), .int .u8 (o.body_.digest_[4]), .int .u8 (o.body_.digest_[5]), .int .u8 (o.body_.digest_[6]), .int .u8 (o.body_.digest_[7]), .int .u8 (o.body_.digest_[8]), .int .u8 (o.body_.digest_[9]), .int .u8 (o.body_.digest_[10]), .int .u8 (o.body_.digest_[11]), .int .u8 (o.body_.digest_[12]), .int .u8 (o.body_.digest_[13]), .int .u8 (o.body_.digest_[14]), .int .u8 (o.body_.digest_[15]), .int .u8 (o.body_.digest_[16]), .int .u8 (o.body_.digest_[17]), .int .u8 (o.body_.digest_[18]), .int .u8 (o.body_.digest_[19]), .int .u8 (o.body_.digest_[20]), .int .u8 (o.body_.digest_[21]), .int .u8 (o.body_.digest_[22]), .int .u8 (o.body_.digest_[23]), .int .u8 (o.body_.digest_[24]), .int .u8 (o.body_.digest_[25]), .int .u8 (o.body_.digest_[26]), .int .u8 (o.body_.digest_[27]), .int .u8 (o.body_.digest_[28]), .int .u8 (o.body_.digest_[29]), .int .u8 (o.body_.digest_[30]), .int .u8 (o.body_.digest_[31]), .int .i64 o.p_.from_, .int .i64 o.p_.to_, .int .u64 (o.p_.known_[0]), .int .u64 (o.p_.known_[1]), .int .u64 (o.p_.known_[2]), .int .u64 (o.p_.known_[3]), .int .u64 (o.p_.known_[4]), .int .u64 (o.p_.known_[5]), .int .u64 (o.p_.known_[6]), .int .u64 (o.p_.known_[7]), .int .u64 (o.p_.known_[8]), .int .u64 (o.p_.known_[9]), .int .u64 (o.p_.known_[10]), .slice mad mn mc, .int .u8 o.pass_]
abbrev dMs : MsV := ⟨0, 0, #v[0, 0, 0, 0, 0, 0, 0, 0, 0, 0, 0], ⟨0, 0, 0, ⟨0, 0, ⟨0, ⟨#[]⟩, ⟨#[]⟩, ⟨#[]⟩, ⟨#[]⟩, 0⟩, #v[0, 0, 0, 0, 0, 0, 0, 0, 0, 0, 0, 0, 0, 0, 0, 0, 0, 0, 0, 0, 0, 0, 0, 0, 0, 0, 0, 0, 0, 0, 0, 0]⟩, ⟨none, 0, 0⟩, #v[0, 0, 0, 0, 0, 0, 0, 0, 0, 0, 0, 0, 0, 0, 0, 0, 0, 0, 0, 0, 0, 0, 0, 0, 0, 0, 0, 0, 0, 0, 0, 0]⟩, #v[0, 0, 0, 0, 0, 0, 0, 0, 0, 0, 0, 0, 0, 0, 0, 0, 0, 0, 0, 0, 0, 0, 0, 0, 0, 0, 0, 0, 0, 0, 0, 0]⟩
abbrev dR2 : R2V := ⟨0, 0, 0, 0, 0, 0, false, ⟨0, 0, 0, ⟨0, 0, ⟨0, ⟨#[]⟩, ⟨#[]⟩, ⟨#[]⟩, ⟨#[]⟩, 0⟩, #v[0, 0, 0, 0, 0, 0, 0, 0, 0, 0, 0, 0, 0, 0, 0, 0, 0, 0, 0, 0, 0, 0, 0, 0, 0, 0, 0, 0, 0, 0, 0, 0]⟩, ⟨none, 0, 0⟩, #v[0, 0, 0, 0, 0, 0, 0, 0, 0, 0, 0, 0, 0, 0, 0, 0, 0, 0, 0, 0, 0, 0, 0, 0, 0, 0, 0, 0, 0, 0, 0, 0]⟩, ⟨0, 0, #v[0, 0, 0, 0, 0, 0, 0, 0, 0, 0, 0]⟩, 0⟩
theorem msF : CellF MsV.cells 121 := ⟨fun _ => rfl, fun _ => rfl⟩
theorem r2F (mad : Option Addr) (mn mc : Nat) : CellF (R2V.cells mad mn mc) 98 := ⟨fun _ => rfl, fun _ => rfl⟩
theorem mssOK : ElemOK Tryz.prog 33 53 121 344 := ⟨by kernel_rfl, ⟨Tryz.t53, .agg #[.int .i64 0, .int .u64 0, .int .u64 0, .int .u64 0, .int .u64 0, .int .u64 0, .int .u64 0, .int .u64 0, .int .u64 0, .int .u64 0, .int .u64 0, .int .u64 0, .int .u64 0, .int .u8 0, .int .u64 0, .int .u64 0, .int .i64 0, .int .u64 0, .int .u8 0, .string ⟨#[]⟩, .string ⟨#[]⟩, .string ⟨#[]⟩, .string ⟨#[]⟩, .int .u64 0, .int .u8 0, .int .u8 0, .int .u8 0, .int .u8 0, .int .u8 0, .int .u8 0, .int .u8 0, .int .u8 0, .int .u8 0, .int .u8 0, .int .u8 0, .int .u8 0, .int .u8 0, .int .u8 0, .int .u8 0, .int .u8 0, .int .u8 0, .int .u8 0, .int .u8 0, .int .u8 0, .int .u8 0, .int .u8 0, .int .u8 0, .int .u8 0, .int .u8 0, .int .u8 0, .int .u8 0, .int .u8 0, .int .u8 0, .int .u8 0, .int .u8 0, .int .u8 0, .slice none 0 0, .int .u8 0, .int .u8 0, .int .u8 0, .int .u8 0, .int .u8 0, .int .u8 0, .int .u8 0, .int .u8 0, .int .u8 0, .int .u8 0, .int .u8 0, .int .u8 0, .int .u8 0, .int .u8 0, .int .u8 0, .int .u8 0, .int .u8 0, .int .u8 0, .int .u8 0, .int .u8 0, .int .u8 0, .int .u8 0, .int .u8 0, .int .u8 0, .int .u8 0, .int .u8 0, .int .u8 0, .int .u8 0, .int .u8 0, .int .u8 0, .int .u8 0, .int .u8 0, .int .u8 0, .int .u8 0, .int .u8 0, .int .u8 0, .int .u8 0, .int .u8 0, .int .u8 0, .int .u8 0, .int .u8 0, .int .u8 0, .int .u8 0, .int .u8 0, .int .u8 0, .int .u8 0, .int .u8 0, .int .u8 0, .int .u8 0, .int .u8 0, .int .u8 0, .int .u8 0, .int .u8 0, .int .u8 0, .int .u8 0, .int .u8 0, .int .u8 0, .int .u8 0, .int .u8 0, .int .u8 0, .int .u8 0, .int .u8 0, .int .u8 0, .int .u8 0], by kernel_rfl, by kernel_rfl, by kernel_rfl, by kernel_rfl, by kernel_rfl⟩, by decide⟩
theorem r2sOK : ElemOK Tryz.prog 39 37 98 352 := ⟨by kernel_rfl, ⟨Tryz.t37, .agg #[.int .u8 0, .int .u8 0, .int .u8 0, .int .u8 0, .int .u8 0, .int .u8 0, .bool false, .int .u8 0, .int .u64 0, .int .u64 0, .int .i64 0, .int .u64 0, .int .u8 0, .string ⟨#[]⟩, .string ⟨#[]⟩, .string ⟨#[]⟩, .string ⟨#[]⟩, .int .u64 0, .int .u8 0, .int .u8 0, .int .u8 0, .int .u8 0, .int .u8 0, .int .u8 0, .int .u8 0, .int .u8 0, .int .u8 0, .int .u8 0, .int .u8 0, .int .u8 0, .int .u8 0, .int .u8 0, .int .u8 0, .int .u8 0, .int .u8 0, .int .u8 0, .int .u8 0, .int .u8 0, .int .u8 0, .int .u8 0, .int .u8 0, .int .u8 0, .int .u8 0, .int .u8 0, .int .u8 0, .int .u8 0, .int .u8 0, .int .u8 0, .int .u8 0, .int .u8 0, .slice none 0 0, .int .u8 0, .int .u8 0, .int .u8 0, .int .u8 0, .int .u8 0, .int .u8 0, .int .u8 0, .int .u8 0, .int .u8 0, .int .u8 0, .int .u8 0, .int .u8 0, .int .u8 0, .int .u8 0, .int .u8 0, .int .u8 0, .int .u8 0, .int .u8 0, .int .u8 0, .int .u8 0, .int .u8 0, .int .u8 0, .int .u8 0, .int .u8 0, .int .u8 0, .int .u8 0, .int .u8 0, .int .u8 0, .int .u8 0, .int .u8 0, .int .u8 0, .int .u8 0, .int .i64 0, .int .i64 0, .int .u64 0, .int .u64 0, .int .u64 0, .int .u64 0, .int .u64 0, .int .u64 0, .int .u64 0, .int .u64 0, .int .u64 0, .int .u64 0, .int .u64 0, .slice none 0 0, .int .u8 0], by kernel_rfl, by kernel_rfl, by kernel_rfl, by kernel_rfl, by kernel_rfl⟩, by decide⟩
set_option maxHeartbeats 4000000 in
theorem few22_spec {w0 w : World} {L : List Asn} {ad mad : Option Addr} {c mc : Nat} (x : R2V) (most : Int) (ms : List MsV) (hr : ∀ w, St w0 L w → RowsAt w ad 1 98 (fun k => R2V.cells mad ms.length mc ([x].getD k dR2))) (hm : ∀ w, St w0 L w → RowsAt w mad ms.length 121 (fun k => MsV.cells (ms.getD k dMs))) (hs : St w0 L w) : Calls Tryz.prog 4 #[.slice ad 1 c, .int .i64 most] w (Ret fun rv w' => ∃ b : Bool, rv = .bool b ∧ St w0 L w') := by
  refine enter (args := [.slice ad 1 c, .int .i64 most]) Tryz.func4 rfl Tryz.ntmps4 (Nat.le_of_ble_eq_true (by kernel_rfl)) ?_
  refine GoC.slots (S' := [(0, .slice ad 1 c), (1, .int .i64 most)]) rfl ?_
  refine GoC.seq ?_
  refine GoC.regT [1] (.rd 0 .done) (by kernel_rfl) (by kernel_rfl) ?_
  refine GoR.phaseK [(0, .gen [])] [4, 0, 1] [] [(4, .bool false), (0, .slice ad 1 c), (1, .int .i64 most)] (by kernel_rfl) rfl ak0 ?_
  refine GoR.done (GoQ.thn (GoC.seq (GoC.seq ?_)))
  refine GoC.regT [15, 15, 15, 15] (.rd 0 (.rd 1 (.rd 2 (.rd 3 .done)))) (by kernel_rfl) (by kernel_rfl) ?_
  refine GoR.phaseK [(0, .gen []), (1, .gen []), (2, .gen []), (3, .gen [])] [10, 4, 0] [] [(10, .bool (decide (((1 : Nat) : Int) > most))), (4, .bool false), (0, .slice ad 1 c)] (by kernel_rfl) rfl ak0 ?_
  refine GoR.done (GoQ.thn ?_)
  refine GoC.cond (t := decide (((1 : Nat) : Int) > most)) (by kernel_rfl) (fun h1 => ?_) (fun h1 => ?_)
  · have h1' : ((1 : Nat) : Int) > most := of_decide_eq_true h1
    refine GoC.seq ?_
    refine GoC.regT [1] (.rd 0 .done) (by kernel_rfl) (by kernel_rfl) ?_
    refine GoR.phaseK [(0, .gen [])] [4, 0] [] [(4, .bool false), (0, .slice ad 1 c)] (by kernel_rfl) rfl ak0 ?_
    refine GoR.done (GoQ.thn (GoC.ret (GoQ.skipCR ?_)))
    refine GoQ.done (.inl rfl) (v := .bool false) (fun a hf => results1 rfl (by kernel_rfl) a hf) ?_
    exact ⟨_, rfl, hs.drop 0⟩
  · have h1' : ¬ (((1 : Nat) : Int) > most) := of_decide_eq_false h1
    refine GoC.skip (GoQ.thn (GoC.seq (GoC.seq ?_)))
    refine GoC.regT [1] (.rd 0 .done) (by kernel_rfl) (by kernel_rfl) ?_
    refine GoR.phaseK [(0, .gen [])] [5, 4, 0] [] [(5, .int .i64 0), (4, .bool false), (0, .slice ad 1 c)] (by kernel_rfl) rfl ak0 ?_
    refine GoR.done (GoQ.thn (GoC.block ?_))
    refine GoC.loop (T := Nat) (fun g => [(0, .slice ad 1 c), (5, .int .i64 (g : Nat))]) (fun g w => (g ≤ 1) ∧ St w0 (L) w) (fun g => 1 - g) (0) [0, 5] (by kernel_rfl) ⟨Nat.zero_le _, hs⟩ ?_
    rintro g w2 ⟨hp, hs3⟩
    refine GoC.slots (S' := [(0, .slice ad 1 c), (5, .int .i64 (g : Nat))]) rfl ?_
    refine GoC.seq (GoC.seq ?_)
    refine GoC.regT [15, 15, 15, 15] (.rd 0 (.rd 1 (.rd 2 (.rd 3 .done)))) (by kernel_rfl) (by kernel_rfl) ?_
    refine GoR.phaseK [(0, .gen []), (1, .gen []), (2, .gen []), (3, .gen [])] [14, 0, 5] [] [(14, .bool (decide (((g : Nat) : Int) < (1 : Nat)))), (0, .slice ad 1 c), (5, .int .i64 (g : Nat))] (by kernel_rfl) rfl ak0 ?_
    refine GoR.done (GoQ.thn ?_)
    refine GoC.cond (t := decide (((g : Nat) : Int) < (1 : Nat))) (by kernel_rfl) (fun h4 => ?_) (fun h4 => ?_)
    · have h4' : ((g : Nat) : Int) < (1 : Nat) := of_decide_eq_true h4
      have hk : g = 0 := by omega
      obtain ⟨bb, bo, rfl⟩ := RowsAt.isSome (hr _ (hs3.drop 0)) (by omega)
      refine GoC.skip (GoQ.thn (GoC.seq (GoC.block (GoC.seq (GoC.seq ?_)))))
      refine GoC.join (T := Unit) (E := fun _ => [(34, .bool ((decide (((ms.length : Nat) : Int) > 20)) || (decide (((((([x]).getD g dR2).body_).q_.n : Nat) : Int) > 20)))), (0, .slice (some ⟨bb, bo, none⟩) 1 c), (5, .int .i64 (g : Nat))]) (F := fun _ w => St w0 (L) w) ?_ ?_
      · refine GoC.regT [262143, 262143, 262143, 262143, 262143, 262143, 262143, 262143, 262143, 262143, 262143, 262143, 262143, 262143, 262143, 262143, 262143, 262143] (.rd 0 (.rd 1 (.rd 2 (.rd 3 (.rd 4 (.rd 5 (.rd 6 (.rd 7 (.rd 8 (.rd 9 (.rd 10 (.rd 11 (.rd 12 (.rd 13 (.rd 14 (.rd 15 (.rd 16 (.rd 17 .done)))))))))))))))))) (by kernel_rfl) (by kernel_rfl) ?_
        refine GoR.phaseK [(0, .gen []), (1, .gen []), (2, .as_ (.pointer (some ⟨bb, bo + (g * 98), none⟩)) .at_), (3, .gen []), (4, .gen []), (5, .gen [.slice mad ms.length mc]), (6, .gen []), (7, .gen []), (8, .gen [])] [25, 0, 5] [(2, [.prop (0 ≤ ((g : Nat) : Int) ∧ ((g : Nat) : Int) < (1 : Int)), .prop (Value.pointer (some (Addr.add ⟨bb, bo, none⟩ (Int.toNat (g : Nat) * 98))) = Value.pointer (some ⟨bb, bo + (g * 98), none⟩))]), (5, [.cell ⟨bb, bo + (g * 98) + 83 + 13, none⟩ (.slice mad ms.length mc)])] [(25, .bool (decide (((ms.length : Nat) : Int) > 20))), (0, .slice (some ⟨bb, bo, none⟩) 1 c), (5, .int .i64 (g : Nat))] (by kernel_rfl) rfl (ak (okp (by omega) (okp (ptrAdd _ _ _) ok0)) (ak (okc (RowsAt.at0 (hr _ (hs3.drop 0)) (k := g) (by first | omega | (simp only [List.length_set]; omega) | (simp only [List.length_set, List.length_append, List.length_cons, List.length_nil]; omega)) (j := 96) (by decide) (by kernel_rfl)) ok0) ak0)) ?_
        rcases Bool.eq_false_or_eq_true (decide (((ms.length : Nat) : Int) > 20)) with h5 | h5
        · refine GoR.setB 25 true (by decide) (by kernel_rfl) h5 ?_
          have h5' : ((ms.length : Nat) : Int) > 20 := of_decide_eq_true h5
          refine GoR.phaseK [(9, .gen []), (10, .gen []), (11, .gen []), (12, .gen []), (13, .gen []), (14, .gen []), (15, .gen []), (16, .gen []), (17, .gen [])] [34, 0, 5] [] [(34, .bool true), (0, .slice (some ⟨bb, bo, none⟩) 1 c), (5, .int .i64 (g : Nat))] (by kernel_rfl) rfl ak0 ?_
          refine GoR.done ?_
          refine GoQ.pick [34, 0, 5] (S' := [(34, .bool true), (0, .slice (some ⟨bb, bo, none⟩) 1 c), (5, .int .i64 (g : Nat))]) (by kernel_rfl) ?_
          exact GoQ.meet1 () (by first | rfl | (simp only [h5, Bool.not_true, Bool.not_false, Bool.true_or, Bool.false_or, Bool.true_and, Bool.false_and, Bool.or_true, Bool.or_false, Bool.and_true, Bool.and_false]; done) | (simp [h5]; done)) hs3
        · refine GoR.setB 25 false (by decide) (by kernel_rfl) h5 ?_
          have h5' : ¬ (((ms.length : Nat) : Int) > 20) := of_decide_eq_false h5
          refine GoR.phaseK [(9, .gen []), (10, .gen []), (11, .as_ (.pointer (some ⟨bb, bo + (g * 98), none⟩)) .at_), (12, .gen []), (13, .gen []), (14, .gen [.slice (((([x]).getD g dR2).body_).q_.ad) (((([x]).getD g dR2).body_).q_.n) (((([x]).getD g dR2).body_).q_.c)]), (15, .gen []), (16, .gen []), (17, .gen [])] [34, 0, 5] [(11, [.prop (0 ≤ ((g : Nat) : Int) ∧ ((g : Nat) : Int) < (1 : Int)), .prop (Value.pointer (some (Addr.add ⟨bb, bo, none⟩ (Int.toNat (g : Nat) * 98))) = Value.pointer (some ⟨bb, bo + (g * 98), none⟩))]), (14, [.cell ⟨bb, bo + (g * 98) + 7 + 43, none⟩ (.slice (((([x]).getD g dR2).body_).q_.ad) (((([x]).getD g dR2).body_).q_.n) (((([x]).getD g dR2).body_).q_.c))])] [(34, .bool (decide (((((([x]).getD g dR2).body_).q_.n : Nat) : Int) > 20))), (0, .slice (some ⟨bb, bo, none⟩) 1 c), (5, .int .i64 (g : Nat))] (by kernel_rfl) rfl (ak (okp (by omega) (okp (ptrAdd _ _ _) ok0)) (ak (okc (RowsAt.at0 (hr _ (hs3.drop 0)) (k := g) (by first | omega | (simp only [List.length_set]; omega) | (simp only [List.length_set, List.length_append, List.length_cons, List.length_nil]; omega)) (j := 50) (by decide) (by kernel_rfl)) ok0) ak0)) ?_
          refine GoR.done ?_
          refine GoQ.pick [34, 0, 5] (S' := [(34, .bool (decide (((((([x]).getD g dR2).body_).q_.n : Nat) : Int) > 20))), (0, .slice (some ⟨bb, bo, none⟩) 1 c), (5, .int .i64 (g : Nat))]) (by kernel_rfl) ?_
          exact GoQ.meet1 () (by first | rfl | (simp only [h5, Bool.not_true, Bool.not_false, Bool.true_or, Bool.false_or, Bool.true_and, Bool.false_and, Bool.or_true, Bool.or_false, Bool.and_true, Bool.and_false]; done) | (simp [h5]; done)) hs3
      intro _ w6 hs7
      refine GoQ.thn ?_
      refine GoC.cond (t := (decide (((ms.length : Nat) : Int) > 20)) || (decide (((((([x]).getD g dR2).body_).q_.n : Nat) : Int) > 20))) (by kernel_rfl) (fun h8 => ?_) (fun h8 => ?_)
      · refine GoC.seq ?_
        refine GoC.regT [1] (.rd 0 .done) (by kernel_rfl) (by kernel_rfl) ?_
        refine GoR.phaseK [(0, .gen [])] [4, 0, 5] [] [(4, .bool false), (0, .slice (some ⟨bb, bo, none⟩) 1 c), (5, .int .i64 (g : Nat))] (by kernel_rfl) rfl ak0 ?_
        refine GoR.done (GoQ.thn (GoC.ret (GoQ.skipCR (GoQ.blkR (GoQ.skipCR (GoQ.skipLR (GoQ.blkR (GoQ.skipCR ?_))))))))
        refine GoQ.done (.inl rfl) (v := .bool false) (fun a hf => results1 rfl (by kernel_rfl) a hf) ?_
        exact ⟨_, rfl, hs7.drop 0⟩
      · have h8a : (decide (((ms.length : Nat) : Int) > 20)) = false := (Bool.or_eq_false_iff.1 h8).1
        have h8a' : ¬ (((ms.length : Nat) : Int) > 20) := of_decide_eq_false h8a
        have h8b : (decide (((((([x]).getD g dR2).body_).q_.n : Nat) : Int) > 20)) = false := (Bool.or_eq_false_iff.1 h8).2
        have h8b' : ¬ (((((([x]).getD g dR2).body_).q_.n : Nat) : Int) > 20) := of_decide_eq_false h8b
        refine GoC.skip (GoQ.thn (GoC.seq ?_))
        refine GoC.regT [1] (.rd 0 .done) (by kernel_rfl) (by kernel_rfl) ?_
        refine GoR.phaseK [(0, .gen [])] [6, 0, 5] [] [(6, .int .i64 0), (0, .slice (some ⟨bb, bo, none⟩) 1 c), (5, .int .i64 (g : Nat))] (by kernel_rfl) rfl ak0 ?_
        refine GoR.done (GoQ.thn (GoC.block ?_))
        refine GoC.loop (T := Nat) (fun j => [(0, .slice (some ⟨bb, bo, none⟩) 1 c), (5, .int .i64 (g : Nat)), (6, .int .i64 (j : Nat))]) (fun j w => (j ≤ ms.length) ∧ St w0 (L) w) (fun j => ms.length - j) (0) [0, 5, 6] (by kernel_rfl) ⟨Nat.zero_le _, hs7⟩ ?_
        rintro j w9 ⟨hj, hs10⟩
        refine GoC.slots (S' := [(0, .slice (some ⟨bb, bo, none⟩) 1 c), (5, .int .i64 (g : Nat)), (6, .int .i64 (j : Nat))]) rfl ?_
        refine GoC.seq (GoC.seq ?_)
        refine GoC.regT [511, 511, 511, 511, 511, 511, 511, 511, 511] (.rd 0 (.rd 1 (.rd 2 (.rd 3 (.rd 4 (.rd 5 (.rd 6 (.rd 7 (.rd 8 .done))))))))) (by kernel_rfl) (by kernel_rfl) ?_
        refine GoR.phaseK [(0, .gen []), (1, .gen []), (2, .gen []), (3, .as_ (.pointer (some ⟨bb, bo + (g * 98), none⟩)) .at_), (4, .gen []), (5, .gen []), (6, .gen [.slice mad ms.length mc]), (7, .gen []), (8, .gen [])] [43, 0, 5, 6] [(3, [.prop (0 ≤ ((g : Nat) : Int) ∧ ((g : Nat) : Int) < (1 : Int)), .prop (Value.pointer (some (Addr.add ⟨bb, bo, none⟩ (Int.toNat (g : Nat) * 98))) = Value.pointer (some ⟨bb, bo + (g * 98), none⟩))]), (6, [.cell ⟨bb, bo + (g * 98) + 83 + 13, none⟩ (.slice mad ms.length mc)])] [(43, .bool (decide (((j : Nat) : Int) < (ms.length : Nat)))), (0, .slice (some ⟨bb, bo, none⟩) 1 c), (5, .int .i64 (g : Nat)), (6, .int .i64 (j : Nat))] (by kernel_rfl) rfl (ak (okp (by omega) (okp (ptrAdd _ _ _) ok0)) (ak (okc (RowsAt.at0 (hr _ (hs10.drop 0)) (k := g) (by first | omega | (simp only [List.length_set]; omega) | (simp only [List.length_set, List.length_append, List.length_cons, List.length_nil]; omega)) (j := 96) (by decide) (by kernel_rfl)) ok0) ak0)) ?_
        refine GoR.done (GoQ.thn ?_)
        refine GoC.cond (t := decide (((j : Nat) : Int) < (ms.length : Nat))) (by kernel_rfl) (fun h11 => ?_) (fun h11 => ?_)
        · have h11' : ((j : Nat) : Int) < (ms.length : Nat) := of_decide_eq_true h11
          have hjl : j < ms.length := by omega
          obtain ⟨ab, ao, rfl⟩ := RowsAt.isSome (hm _ (hs10.drop 0)) (by omega)
          refine GoC.skip (GoQ.thn (GoC.seq (GoC.block (GoC.seq ?_))))
          refine GoC.regT [8191, 8191, 8191, 8191, 8191, 8191, 8191, 8191, 8191, 8191, 8191, 8191, 8191] (.rd 0 (.rd 1 (.rd 2 (.rd 3 (.rd 4 (.rd 5 (.rd 6 (.rd 7 (.rd 8 (.rd 9 (.rd 10 (.rd 11 (.rd 12 .done))))))))))))) (by kernel_rfl) (by kernel_rfl) ?_
          refine GoR.phaseK [(0, .gen []), (1, .gen []), (2, .as_ (.pointer (some ⟨bb, bo + (g * 98), none⟩)) .at_), (3, .gen []), (4, .gen []), (5, .gen [.slice (some ⟨ab, ao, none⟩) ms.length mc]), (6, .gen []), (7, .as_ (.pointer (some ⟨ab, ao + (j * 121), none⟩)) .at_), (8, .gen []), (9, .gen []), (10, .gen [.slice (((ms.getD j dMs).body_).q_.ad) (((ms.getD j dMs).body_).q_.n) (((ms.getD j dMs).body_).q_.c)]), (11, .gen []), (12, .gen [])] [58, 0, 5, 6] [(2, [.prop (0 ≤ ((g : Nat) : Int) ∧ ((g : Nat) : Int) < (1 : Int)), .prop (Value.pointer (some (Addr.add ⟨bb, bo, none⟩ (Int.toNat (g : Nat) * 98))) = Value.pointer (some ⟨bb, bo + (g * 98), none⟩))]), (5, [.cell ⟨bb, bo + (g * 98) + 83 + 13, none⟩ (.slice (some ⟨ab, ao, none⟩) ms.length mc)]), (7, [.prop (0 ≤ ((j : Nat) : Int) ∧ ((j : Nat) : Int) < ((ms.length : Nat) : Int)), .prop (Value.pointer (some (Addr.add ⟨ab, ao, none⟩ (Int.toNat (j : Nat) * 121))) = Value.pointer (some ⟨ab, ao + (j * 121), none⟩))]), (10, [.cell ⟨ab, ao + (j * 121) + 13 + 43, none⟩ (.slice (((ms.getD j dMs).body_).q_.ad) (((ms.getD j dMs).body_).q_.n) (((ms.getD j dMs).body_).q_.c))])] [(58, .bool (decide (((((ms.getD j dMs).body_).q_.n : Nat) : Int) > 20))), (0, .slice (some ⟨bb, bo, none⟩) 1 c), (5, .int .i64 (g : Nat)), (6, .int .i64 (j : Nat))] (by kernel_rfl) rfl (ak (okp (by omega) (okp (ptrAdd _ _ _) ok0)) (ak (okc (RowsAt.at0 (hr _ (hs10.drop 0)) (k := g) (by first | omega | (simp only [List.length_set]; omega) | (simp only [List.length_set, List.length_append, List.length_cons, List.length_nil]; omega)) (j := 96) (by decide) (by kernel_rfl)) ok0) (ak (okp (by omega) (okp (ptrAdd _ _ _) ok0)) (ak (okc (RowsAt.at0 (hm _ (hs10.drop 0)) (k := j) (by first | omega | (simp only [List.length_set]; omega) | (simp only [List.length_set, List.length_append, List.length_cons, List.length_nil]; omega)) (j := 56) (by decide) (by kernel_rfl)) ok0) ak0)))) ?_
          refine GoR.done (GoQ.thn ?_)
          refine GoC.cond (t := decide (((((ms.getD j dMs).body_).q_.n : Nat) : Int) > 20)) (by kernel_rfl) (fun h12 => ?_) (fun h12 => ?_)
          · have h12' : ((((ms.getD j dMs).body_).q_.n : Nat) : Int) > 20 := of_decide_eq_true h12
            refine GoC.seq ?_
            refine GoC.regT [1] (.rd 0 .done) (by kernel_rfl) (by kernel_rfl) ?_
            refine GoR.phaseK [(0, .gen [])] [4, 0, 5, 6] [] [(4, .bool false), (0, .slice (some ⟨bb, bo, none⟩) 1 c), (5, .int .i64 (g : Nat)), (6, .int .i64 (j : Nat))] (by kernel_rfl) rfl ak0 ?_
            refine GoR.done (GoQ.thn (GoC.ret (GoQ.blkR (GoQ.skipCR (GoQ.skipLR (GoQ.blkR (GoQ.blkR (GoQ.skipCR (GoQ.skipLR (GoQ.blkR (GoQ.skipCR ?_)))))))))))
            refine GoQ.done (.inl rfl) (v := .bool false) (fun a hf => results1 rfl (by kernel_rfl) a hf) ?_
            exact ⟨_, rfl, hs10.drop 0⟩
          · have h12' : ¬ (((((ms.getD j dMs).body_).q_.n : Nat) : Int) > 20) := of_decide_eq_false h12
            refine GoC.skip (GoQ.blkN (GoQ.thn ?_))
            refine GoC.regT [7, 7, 7] (.rd 0 (.rd 1 (.rd 2 .done))) (by kernel_rfl) (by kernel_rfl) ?_
            refine GoR.phaseK [(0, .gen []), (1, .as_ (.int .i64 ((j : Nat) + 1)) (.gen [])), (2, .gen [])] [6, 0, 5] [(1, [.prop (Value.int .i64 (IntKind.i64.wrap ((j : Nat) + 1)) = Value.int .i64 ((j : Nat) + 1))])] [(6, .int .i64 ((j : Nat) + 1)), (0, .slice (some ⟨bb, bo, none⟩) 1 c), (5, .int .i64 (g : Nat))] (by kernel_rfl) rfl (ak (okp (i64ok (by omega) (by omega)) ok0) ak0) ?_
            refine GoR.done ?_
            exact GoQ.back (j + 1) [0, 5, 6] (by kernel_rfl) (by omega) ⟨(by omega), hs10⟩
        · have h11' : ¬ (((j : Nat) : Int) < (ms.length : Nat)) := of_decide_eq_false h11
          refine GoC.exit (GoQ.skipC (GoQ.skipL (GoQ.hit (GoQ.blkN (GoQ.thn ?_)))))
          refine GoC.regT [7, 7, 7] (.rd 0 (.rd 1 (.rd 2 .done))) (by kernel_rfl) (by kernel_rfl) ?_
          refine GoR.phaseK [(0, .gen []), (1, .as_ (.int .i64 ((g : Nat) + 1)) (.gen [])), (2, .gen [])] [5, 0] [(1, [.prop (Value.int .i64 (IntKind.i64.wrap ((g : Nat) + 1)) = Value.int .i64 ((g : Nat) + 1))])] [(5, .int .i64 ((g : Nat) + 1)), (0, .slice (some ⟨bb, bo, none⟩) 1 c)] (by kernel_rfl) rfl (ak (okp (i64ok (by omega) (by omega)) ok0) ak0) ?_
          refine GoR.done ?_
          exact GoQ.back (g + 1) [0, 5] (by kernel_rfl) (by omega) ⟨(by omega), hs10⟩
    · have h4' : ¬ (((g : Nat) : Int) < (1 : Nat)) := of_decide_eq_false h4
      refine GoC.exit (GoQ.skipC (GoQ.skipL (GoQ.hit (GoQ.thn (GoC.seq ?_)))))
      refine GoC.regT [1] (.rd 0 .done) (by kernel_rfl) (by kernel_rfl) ?_
      refine GoR.phaseK [(0, .gen [])] [4] [] [(4, .bool true)] (by kernel_rfl) rfl ak0 ?_
      refine GoR.done (GoQ.thn (GoC.ret ?_))
      refine GoQ.done (.inl rfl) (v := .bool true) (fun a hf => results1 rfl (by kernel_rfl) a hf) ?_
      exact ⟨_, rfl, hs3.drop 0⟩
end Go.Proofs.YtapmfbjlhjekiaaGreatDoor
