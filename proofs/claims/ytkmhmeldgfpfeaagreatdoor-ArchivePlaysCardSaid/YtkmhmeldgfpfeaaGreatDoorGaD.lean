/-
  Several texts in one: Shelf, LedL, LedC, LedD, LedS, LedE, LedF, LedG, LawP, LawA, SesA, SesB, SesC, SesD, SesE, StaL, RefA, RefB, HisR, LawO, SesO, HisT, SesR, StaA, StaC, StaB, StaV, ArcP.
-/
import Derived.Shelf.Small.Bits
import Derived.Shelf.Small.Strs
import Derived.Shelf.Strconv.Itoa0
import Derived.Shelf.Strconv.Itoa1
import Derived.Shelf.LaysM
import Derived.Shelf.Strconv.Itoa2
import Derived.Shelf.Strconv.Itoa3
import Derived.Ground.MpProg
import Derived.Shelf.Pu.ParseUintPublic10
import Derived.Shelf.Pu.ErrVarParseUint
import Derived.Ground.SlgnProg
import Derived.Shelf.SlicesE.Clone
import Derived.Ground.SlsfProg
import Derived.Shelf.SlSortCmp.InsertionK
import Derived.Shelf.SlSortCmp.SiftDownK
import Derived.Shelf.SlSortCmp.HeapSortK
import Derived.Shelf.SlSortCmp.MedianK
import Derived.Shelf.SlSortCmp.PivotK
import Derived.Shelf.SlSortCmp.ReverseRangeK
import Derived.Shelf.SlSortCmp.PartialInsertionK
import Derived.Shelf.SlSortCmp.PartitionEqualK
import Derived.Shelf.SlSortCmp.PartitionK
import Derived.Shelf.SlSortCmp.PdqK
import Derived.Shelf.SlSortCmp.WholeK
import Derived.Shelf.SlSortCmp.NoneTotal
import Derived.Test.YtkmhmeldgfpfeaaGreatDoorProg
import Derived.Test.YtkmhmeldgfpfeaaGreatDoorSxT
import Derived.Test.YtkmhmeldgfpfeaaGreatDoorGaC
import Derived.Lib.ItoaMem
import Derived.Lib.ParseIntBCases
import Derived.Test.YtkmhmeldgfpfeaaGreatDoorGaA
namespace Go.Proofs
open Go.Shelf
def Tryz.LI:Go.Shelf.Ren:=⟨fun|213=>166|265=>212|n=>n,fun|9=>9|3=>3|n=>n,fun|n=>n⟩
def Tryz.CB:Go.Shelf.Ren:=⟨fun|106=>132|213=>166|265=>212|n=>n,fun|9=>9|3=>3|n=>n,fun|n=>n⟩
theorem Tryz.Kt:Go.Proofs.Lays.n106 Tryz.prog Tryz.CB:={
 mixed:=by kernel_rfl
 f106:=Tryz.func132.trans (congrArg some (by kernel_rfl))
 f213:=Tryz.func166.trans (congrArg some (by kernel_rfl))
 f265:=Tryz.func212.trans (congrArg some (by kernel_rfl))
 t3:=Tryz.underlying3
 a3:=Tryz.isAgg3
 z3:=Tryz.sizeOf3
 v3:=Tryz.zeroValue3
 t9:=Tryz.underlying9
 a9:=Tryz.isAgg9
 z9:=Tryz.sizeOf9
 v9:=Tryz.zeroValue9 }
open Go.RowKit in
theorem Tryz.strings_Compare (a b:ByteArray) (w:World) :
 Calls Tryz.prog 132 #[.string a,.string b] w λe w'=>e=.returned (.int .i64 (Lib.compareBytes a.data.toList b.data.toList))/\w'=w:=Any.strings_Compare Tryz.Kt a b w
def Tryz.CC:Go.Shelf.Ren:=⟨fun|283=>238|n=>n,fun|3=>3|9=>9|4=>4|n=>n,fun|n=>n⟩
theorem Tryz.Ku:Go.Proofs.Lays.n283 Tryz.prog Tryz.CC:={
 mixed:=by kernel_rfl
 f283:=Tryz.func238.trans (congrArg some (by kernel_rfl))
 t3:=Tryz.underlying3
 a3:=Tryz.isAgg3
 z3:=Tryz.sizeOf3
 v3:=Tryz.zeroValue3
 t4:=Tryz.underlying4
 a4:=Tryz.isAgg4
 z4:=Tryz.sizeOf4
 v4:=Tryz.zeroValue4
 t9:=Tryz.underlying9
 a9:=Tryz.isAgg9
 z9:=Tryz.sizeOf9
 v9:=Tryz.zeroValue9 }
open Go.Lib in
theorem Tryz.internal_strconv_small (i:Nat) (h:i<100) (w:World) :
 Calls Tryz.prog 238 #[.int .i64 i] w λe w'=>e=.returned (.string ⟨(Lib.decDigits i).toArray⟩)/\w'=w:=Any.internal_strconv_small Tryz.Ku i h w
def Tryz.A7:Go.Shelf.Ren:=⟨fun|284=>239|129=>211|317=>248|318=>249|n=>n,fun|53=>29|3=>3|212=>290|0=>0|4=>4|46=>145|5=>5|9=>9|n=>n,fun|17=>2|n=>n⟩
theorem Tryz.I0:Go.Proofs.LaysM.n284 Tryz.prog Tryz.A7:={
 mixed:=by kernel_rfl
 f129:=Tryz.func211.trans (congrArg some (by kernel_rfl))
 f284:=Tryz.func239.trans (congrArg some (by kernel_rfl))
 f317:=Tryz.func248.trans (congrArg some (by kernel_rfl))
 f318:=Tryz.func249.trans (congrArg some (by kernel_rfl))
 t0:=Tryz.underlying0
 a0:=Tryz.isAgg0
 z0:=Tryz.sizeOf0
 v0:=Tryz.zeroValue0
 t3:=Tryz.underlying3
 a3:=Tryz.isAgg3
 z3:=Tryz.sizeOf3
 v3:=Tryz.zeroValue3
 t4:=Tryz.underlying4
 a4:=Tryz.isAgg4
 z4:=Tryz.sizeOf4
 v4:=Tryz.zeroValue4
 t5:=Tryz.underlying5
 a5:=Tryz.isAgg5
 z5:=Tryz.sizeOf5
 v5:=Tryz.zeroValue5
 t9:=Tryz.underlying9
 a9:=Tryz.isAgg9
 z9:=Tryz.sizeOf9
 v9:=Tryz.zeroValue9
 t46:=Tryz.underlying145
 a46:=Tryz.isAgg145
 z46:=Tryz.sizeOf145
 v46:=Tryz.zeroValue145
 t53:=Tryz.underlying29
 a53:=Tryz.isAgg29
 z53:=Tryz.sizeOf29
 v53:=Tryz.zeroValue29
 t212:=Tryz.underlying290
 a212:=Tryz.isAgg290
 z212:=Tryz.sizeOf290
 v212:=Tryz.zeroValue290
 g17:=by kernel_rfl
 i0:=by kernel_rfl
 i3:=by kernel_rfl
 i4:=by kernel_rfl
 i5:=by kernel_rfl
 i9:=by kernel_rfl
 i46:=by kernel_rfl
 i53:=by kernel_rfl
 i212:=by kernel_rfl
 m17:=by kernel_rfl }
open Go.Lib in
theorem Tryz.internal_strconv_numDigits (u : Nat) (h1 : 1 ≤ u) (h2 : u < 18446744073709551616) (w : World) (htab : Lib.TabIs Tryz.prog w "internal/strconv.uint64pow10" .u64 Lib.pow10Tab) :
 Calls Tryz.prog 239 #[.int .u64 u] w λe w'=>e=.returned (.int .i64 (Lib.nDigits u))/\w'=w:=Any.internal_strconv_numDigits Tryz.I0 u h1 h2 w htab
def Tryz.CD:Go.Shelf.Ren:=⟨fun|285=>240|n=>n,fun|37=>25|53=>29|3=>3|4=>4|51=>146|9=>9|5=>5|0=>0|n=>n,fun|n=>n⟩
theorem Tryz.Kv:Go.Proofs.Lays.n285 Tryz.prog Tryz.CD:={
 mixed:=by kernel_rfl
 f285:=Tryz.func240.trans (congrArg some (by kernel_rfl))
 t0:=Tryz.underlying0
 a0:=Tryz.isAgg0
 z0:=Tryz.sizeOf0
 v0:=Tryz.zeroValue0
 t3:=Tryz.underlying3
 a3:=Tryz.isAgg3
 z3:=Tryz.sizeOf3
 v3:=Tryz.zeroValue3
 t4:=Tryz.underlying4
 a4:=Tryz.isAgg4
 z4:=Tryz.sizeOf4
 v4:=Tryz.zeroValue4
 t5:=Tryz.underlying5
 a5:=Tryz.isAgg5
 z5:=Tryz.sizeOf5
 v5:=Tryz.zeroValue5
 t9:=Tryz.underlying9
 a9:=Tryz.isAgg9
 z9:=Tryz.sizeOf9
 v9:=Tryz.zeroValue9
 t37:=Tryz.underlying25
 a37:=Tryz.isAgg25
 z37:=Tryz.sizeOf25
 v37:=Tryz.zeroValue25
 t51:=Tryz.underlying146
 a51:=Tryz.isAgg146
 z51:=Tryz.sizeOf146
 v51:=Tryz.zeroValue146
 t53:=Tryz.underlying29
 a53:=Tryz.isAgg29
 z53:=Tryz.sizeOf29
 v53:=Tryz.zeroValue29 }
open Go.RowKit Go.Sort Go.Lib in
theorem Tryz.internal_strconv_formatBase10 (oT off cap:Nat) (u:Nat) (d:Array UInt8) (w:World) (hH:Holds (λ(b:UInt8)=>Value.int .u8 (b.toNat:Int)) w oT off d) (hu:u<10 ^ d.size) (hu64:u<18446744073709551616) (hsz:d.size<4611686018427387904) :
 Calls Tryz.prog 240 #[.slice (some ⟨oT,off,none⟩) d.size cap,.int .u64 u] w λe w' =>
  e=.returned (.tuple #[])/\∃ (n v':Nat) (dk:Array UInt8),w'=(putRow (λ(b:UInt8)=>Value.int .u8 (b.toNat:Int)) w oT off dk).drewN n/\FmtInv d.size u 0 v' dk:=Any.internal_strconv_formatBase10 Tryz.Kv oT off cap u d w hH hu hu64 hsz
def Tryz.A8:Go.Shelf.Ren:=⟨fun|14=>233|16=>236|17=>237|19=>242|20=>243|21=>244|22=>245|23=>246|24=>247|25=>252|27=>254|26=>253|28=>257|29=>258|30=>238|31=>239|32=>240|33=>241|35=>211|34=>248|36=>249|37=>250|38=>251|39=>255|40=>256|n=>n,fun|9=>9|3=>3|22=>29|24=>272|25=>273|4=>4|34=>283|5=>5|36=>145|37=>25|0=>0|39=>285|21=>21|44=>294|47=>296|50=>299|48=>297|2=>2|52=>279|55=>281|59=>290|60=>146|20=>20|61=>291|65=>44|66=>149|67=>165|n=>n,fun|0=>3|1=>4|2=>2|3=>5|4=>6|n=>n⟩
theorem Tryz.wZ:Go.Proofs.LaysPu.n14 Tryz.prog Tryz.A8:={
 mixed:=by kernel_rfl
 f14:=Tryz.func233.trans (congrArg some (by kernel_rfl))
 f16:=Tryz.func236.trans (congrArg some (by kernel_rfl))
 f17:=Tryz.func237.trans (congrArg some (by kernel_rfl))
 f19:=Tryz.func242.trans (congrArg some (by kernel_rfl))
 f20:=Tryz.func243.trans (congrArg some (by kernel_rfl))
 f21:=Tryz.func244.trans (congrArg some (by kernel_rfl))
 f22:=Tryz.func245.trans (congrArg some (by kernel_rfl))
 f23:=Tryz.func246.trans (congrArg some (by kernel_rfl))
 f24:=Tryz.func247.trans (congrArg some (by kernel_rfl))
 f25:=Tryz.func252.trans (congrArg some (by kernel_rfl))
 f26:=Tryz.func253.trans (congrArg some (by kernel_rfl))
 f27:=Tryz.func254.trans (congrArg some (by kernel_rfl))
 f28:=Tryz.func257.trans (congrArg some (by kernel_rfl))
 f29:=Tryz.func258.trans (congrArg some (by kernel_rfl))
 f30:=Tryz.func238.trans (congrArg some (by kernel_rfl))
 f31:=Tryz.func239.trans (congrArg some (by kernel_rfl))
 f32:=Tryz.func240.trans (congrArg some (by kernel_rfl))
 f33:=Tryz.func241.trans (congrArg some (by kernel_rfl))
 f34:=Tryz.func248.trans (congrArg some (by kernel_rfl))
 f35:=Tryz.func211.trans (congrArg some (by kernel_rfl))
 f36:=Tryz.func249.trans (congrArg some (by kernel_rfl))
 f37:=Tryz.func250.trans (congrArg some (by kernel_rfl))
 f38:=Tryz.func251.trans (congrArg some (by kernel_rfl))
 f39:=Tryz.func255.trans (congrArg some (by kernel_rfl))
 f40:=Tryz.func256.trans (congrArg some (by kernel_rfl))
 t0:=Tryz.underlying0
 a0:=Tryz.isAgg0
 z0:=Tryz.sizeOf0
 v0:=Tryz.zeroValue0
 i0:=by kernel_rfl
 t2:=Tryz.underlying2
 a2:=Tryz.isAgg2
 z2:=Tryz.sizeOf2
 v2:=Tryz.zeroValue2
 i2:=by kernel_rfl
 t3:=Tryz.underlying3
 a3:=Tryz.isAgg3
 z3:=Tryz.sizeOf3
 v3:=Tryz.zeroValue3
 i3:=by kernel_rfl
 t4:=Tryz.underlying4
 a4:=Tryz.isAgg4
 z4:=Tryz.sizeOf4
 v4:=Tryz.zeroValue4
 i4:=by kernel_rfl
 t5:=Tryz.underlying5
 a5:=Tryz.isAgg5
 z5:=Tryz.sizeOf5
 v5:=Tryz.zeroValue5
 i5:=by kernel_rfl
 t9:=Tryz.underlying9
 a9:=Tryz.isAgg9
 z9:=Tryz.sizeOf9
 v9:=Tryz.zeroValue9
 i9:=by kernel_rfl
 t20:=Tryz.underlying20
 a20:=Tryz.isAgg20
 z20:=Tryz.sizeOf20
 v20:=Tryz.zeroValue20
 i20:=by kernel_rfl
 t21:=Tryz.underlying21
 a21:=Tryz.isAgg21
 z21:=Tryz.sizeOf21
 v21:=Tryz.zeroValue21
 i21:=by kernel_rfl
 t22:=Tryz.underlying29
 a22:=Tryz.isAgg29
 z22:=Tryz.sizeOf29
 v22:=Tryz.zeroValue29
 i22:=by kernel_rfl
 t24:=Tryz.underlying272
 a24:=Tryz.isAgg272
 z24:=Tryz.sizeOf272
 v24:=Tryz.zeroValue272
 i24:=by kernel_rfl
 t25:=Tryz.underlying273
 a25:=Tryz.isAgg273
 z25:=Tryz.sizeOf273
 v25:=Tryz.zeroValue273
 i25:=by kernel_rfl
 t34:=Tryz.underlying283
 a34:=Tryz.isAgg283
 z34:=Tryz.sizeOf283
 v34:=Tryz.zeroValue283
 i34:=by kernel_rfl
 c34:=by kernel_rfl
 t36:=Tryz.underlying145
 a36:=Tryz.isAgg145
 z36:=Tryz.sizeOf145
 v36:=Tryz.zeroValue145
 i36:=by kernel_rfl
 t37:=Tryz.underlying25
 a37:=Tryz.isAgg25
 z37:=Tryz.sizeOf25
 v37:=Tryz.zeroValue25
 i37:=by kernel_rfl
 t39:=Tryz.underlying285
 a39:=Tryz.isAgg285
 z39:=Tryz.sizeOf285
 v39:=Tryz.zeroValue285
 i39:=by kernel_rfl
 t44:=Tryz.underlying294
 a44:=Tryz.isAgg294
 z44:=Tryz.sizeOf294
 v44:=Tryz.zeroValue294
 i44:=by kernel_rfl
 t47:=Tryz.underlying296
 a47:=Tryz.isAgg296
 z47:=Tryz.sizeOf296
 v47:=Tryz.zeroValue296
 i47:=by kernel_rfl
 t48:=Tryz.underlying297
 a48:=Tryz.isAgg297
 z48:=Tryz.sizeOf297
 v48:=Tryz.zeroValue297
 i48:=by kernel_rfl
 t50:=Tryz.underlying299
 a50:=Tryz.isAgg299
 z50:=Tryz.sizeOf299
 v50:=Tryz.zeroValue299
 i50:=by kernel_rfl
 t52:=Tryz.underlying279
 a52:=Tryz.isAgg279
 z52:=Tryz.sizeOf279
 v52:=Tryz.zeroValue279
 i52:=by kernel_rfl
 t55:=Tryz.underlying281
 a55:=Tryz.isAgg281
 z55:=Tryz.sizeOf281
 v55:=Tryz.zeroValue281
 i55:=by kernel_rfl
 t59:=Tryz.underlying290
 a59:=Tryz.isAgg290
 z59:=Tryz.sizeOf290
 v59:=Tryz.zeroValue290
 i59:=by kernel_rfl
 t60:=Tryz.underlying146
 a60:=Tryz.isAgg146
 z60:=Tryz.sizeOf146
 v60:=Tryz.zeroValue146
 i60:=by kernel_rfl
 t61:=Tryz.underlying291
 a61:=Tryz.isAgg291
 z61:=Tryz.sizeOf291
 t65:=Tryz.underlying44
 a65:=Tryz.isAgg44
 z65:=Tryz.sizeOf44
 v65:=Tryz.zeroValue44
 i65:=by kernel_rfl
 t66:=Tryz.underlying149
 a66:=Tryz.isAgg149
 z66:=Tryz.sizeOf149
 v66:=Tryz.zeroValue149
 i66:=by kernel_rfl
 t67:=Tryz.underlying165
 a67:=Tryz.isAgg165
 z67:=Tryz.sizeOf165
 v67:=Tryz.zeroValue165
 i67:=by kernel_rfl
 g0:=by kernel_rfl
 m0:=by kernel_rfl
 g1:=by kernel_rfl
 m1:=by kernel_rfl
 g2:=by kernel_rfl
 m2:=by kernel_rfl
 g3:=by kernel_rfl
 m3:=by kernel_rfl
 g4:=by kernel_rfl
 m4:=by kernel_rfl }
open Go.RowKit in
theorem Tryz.strconv_ParseUint_10_at64_ok (s:ByteArray) (hmax:s.size<=9223372036854775806) (u:Nat) (h:Lib.parseUintB 64 s.data.toList=.ok u) (w:World) :
 Calls Tryz.prog 233 #[.string s,.int .i64 10,.int .i64 64] w λe w'=>e=.returned (.tuple #[.int .u64 u,.nilIface])/\(w'=w\/w'=Lib.bytesWorld w 5 s):=Any.strconv_ParseUint_10_at64_ok Tryz.wZ s hmax u h w
open Go.RowKit in
theorem Tryz.strconv_ParseUint_10_at64_syntax_var (s : ByteArray) (hlim : s.size ≤ 281474976710656) (h : Lib.parseUintB 64 s.data.toList = Lib.NumEnd.syntax) (tp : TypeId) (p : Value) (w : World) (hvar : w.var? Tryz.prog "strconv.ErrSyntax" = some #[.iface tp p]) :
 Calls Tryz.prog 233 #[.string s,.int .i64 10,.int .i64 64] w λe w'=>∃ N,e=.returned (.tuple #[.int .u64 0,.iface 285 (.pointer (some ⟨N,0,none⟩))])/\w.heap.size<=N/\w'.heap[N]?=some (.cells #[.string ⟨#[80,97,114,115,101,85,105,110,116]⟩,.string s,.iface tp p] 294 (0,0))/\Below w.heap.size w w':=Any.strconv_ParseUint_10_at64_syntax_var Tryz.wZ s hlim h tp p w hvar
open Go.RowKit in
theorem Tryz.strconv_ParseUint_10_at64_range_var (s : ByteArray) (hlim : s.size ≤ 281474976710656) (h : Lib.parseUintB 64 s.data.toList = .range) (tp : TypeId) (p : Value) (w : World) (hvar : w.var? Tryz.prog "strconv.ErrRange" = some #[.iface tp p]) :
 Calls Tryz.prog 233 #[.string s,.int .i64 10,.int .i64 64] w λe w'=>∃ N,e=.returned (.tuple #[.int .u64 18446744073709551615,.iface 285 (.pointer (some ⟨N,0,none⟩))])/\w.heap.size<=N/\w'.heap[N]?=some (.cells #[.string ⟨#[80,97,114,115,101,85,105,110,116]⟩,.string s,.iface tp p] 294 (0,0))/\Below w.heap.size w w':=Any.strconv_ParseUint_10_at64_range_var Tryz.wZ s hlim h tp p w hvar
def Tryz.iA:Go.Shelf.Ren:=⟨fun|41=>129|n=>n,fun|22=>136|23=>101|4=>4|n=>n,fun|n=>n⟩
theorem Tryz.vz:Go.Proofs.SlLaysE0.n41 Tryz.prog Tryz.iA:={
 mixed:=by kernel_rfl
 f41:=⟨Tryz.f129.name,by decide,Tryz.func129.trans (congrArg some (by kernel_rfl))⟩
 t4:=Tryz.underlying4
 a4:=Tryz.isAgg4
 z4:=Tryz.sizeOf4
 v4:=Tryz.zeroValue4
 t22:=Tryz.underlying136
 a22:=Tryz.isAgg136
 z22:=Tryz.sizeOf136
 v22:=Tryz.zeroValue136 }
open Go.RowKit Go.Lib in
theorem Tryz.slices_Clone (i0:TypeInfo) (z:Value) (size bytes:Nat) (hi:Tryz.prog.info? (Tryz.iA.t 23)=some i0) (hz0:i0.zero=some z) (hz1:i0.size=size) (hz2:i0.bytes=bytes) (hzs:z.cells.size=size) (hsz:0<size) (z23:∀ w,(Go.sizeOf (Tryz.iA.t 23)).run Tryz.prog w=.ok size w) (b off n c:Nat) (news:List Value) (w:World) (hl:news.length=n*size) (hn:n<=maxLen) (hbig:n*bytes<=140737488355328) (hc:∀ j u,news[j]?=some u->w.cell? ⟨b,off+j,none⟩=some u) (h1:∀ u∈news,u.oneCell'=true) :
 Calls Tryz.prog 129 #[.slice (some ⟨b,off,none⟩) n c] w λe w'=>∃ v',e=.returned v'/\w'.ownsRow w.heap.size (Tryz.iA.t 23) size v' n news/\v'≠.slice none 0 0/\Below w.heap.size w w':=AnyE.slices_Clone Tryz.vz i0 z size bytes hi hz0 hz1 hz2 hzs hsz z23 b off n c news w hl hn hbig hc h1
def Tryz.kS:Go.Shelf.Ren:=⟨fun|6=>130|15=>165|14=>164|28=>210|29=>211|20=>202|21=>203|22=>204|23=>205|24=>206|25=>207|26=>208|27=>209|46=>228|47=>229|48=>230|49=>231|50=>232|57=>235|n=>n,fun|22=>129|24=>132|25=>195|3=>3|39=>145|0=>0|53=>146|55=>29|4=>4|46=>252|45=>251|50=>248|5=>5|9=>9|66=>266|70=>269|76=>275|77=>276|n=>n,fun|n=>n⟩
theorem Tryz.qQ:Go.Proofs.SlLaysF0.n6 Tryz.prog Tryz.kS:={
 mixed:=by kernel_rfl
 f6:=⟨Tryz.f130.name,by decide,Tryz.func130.trans (congrArg some (by kernel_rfl))⟩
 f14:=⟨Tryz.f164.name,by decide,Tryz.func164.trans (congrArg some (by kernel_rfl))⟩
 f15:=Tryz.func165.trans (congrArg some (by kernel_rfl))
 f20:=⟨Tryz.f202.name,by decide,Tryz.func202.trans (congrArg some (by kernel_rfl))⟩
 f21:=⟨Tryz.f203.name,by decide,Tryz.func203.trans (congrArg some (by kernel_rfl))⟩
 f22:=⟨Tryz.f204.name,by decide,Tryz.func204.trans (congrArg some (by kernel_rfl))⟩
 f23:=⟨Tryz.f205.name,by decide,Tryz.func205.trans (congrArg some (by kernel_rfl))⟩
 f24:=⟨Tryz.f206.name,by decide,Tryz.func206.trans (congrArg some (by kernel_rfl))⟩
 f25:=⟨Tryz.f207.name,by decide,Tryz.func207.trans (congrArg some (by kernel_rfl))⟩
 f26:=⟨Tryz.f208.name,by decide,Tryz.func208.trans (congrArg some (by kernel_rfl))⟩
 f27:=⟨Tryz.f209.name,by decide,Tryz.func209.trans (congrArg some (by kernel_rfl))⟩
 f28:=Tryz.func210.trans (congrArg some (by kernel_rfl))
 f29:=Tryz.func211.trans (congrArg some (by kernel_rfl))
 f46:=⟨Tryz.f228.name,by decide,Tryz.func228.trans (congrArg some (by kernel_rfl))⟩
 f47:=Tryz.func229.trans (congrArg some (by kernel_rfl))
 f48:=Tryz.func230.trans (congrArg some (by kernel_rfl))
 f49:=⟨Tryz.f231.name,by decide,Tryz.func231.trans (congrArg some (by kernel_rfl))⟩
 f50:=⟨Tryz.f232.name,by decide,Tryz.func232.trans (congrArg some (by kernel_rfl))⟩
 f57:=⟨Tryz.f235.name,by decide,Tryz.func235.trans (congrArg some (by kernel_rfl))⟩
 t0:=Tryz.underlying0
 a0:=Tryz.isAgg0
 z0:=Tryz.sizeOf0
 v0:=Tryz.zeroValue0
 t3:=Tryz.underlying3
 a3:=Tryz.isAgg3
 z3:=Tryz.sizeOf3
 v3:=Tryz.zeroValue3
 t4:=Tryz.underlying4
 a4:=Tryz.isAgg4
 z4:=Tryz.sizeOf4
 v4:=Tryz.zeroValue4
 t5:=Tryz.underlying5
 a5:=Tryz.isAgg5
 z5:=Tryz.sizeOf5
 v5:=Tryz.zeroValue5
 t9:=Tryz.underlying9
 a9:=Tryz.isAgg9
 z9:=Tryz.sizeOf9
 v9:=Tryz.zeroValue9
 t22:=Tryz.underlying129
 a22:=Tryz.isAgg129
 z22:=Tryz.sizeOf129
 v22:=Tryz.zeroValue129
 t25:=Tryz.underlying195
 a25:=Tryz.isAgg195
 z25:=Tryz.sizeOf195
 v25:=Tryz.zeroValue195
 t39:=Tryz.underlying145
 a39:=Tryz.isAgg145
 z39:=Tryz.sizeOf145
 v39:=Tryz.zeroValue145
 t45:=Tryz.underlying251
 a45:=Tryz.isAgg251
 z45:=Tryz.sizeOf251
 v45:=Tryz.zeroValue251
 t46:=Tryz.underlying252
 a46:=Tryz.isAgg252
 z46:=Tryz.sizeOf252
 v46:=Tryz.zeroValue252
 t50:=Tryz.underlying248
 a50:=Tryz.isAgg248
 z50:=Tryz.sizeOf248
 v50:=Tryz.zeroValue248
 t53:=Tryz.underlying146
 a53:=Tryz.isAgg146
 z53:=Tryz.sizeOf146
 v53:=Tryz.zeroValue146
 t55:=Tryz.underlying29
 a55:=Tryz.isAgg29
 z55:=Tryz.sizeOf29
 v55:=Tryz.zeroValue29
 t66:=Tryz.underlying266
 a66:=Tryz.isAgg266
 z66:=Tryz.sizeOf266
 v66:=Tryz.zeroValue266
 t70:=Tryz.underlying269
 a70:=Tryz.isAgg269
 z70:=Tryz.sizeOf269
 v70:=Tryz.zeroValue269
 t76:=Tryz.underlying275
 a76:=Tryz.isAgg275
 z76:=Tryz.sizeOf275
 v76:=Tryz.zeroValue275
 t77:=Tryz.underlying276
 a77:=Tryz.isAgg276
 z77:=Tryz.sizeOf276
 v77:=Tryz.zeroValue276 }
open Go.RowKit Go.Lib Go.Sort in
theorem Tryz.slices_SortFunc {α:Type} [Inhabited α] (k:Nat) (aE:∀ w,(isAgg (Tryz.kS.t 24)).run Tryz.prog w=.ok true w) (zE:∀ w,(Go.sizeOf (Tryz.kS.t 24)).run Tryz.prog w=.ok k w) (enc:α->List Value) (hk:∀ x,(enc x).length=k) (h1:∀ x,∀ v∈enc x,v.oneCell'=true) (cf:α->α->Int) (hO:SWO (ltOf cf)) (g:Nat) (cb:Array Value) (oT off cap:Nat) (d:Array α) (w:World) (eg:∀ args w,(callFunc g args).run Tryz.prog w=.ok (.enter g args) w) (hcmp:CmpLays Tryz.prog g cb enc k cf oT off d.size w) (hH:HoldsK enc k w oT off d) (hblk:oT<w.heap.size) (hsz:d.size<4611686018427387904) :
 Calls Tryz.prog 130 #[.slice (some ⟨oT,off,none⟩) d.size cap,.func (.func g) #[] cb] w λe w' =>
  e=.returned (.tuple #[])/\∃ d' n os,PermIn 0 d.size d d'/\SortedIn (ltOf cf) 0 d.size d'/\w'=sortWorldK enc k w oT off n d' os:=AnyQ.slices_SortFunc Tryz.qQ k aE zE enc hk h1 cf hO g cb oT off cap d w eg hcmp hH hblk hsz
open Go.RowKit Go.Lib Go.Sort in
theorem Tryz.slices_SortFunc_none {α:Type} [Inhabited α] (p:Option Addr) (cap:Nat) (fv:Value) (w:World) :
 Calls Tryz.prog 130 #[.slice p 0 cap,fv] w λe w'=>e=.returned (.tuple #[])/\w'=w:=AnyF.slices_SortFunc_none Tryz.qQ p cap fv w
end Go.Proofs
namespace Go.Proofs.YtkmhmeldgfpfeaaGreatDoor
open Go.RowKit Go.Sx
set_option linter.unusedVariables false
set_option linter.unusedSimpArgs false
set_option maxRecDepth 100000
structure Laid (w:World):Prop where
 tab : Lib.TabIs Tryz.prog w "internal/strconv.uint64pow10" .u64 Lib.pow10Tab
 syn : ∃ t p, w.var? Tryz.prog "strconv.ErrSyntax" = some #[.iface t p]
 rng : ∃ t p, w.var? Tryz.prog "strconv.ErrRange" = some #[.iface t p]
def pu (s:ByteArray):Int×Bool :=
 match Lib.parseUintB 64 s.data.toList with
 | .ok u=>((u:Nat),true)
 | Lib.NumEnd.syntax=>(0,false)
 | .range=>(18446744073709551615,false)
theorem qR (s:ByteArray):0<=(pu s).1/\(pu s).1<18446744073709551616:=by
 unfold pu
 split
 ·rename_i u h
  have:u<=2 ^ 64-1:=by
   unfold Lib.parseUintB at h
   split at h
   ·cases h
   ·exact Lib.parseUintM_le _ _ 0 u za h
  simp only
  omega
 ·decide
 ·decide
theorem Ee {w0 w:World}{L:List cA}(s:ByteArray) (hlim:s.size<=281474976710656) (hL:∀ w,St w0 L w->Laid w) (hs:St w0 L w):Calls Tryz.prog 233 #[.string s,.int .i64 10,.int .i64 64] w
 (pE λrv w'=>(∃ q,rv=.tuple #[.int .u64 (pu s).1,q]/\((pu s).2=true/\q=.nilIface\/(pu s).2=false/\∃ t p,q=.iface t p))/\St w0 L w'):=by
 rcases h:Lib.parseUintB 64 s.data.toList with u|_|_
 ·refine(Tryz.strconv_ParseUint_10_at64_ok s za u h w).mono ?_
  rintro e w' ⟨rfl,hw⟩
  refine⟨⟨.nilIface,by simp only [pu,h],.inl ⟨by simp only [pu,h],rfl⟩⟩,?_⟩
  rcases hw with rfl|rfl
  ·exact hs
  ·refine hs.Av ⟨rfl,rfl,rfl,?_,λk hk=>?_⟩
   ·simp [Lib.bytesWorld,World.freeze]
   ·have hne:¬ w.heap.size=k:=za
    have h1:(Lib.bytesWorld w 5 s).heap[k]?=(w.drew.alloc (.cells (Lib.bytesCells w 5 s) 5)).heap[k]?:=by
     simp only [Lib.bytesWorld,World.freeze,Nat.one_ne_zero,if_false,Array.getElem?_modify,if_neg hne]
    rw [h1]
    exact heap_alloc_old w.drew _ hk
 ·obtain⟨t,p,hv⟩:=(hL w hs).syn
  refine(Tryz.strconv_ParseUint_10_at64_syntax_var s hlim h t p w hv).mono ?_
  rintro e w' ⟨n,rfl,-,-,hb⟩
  exact⟨⟨.iface 285 (.pointer (some ⟨n,0,none⟩)),by simp only [pu,h],.inr ⟨by simp only [pu,h],285,.pointer (some ⟨n,0,none⟩),rfl⟩⟩,hs.Av hb⟩
 ·obtain⟨t,p,hv⟩:=(hL w hs).rng
  refine(Tryz.strconv_ParseUint_10_at64_range_var s hlim h t p w hv).mono ?_
  rintro e w' ⟨n,rfl,-,-,hb⟩
  exact⟨⟨.iface 285 (.pointer (some ⟨n,0,none⟩)),by simp only [pu,h],.inr ⟨by simp only [pu,h],285,.pointer (some ⟨n,0,none⟩),rfl⟩⟩,hs.Av hb⟩
def dec (n:Int):ByteArray:=⟨(Lib.decDigits n.toNat).toArray⟩
theorem Ef {w0 w:World}{L:List cA}(n:Int) (h0:0<=n) (h1:n<100) (hs:St w0 L w):Calls Tryz.prog 238 #[.int .i64 n] w (pE λrv w'=>rv=.string (dec n)/\St w0 L w'):=by
 obtain⟨u,rfl⟩:∃ u:Nat,n=u:=⟨n.toNat,za⟩
 refine(Tryz.internal_strconv_small u za w).mono ?_
 rintro e w' ⟨rfl,rfl⟩
 exact⟨rfl,hs⟩
theorem xi {w0 w:World}{L:List cA}(n:Int) (h0:1<=n) (h1:n<18446744073709551616) (hL:∀ w,St w0 L w->Laid w) (hs:St w0 L w):Calls Tryz.prog 239 #[.int .u64 n] w (pE λrv w'=>rv=.int .i64 ((dec n).size:Nat)/\St w0 L w'):=by
 obtain⟨u,rfl⟩:∃ u:Nat,n=u:=⟨n.toNat,za⟩
 refine(Tryz.internal_strconv_numDigits u za za w (hL w hs).tab).mono ?_
 rintro e w' ⟨rfl,rfl⟩
 refine⟨?_,hs⟩
 have:(dec (u:Int)).size=Lib.nDigits u:=by rw [<- Lib.decDigits_length];rfl
 rw [this]
theorem qS (n:Int) (h0:0<=n) (h1:n<18446744073709551616):1<=(dec n).size/\(dec n).size<=20:=by
 have e:(dec n).size=Lib.nDigits n.toNat:=by rw [<- Lib.decDigits_length];rfl
 rw [e]
 have h2:Lib.nDigits n.toNat<=20:=by
  by_cases hz:n.toNat=0
  ·rw [hz,<- Lib.decDigits_length,Lib.decDigits];decide
  ·have:=Lib.numDigits_eq n.toNat za za
   split at this<;>omega
 refine⟨?_,h2⟩
 rw [<- Lib.decDigits_length]
 cases hq:Lib.decDigits n.toNat with
 | nil=>rw [Lib.decDigits] at hq;split at hq<;>simp at hq
 | cons=>simp
theorem CE {w0 w:World}{L:List cA}{b:Nat}{T:TypeId}(N:Nat) (hN:20<=N) (n:Int) (h0:1<=n) (h1:n<18446744073709551616) (hs:St w0 (aC b (Array.replicate N (.int .u8 0)) T::L) w) :
 Calls Tryz.prog 240 #[.slice (some ⟨b,0,none⟩) (dec n).size N,.int .u64 n] w (pE λrv w'=>rv=.tuple #[]/\∃ cs:Array Value,pG b 0 (Lib.decDigits n.toNat) w'/\St w0 (aC b cs T::L) w'):=by
 obtain⟨u,rfl⟩:∃ u:Nat,n=u:=⟨n.toNat,za⟩
 obtain⟨hz1,hz2⟩:=qS u za h1
 have hsz:(dec (u:Int)).size=Lib.nDigits u:=by rw [<- Lib.decDigits_length];rfl
 rw [hsz] at hz1 hz2 ⊢
 obtain⟨fr,hb,hfr⟩:=hs.holds _ (List.mem_cons_self ..)
 have hlt:b<w.heap.size:=hs.lt _ (List.mem_cons_self ..) b rfl
 have hH:Sort.Holds (λ(b:UInt8)=>Value.int .u8 (b.toNat:Int)) w b 0 (Array.replicate (Lib.nDigits u) 0):=by
  intro j hj
  rw [Array.size_replicate] at hj
  refine⟨?_,?_⟩
  ·rw [getElem!_pos _ j (by simpa using hj),Array.getElem_replicate]
   simp only [World.cell?,hb,Nat.zero_add]
   rw [Array.getElem?_replicate,if_pos (show j<N by omega)]
   rfl
  ·have:=hfr (0+j) (by rw [Array.size_replicate];omega)
   simp only [World.frozen?,hb]
   simpa using this
 have hf:=Tryz.internal_strconv_formatBase10 b 0 N u (Array.replicate (Lib.nDigits u) 0) w hH (by rw [Array.size_replicate];exact Lib.lt_pow_nDigits u) za (by rw [Array.size_replicate];omega)
 rw [Array.size_replicate] at hf
 refine hf.mono ?_
 rintro e w' ⟨rfl,k,v',dk,rfl,hF⟩
 have hds:dk.size=Lib.nDigits u:=hF.size
 refine⟨rfl,Sort.putCells (λ(b:UInt8)=>Value.int .u8 (b.toNat:Int)) 0 dk (Array.replicate N (.int .u8 0)),λj hj=>?_,?_⟩
 ·have hj':j<Lib.nDigits u:=by rw [<- Lib.decDigits_length];exact hj
  have h1:(Lib.decDigits u)[j]'(by rw [Lib.decDigits_length];exact hj')=dk[j]!:=Lib.row_is_numeral hF j (by rw [Lib.decDigits_length];exact hj')
  have h2:=Sort.cell?_putRow (λ(b:UInt8)=>Value.int .u8 (b.toNat:Int)) w b 0 _ dk hH (by rw [hds,Array.size_replicate]) j za
  have h3:(Lib.decDigits ((u:Int).toNat))[j]'hj=dk[j]!:=h1
  rw [h3]
  exact h2
 ·have hn:(Sort.putRow (λ(b:UInt8)=>Value.int .u8 (b.toNat:Int)) w b 0 dk).heap[b]?=some (.cells (Sort.putCells (λ(b:UInt8)=>Value.int .u8 (b.toNat:Int)) 0 dk (Array.replicate N (.int .u8 0))) T fr):=by
   simp only [Sort.putRow,Sort.mapBlock,Array.getElem?_modify,if_true,hb,Option.map_some,Sort.onCells]
  refine St.step hs rfl rfl rfl (by simp [World.drewN,Sort.putRow,Sort.mapBlock]) (λk hk hn'=>?_) ⟨fr,hn,λi hi=>hfr i (by simpa [Sort.putCells] using hi)⟩ (λk hk=>⟨.inl hk,?_⟩)
  ·have hne:¬ b=k:=λe=>hn' e.symm
   simp only [World.drewN,Sort.putRow,Sort.mapBlock,Array.getElem?_modify,if_neg hne]
  ·have hk':k=b:=hk
   subst hk'
   simpa [World.drewN,Sort.putRow,Sort.mapBlock] using hlt
end Go.Proofs.YtkmhmeldgfpfeaaGreatDoor
namespace Go.Proofs.YtkmhmeldgfpfeaaGreatDoor
open Go.RowKit Go.Sx
set_option linter.unusedVariables false
set_option linter.unusedSimpArgs false
set_option linter.unnecessarySimpa false
set_option maxRecDepth 100000
section
variable {w0 w : World} {L : List cA}
theorem GN n (hn0:0<=n) (hn1:n<18446744073709551616) (hL:∀ w,St w0 L w->Laid w) (hs:St w0 L w):Cs Tryz.prog 234 #[.int .u64 n,.int .i64 10] w λrv w'=>rv=.string (dec n)/\St w0 L w':=by
 refine cL Tryz.func234 Tryz.ntmps234 (En (Lq (Ls (Lq (LT (Ls (Lq (Dz (Zi ((n:Int)<100) (λd=>?_) (λd=>?_))))))))))
 ·have hz:=qS n hn0 hn1
  refine Zs (bX [2] (dW 1 n Hz) (dE (f:=238) (args:=#[.int .i64 n]) Tryz.call238 (Ef n za za hs) ?_))
  rintro v3 w4 ⟨rfl,i⟩
  exact Lz (Le (Ly (Ly (Dz (bL (v:=.string (dec n)) ⟨rfl,i.drop 0⟩)))))
 ·have hz:=qS n hn0 hn1
  refine En (Lk (Lt (Ls (Lg [0] (Dz (eN #[.int .u8 0,.int .u8 0,.int .u8 0,.int .u8 0,.int .u8 0,.int .u8 0,.int .u8 0,.int .u8 0,.int .u8 0,.int .u8 0,.int .u8 0,.int .u8 0,.int .u8 0,.int .u8 0,.int .u8 0,.int .u8 0,.int .u8 0,.int .u8 0,.int .u8 0,.int .u8 0,.int .u8 0,.int .u8 0,.int .u8 0,.int .u8 0] hs λa w6 o=>Lo (Ld (Lt (Ls (Lg [1] (Lw (dE (f:=239) (args:=#[.int .u64 n]) Tryz.call239 (xi n za za (λw h=>hL w (h.drop 1)) o) ?_))))))))))))
  rintro v9 u ⟨rfl,x⟩
  refine Lz (Ls (Dz (bX [3] (Hg 1 (.eJ (zL a 0 ((dec n).size) 24) (.sub 0 ((dec n).size))) [.prop (((dec n).size:Int)=((((dec n).size):Nat):Int)),.prop (((none:Option Operand)=none->(0:Nat)=0)/\((some (Operand.tmp 18))=none->(((dec n).size):Nat)=24)/\(0:Nat)<=((dec n).size)/\(((dec n).size):Nat)<=24),.prop (Value.slice (some (if 24=0 then Addr.mk a 0 none else (Addr.mk a 0 none).add (0*1))) (((dec n).size)-0) (24-0)=Value.slice (some ⟨a,0,none⟩) ((dec n).size) 24)] (aL za (aL ⟨(by first|(intro _;rfl)|(intro hc;cases hc)),(by first|(intro _;rfl)|(intro hc;cases hc)),za,za⟩ (aL (dM _ _ _ _ _ zf) aO))) Hz) ?_)))
  have z:St w0 (aC a (Array.replicate 24 (.int .u8 0)) 279::L) u:=Eq.mp zk x
  refine dE (f:=240) (args:=#[zL a 0 ((dec n).size) 24,.int .u64 n]) Tryz.call240 (CE 24 zf n za za z) ?_
  rintro a2 a3 ⟨rfl,a4,a0,a1⟩
  exact Lo (Ld (Lt (Ls (Lg [] (Dz (Zp 0 2 [(1,.eJ (zL a 0 ((dec n).size) 24) (.sub 0 ((dec n).size)))] [(1,[.prop (((dec n).size:Int)=((((dec n).size):Nat):Int)),.prop (((none:Option Operand)=none->(0:Nat)=0)/\((some (Operand.tmp 22))=none->(((dec n).size):Nat)=24)/\(0:Nat)<=((dec n).size)/\(((dec n).size):Nat)<=24),.prop (Value.slice (some (if 24=0 then Addr.mk a 0 none else (Addr.mk a 0 none).add (0*1))) (((dec n).size)-0) (24-0)=Value.slice (some ⟨a,0,none⟩) ((dec n).size) 24)])] (ak (aL za (aL ⟨(by first|(intro _;rfl)|(intro hc;cases hc)),(by first|(intro _;rfl)|(intro hc;cases hc)),za,za⟩ (aL (dM _ _ _ _ _ zf) aO))) gQ) (aU.ta rfl zk (src:=25) (dst:=9) (e:=5) (b:=a) (off:=0) (cap:=24) (q:=Lib.decDigits (Int.toNat n)) zk zk zk zk a0 (En (bO (Lt (Le (Ly (Dz (bL (v:=.string (⟨(Lib.decDigits (Int.toNat n)).toArray⟩:ByteArray)) ⟨rfl,a1.drop 1⟩))))))))))))))
theorem uv n (hn0:0<=n) (hn1:n<18446744073709551616) (hL:∀ w,St w0 L w->Laid w) (hs:St w0 L w):Cs Tryz.prog 225 #[.int .u64 n,.int .i64 10] w λrv w'=>rv=.string (dec n)/\St w0 L w':=by
 exact cL Tryz.func225 Tryz.ntmps225 (En (Lq (Ls (Lg [2] (Lw (eE (GN n za za (λw h=>hL w (h.drop 0)) hs) λd a=>Lz (Le (Dz (bL (v:=.string (dec n)) ⟨rfl,a.drop 0⟩)))))))))
def number (s:ByteArray):Int×Bool :=
 if ((pu s).2)=true then
  if (decide ((s.size:Int)<=16))=true then
   if (decide (((pu s).1:Int)<=1125899906842624))=true then
    (((pu s).1),(decide ((dec ((pu s).1))=s)))
   else
    (((pu s).1),false)
  else
   (((pu s).1),false)
 else
  (((pu s).1),false)
theorem tE s (hlen:s.size<=281474976710656) (hL:∀ w,St w0 L w->Laid w) (hs:St w0 L w):Cs Tryz.prog 224 #[.string s] w λrv w'=>rv=.tuple #[.int .u64 ((number s).1),.bool ((number s).2)]/\St w0 L w':=by
 refine cL Tryz.func224 Tryz.ntmps224 (En (Lq (Ls (Lg [1] (Lw (dE (f:=233) (args:=#[.string s,.int .i64 10,.int .i64 64]) Tryz.call233 (Ee s hlen (λw h=>hL w (h.drop 0)) hs) ?_))))))
 rintro x z ⟨⟨_,rfl,(⟨b,rfl⟩|⟨b,t3,p4,rfl⟩)⟩,e⟩
 ·have i:=qR s
  refine Lz (Ls (Lg [14] (Dz (Zr 0 9 [] (dB 19 (decide ((s.size:Int)<=16)) (λa=>?_) (λa=>?_))))))
  ·refine Zr 9 4 [] (dB 23 (decide (((pu s).1:Int)<=1125899906842624)) (λd=>?_) (λd=>?_))
   ·refine En (Lw (eE (uv ((pu s).1) za za (λw h=>hL w (h.drop 0)) e) λa1 u=>BS (Hg 16 (.eJ (.bool (decide ((dec ((pu s).1))=s))) (.gen [])) [.prop (Value.bool ((dec ((pu s).1)).toList == s.toList)=Value.bool (decide ((dec ((pu s).1))=s)))] (aL (seq _ _) aO) Hz) (Zt (Ze (om (v:=.int .u64 ((pu s).1)) (v':=.bool (decide ((dec ((pu s).1))=s))) ?_)))))
    have hr:number s=(((pu s).1),(decide ((dec ((pu s).1))=s))):=by rw [number,if_pos b,if_pos a,if_pos d]
    exact⟨by first|(rw [hr];done)|(rw [hr];rfl),u.drop 0⟩
   ·refine En (Lw (gH (En (bO (Lt (Le (Dz (om (v:=.int .u64 ((pu s).1)) (v':=.bool false) ?_))))))))
    have hr:number s=(((pu s).1),false):=by rw [number,if_pos b,if_pos a,nI d]
    exact⟨by first|(rw [hr];done)|(rw [hr];rfl),e.drop 0⟩
  ·refine En (Lw (gH (En (bO (Lt (Le (Dz (om (v:=.int .u64 ((pu s).1)) (v':=.bool false) ?_))))))))
   have hr:number s=(((pu s).1),false):=by rw [number,if_pos b,nI a]
   exact⟨by first|(rw [hr];done)|(rw [hr];rfl),e.drop 0⟩
 ·have i:=qR s
  refine Lz (Ls (Lg [14] (Lw (gH (En (bO (Lt (Le (Dz (om (v:=.int .u64 ((pu s).1)) (v':=.bool false) ?_))))))))))
  have hr:number s=(((pu s).1),false):=by rw [number,nI b]
  exact⟨by first|(rw [hr];done)|(rw [hr];rfl),e.drop 0⟩
end
section
variable {w0 w : World} {L : List cA}
theorem A9 (s:ByteArray):0<=(number s).1/\(number s).1<18446744073709551616:=by
 have h:(number s).1=(pu s).1:=by
  unfold number
  split
  ·split
   ·split<;>rfl
   ·rfl
  ·rfl
 rw [h];exact qR s
theorem nO (n:Int):0<=IntKind.u64.wrap n/\IntKind.u64.wrap n<18446744073709551616:=by rw [IntKind.wrap_u64];omega
def xj (m:List (ByteArray×ByteArray)):Prop:=∀ x∈m,x.2.size<=281474976710656
theorem xj.get {m:List (ByteArray×ByteArray)}(h:xj m) (k:ByteArray):((bD m k).getD aR).size<=281474976710656:=by
 unfold bD
 cases hf:m.find? λx=>decide (x.1=k) with
 | none=>decide
 | some x=>exact h x (List.mem_of_find?_eq_some hf)
def lf (m:List (ByteArray×ByteArray)) (o:cB) (was:ByteArray):bR×List (ByteArray×ByteArray) :=
 if (!((number was).2))=true then
  ((failed 5 aR),m)
 else
  if (((bD m o.dest).isSome) && (!((number ((bD m o.dest).getD aR)).2)))=true then
   ((failed 5 aR),m)
  else
   if (decide (((number was).1:Int)<o.aY))=true then
    ((failed 14 was),m)
   else
    if (decide ((IntKind.u64.wrap (((number ((bD m o.dest).getD aR)).1)+o.aY):Int)>1125899906842624))=true then
     ((failed 6 aR),m)
    else
     if (full m o.dest)=true then
      ((failed 7 aR),m)
     else
      ((⟨0,dec (((number was).1)-o.aY)⟩:bR),eB (eB m o.key (dec (((number was).1)-o.aY))) o.dest (dec (IntKind.u64.wrap (((number ((bD m o.dest).getD aR)).1)+o.aY))))
theorem Eg {p r:Nat}(m:List (ByteArray×ByteArray)) (o:cB) was (hm:xj m) (hL:∀ w,St w0 L w->Laid w) (hwas:was.size<=281474976710656) (ha:0<=o.aY) (hs:St w0 (aC p #[.map (some r)] 181::cI Value.string Value.string r m::L) w):Cs Tryz.prog 196 #[zP p 0,.agg (cB.cells o),.string was] w λrv w'=>rv=.agg (bR.cells ((lf m o was).1))/\St w0 (aC p #[.map (some r)] 181::cI Value.string Value.string r ((lf m o was).2)::L) w':=by
 refine cL Tryz.func196 Tryz.ntmps196 (En (Ls (Lg [0,1] (Dz (hG (cB.cells o) hs λu w2 c1=>Lo (Dz (eN #[.int .i64 0,.string aR] c1 λb4 w5 c2=>Lo (Ld (Lt (Ls (Lg [1] (Lw (dE (f:=224) (args:=#[.string was]) Tryz.call224 (tE was hwas (λw h=>hL w (h.drop 4)) c2) ?_)))))))))))))
 rintro v8 w9 ⟨rfl,c3⟩
 refine Lz (Ls (Dz (ZD (eR [0,1,2,3,4,5,6,7,8,9,10,11] .done) c3 λd6 x d7=>gS 0 6 (Hl 3 2 0 x (Hl 5 1 4 x Hz)) (aU.lookup rfl zk pS (r:=r) (k:=o.dest) (ok:=true) zk x 3 rfl (z:=Value.string aR) zk (v:=.tuple #[.string ((bD m o.dest).getD aR),.bool ((bD m o.dest).isSome)]) (Dk _ _ _) (En (bO (Lt (Ls (Lg [1] (Lw (dE (f:=224) (args:=#[.string ((bD m o.dest).getD aR)]) Tryz.call224 (tE ((bD m o.dest).getD aR) (hm.get _) (λw h=>hL w (h.drop 4)) x) ?_)))))))))))
 rintro d8 d9 ⟨rfl,a1⟩
 refine Lz (Ls (Lb (Ls (Lq (Dz (cZ (t:=!((number was).2)) (λa=>?_) (λa=>?_)))))))
 ·refine Zk (Zt (cZ (t:=!((number was).2)) (λ_=>En (Ls (Lg [0,1] (Dz (dE (f:=160) (args:=#[.int .i64 5,.string aR]) Tryz.call160 (gZ 5 aR  a1) ?_))))) (λhc=>absurd (a.symm.trans hc) zf)))
  rintro e0 e1 ⟨rfl,c5⟩
  refine Lo (Dz (Zu 0 0 (bR.cells (failed 5 aR)) c5 λe2 a7=>Lo (Ld (Lt (Le (Ll (Ly (Dz (mJ 0 a7 ?_)))))))))
  have a8:=(a7.pl 3).pl 3
  have hr:lf m o was=((failed 5 aR),m):=by rw [lf,if_pos a]
  exact⟨by first|(rw [hr];done)|(rw [hr];rfl),by first|exact a8.eS 2|(rw [hr];exact a8.eS 2)⟩
 ·refine bH.join (T:=Unit) (E:=λ_=>[(34,.bool (((bD m o.dest).isSome) && (!((number ((bD m o.dest).getD aR)).2)))),(11,.int .u64 ((number ((bD m o.dest).getD aR)).1)),(7,.int .u64 ((number was).1)),(6,zP b4 0),(4,zP u 0),(0,zP p 0),(2,.string was)]) (F:=λ_ w=>St w0 (aC b4 #[.int .i64 0,.string aR] 65::aC u (cB.cells o) 43::aC p #[.map (some r)] 181::cI Value.string Value.string r m::L) w) ?_ ?_
  ·refine Zg [] (Zr 0 2 [] (dB 38 (bD m o.dest).isSome (λa2=>?_) (λa2=>?_)))
   ·exact En (bO (Dz (gB [34,11,7,6,4,0,2] () (!((number ((bD m o.dest).getD aR)).2)) (by first|rfl|simp [Hb,a2]) a1)))
   ·exact En (bO (Dz (gB [34,11,7,6,4,0,2] () false (by first|rfl|simp [Hb,a2]) a1)))
  intro _ e3 d
  refine Zt (cZ (t:=((bD m o.dest).isSome) && (!((number ((bD m o.dest).getD aR)).2))) (λb=>?_) (λb=>?_))
  ·have c6:(!((number ((bD m o.dest).getD aR)).2))=true:=(Bool.and_eq_true_iff.1 b).2
   refine En (Ls (Lg [0,1] (Dz (dE (f:=160) (args:=#[.int .i64 5,.string aR]) Tryz.call160 (gZ 5 aR  d) ?_))))
   rintro e6 e7 ⟨rfl,c7⟩
   refine Lo (Dz (Zu 0 0 (bR.cells (failed 5 aR)) c7 λe8 a9=>Lo (Ld (Lt (Le (Ll (Ly (Dz (mJ 0 a9 ?_)))))))))
   have b0:=(a9.pl 3).pl 3
   have hr:lf m o was=((failed 5 aR),m):=by rw [lf,nI a,if_pos b]
   exact⟨by first|(rw [hr];done)|(rw [hr];rfl),by first|exact b0.eS 2|(rw [hr];exact b0.eS 2)⟩
  ·refine Zs (cS (Hl 2 1 5 d Hz) (Zt (Zi (((number was).1:Int)<o.aY) (λi=>?_) (λi=>?_))))
   ·refine En (Ls (Lg [1,2] (Lw (dE (f:=160) (args:=#[.int .i64 14,.string was]) Tryz.call160 (gZ 14 was  d) ?_))))
    rintro e9 f0 ⟨rfl,c8⟩
    refine Lo (Dz (Zu 0 0 (bR.cells (failed 14 was)) c8 λf1 b2=>Lo (Ld (Lt (Le (Ll (Ly (Dz (mJ 0 b2 ?_)))))))))
    have b3:=(b2.pl 3).pl 3
    have hr:lf m o was=((failed 14 was),m):=by rw [lf,nI a,nI b,if_pos (decide_eq_true i)]
    exact⟨by first|(rw [hr];done)|(rw [hr];rfl),by first|exact b3.eS 2|(rw [hr];exact b3.eS 2)⟩
   ·refine Zs (cS (Hl 2 1 5 d Hz) (Zt (Zi ((IntKind.u64.wrap (((number ((bD m o.dest).getD aR)).1)+o.aY):Int)>1125899906842624) (λa0=>?_) (λa0=>?_))))
    ·refine En (Ls (Lg [0,1] (Dz (dE (f:=160) (args:=#[.int .i64 6,.string aR]) Tryz.call160 (gZ 6 aR  d) ?_))))
     rintro f2 f3 ⟨rfl,c9⟩
     refine Lo (Dz (Zu 0 0 (bR.cells (failed 6 aR)) c9 λf4 b5=>Lo (Ld (Lt (Le (Ll (Ly (Dz (mJ 0 b5 ?_)))))))))
     have b6:=(b5.pl 3).pl 3
     have hr:lf m o was=((failed 6 aR),m):=by rw [lf,nI a,nI b,if_neg (ne_true_of_eq_false (decide_eq_false i)),if_pos (decide_eq_true a0)]
     exact⟨by first|(rw [hr];done)|(rw [hr];rfl),by first|exact b6.eS 2|(rw [hr];exact b6.eS 2)⟩
    ·refine Zs (bX [3] (Hl 2 1 4 d Hz) (eE (yX m o.dest  ((d.pl 3).pl 3)) λf6 a3=>Lz (Dz (cZ (t:=full m o.dest) (λa4=>?_) (λa4=>?_)))))
     ·refine En (Ls (Lg [0,1] (Dz (dE (f:=160) (args:=#[.int .i64 7,.string aR]) Tryz.call160 (gZ 7 aR  a3) ?_))))
      rintro f7 f8 ⟨rfl,d1⟩
      refine Lo (Dz (Zu 2 0 (bR.cells (failed 7 aR)) d1 λf9 a5=>Lo (Ld (Lt (Le (Ll (Ly (Dz (mJ 2 a5 ?_)))))))))
      have hr:lf m o was=((failed 7 aR),m):=by rw [lf,nI a,nI b,if_neg (ne_true_of_eq_false (decide_eq_false i)),if_neg (ne_true_of_eq_false (decide_eq_false a0)),if_pos a4]
      exact⟨by first|(rw [hr];done)|(rw [hr];rfl),by first|exact a5.eS 2|(rw [hr];exact a5.eS 2)⟩
     ·refine Zk (Zm (Zt (Zs ?_)))
      have hnr:=A9 was
      refine bX [4] (Hl 2 3 5 a3 (tP 3 (((number was).1)-o.aY) Hz)) (dE (f:=225) (args:=#[.int .u64 (((number was).1)-o.aY),.int .i64 10]) Tryz.call225 (uv (((number was).1)-o.aY) (by first|omega|exact(nO _).1) (by first|omega|exact(nO _).2) (λw h=>hL w (h.drop 4)) a3) ?_)
      rintro g0 g5 ⟨rfl,d2⟩
      refine Lz (Ls (Dz (ZD (eR [0,1,2,3,4,5,6,7,8,9,10,11,12,13,14,15,16] (.ef 17 (.ef 18 (.rd 19 (.ef 20 (.ef 21 (.rd 22 (.ef 23 .done)))))))) d2 λg7 e g8=>Zj (Hl 3 0 0 e (Hl 5 3 1 e (Hl 9 0 0 e (Hl 11 3 4 e (Hl 15 3 5 e Hz))))) (dE (f:=225) (args:=#[.int .u64 (IntKind.u64.wrap (((number ((bD m o.dest).getD aR)).1)+o.aY)),.int .i64 10]) Tryz.call225 (uv (IntKind.u64.wrap (((number ((bD m o.dest).getD aR)).1)+o.aY)) (by first|omega|exact(nO _).1) (by first|omega|exact(nO _).2) (λw h=>hL w (h.drop 4)) e) ?_))))
      rintro g9 h0 ⟨rfl,q⟩
      refine⟨fM (n:=[.cell ⟨u,4,none⟩ (.string o.dest),.cell ⟨p,0,none⟩ (.map (some r)),.cell ⟨u,1,none⟩ (.string o.key),.cell ⟨p,0,none⟩ (.map (some r))]) zk (bP (q.cell 3 rfl zk) (bP (q.cell 0 rfl zk) (bP (q.cell 3 rfl zk) (bP (q.cell 0 rfl zk) aO)))),(aU.mapEntry rfl zk pS (z:=aR) zk (r:=r) (k:=o.key) zk q 1 rfl λd3 h1 b7=>⟨lF b7 3 rfl [4],En (Lw (aU.entryStore (ek:=Value.string) (ev:=Value.string) rfl zk (r:=r) (s:=d3) (k:=o.key) (v:=dec (((number was).1)-o.aY)) zk b7 0 rfl λh2 a6=>?_))⟩)⟩
      rw [rl] at a6
      refine⟨lF a6 3 rfl [4],(aU.mapEntry rfl zk pS (z:=aR) zk (r:=r) (k:=o.dest) zk a6 0 rfl λd4 h3 d5=>Lo (Lw (aU.entryStore (ek:=Value.string) (ev:=Value.string) rfl zk (r:=r) (s:=d4) (k:=o.dest) (v:=dec (IntKind.u64.wrap (((number ((bD m o.dest).getD aR)).1)+o.aY))) zk d5 0 rfl λh4 b8=>?_)))⟩
      rw [rl] at b8
      refine Lo (Ld (Lt (Ls (Lg [2] (Lw (Zu 2 0 #[.int .i64 0,.string (dec (((number was).1)-o.aY))] b8 λh5 b9=>Lo (Ld (Lt (Le (Dz (mJ 2 b9 ?_)))))))))))
      have c0:=(b9.pl 0).pl 1
      have hr:lf m o was=((⟨0,dec (((number was).1)-o.aY)⟩:bR),eB (eB m o.key (dec (((number was).1)-o.aY))) o.dest (dec (IntKind.u64.wrap (((number ((bD m o.dest).getD aR)).1)+o.aY)))):=by rw [lf,nI a,nI b,if_neg (ne_true_of_eq_false (decide_eq_false i)),if_neg (ne_true_of_eq_false (decide_eq_false a0)),nI a4]
      exact⟨by first|(rw [hr];done)|(rw [hr];rfl),by first|exact c0.eS 2|(rw [hr];exact c0.eS 2)⟩
theorem Kw k (hs:St w0 L w):Cs Tryz.prog 162 #[.int .u8 k] w λrv w'=>((rv=.func (.func 192) #[] #[]/\(k == 1)=true)\/(rv=.func (.func 193) #[] #[]/\(k == 1)=false/\(k == 2)=true)\/(rv=.func (.func 194) #[] #[]/\(k == 1)=false/\(k == 2)=false/\(k == 3)=true)\/(rv=.func (.func 195) #[] #[]/\(k == 1)=false/\(k == 2)=false/\(k == 3)=false/\(k == 4)=true)\/(rv=.func (.func 196) #[] #[]/\(k == 1)=false/\(k == 2)=false/\(k == 3)=false/\(k == 4)=false))/\St w0 L w':=by
 refine cL Tryz.func162 Tryz.ntmps162 (En (Lq (Ls (Lq (Lb (Lq (Dz (cZ (t:=(k:Int) == 1) (λa=>?_) (λa=>?_)))))))))
 ·exact En (Lq (Le (Ll (Ly (Dz (bL (v:=.func (.func 192) #[] #[]) ⟨.inl ⟨rfl,a⟩,hs.drop 0⟩))))))
 ·refine En (Lq (Dz (cZ (t:=(k:Int) == 2) (λb=>?_) (λb=>?_))))
  ·exact En (Lq (Le (Ll (Ly (Dz (bL (v:=.func (.func 193) #[] #[]) ⟨.inr (.inl ⟨rfl,a,b⟩),hs.drop 0⟩))))))
  ·refine En (Lq (Dz (cZ (t:=(k:Int) == 3) (λd=>?_) (λd=>?_))))
   ·exact En (Lq (Le (Ll (Ly (Dz (bL (v:=.func (.func 194) #[] #[]) ⟨.inr (.inr (.inl ⟨rfl,a,b,d⟩)),hs.drop 0⟩))))))
   ·refine En (Lq (Dz (cZ (t:=(k:Int) == 4) (λe=>?_) (λe=>?_))))
    ·exact En (Lq (Le (Ll (Ly (Dz (bL (v:=.func (.func 195) #[] #[]) ⟨.inr (.inr (.inr (.inl ⟨rfl,a,b,d,e⟩))),hs.drop 0⟩))))))
    ·exact En (Lk (Lm (Lt (Lq (Le (Dz (bL (v:=.func (.func 196) #[] #[]) ⟨.inr (.inr (.inr (.inr (⟨rfl,a,b,d,e⟩)))),hs.drop 0⟩)))))))
def kK (m:List (ByteArray×ByteArray)) (o:cB):bR×List (ByteArray×ByteArray) :=
 if (!(may o))=true then
  ((failed 1 aR),m)
 else
  if ((!((bD m o.key).isSome)) && ((o.kind:Int) != 2))=true then
   ((failed 4 aR),m)
  else
   if ((o.kind:Int) == 1)=true then
    (((yc m o ((bD m o.key).getD aR)).1),(yc m o ((bD m o.key).getD aR)).2)
   else
    if ((o.kind:Int) == 2)=true then
     (((vy m o ((bD m o.key).getD aR)).1),(vy m o ((bD m o.key).getD aR)).2)
    else
     if ((o.kind:Int) == 3)=true then
      (((sb m o ((bD m o.key).getD aR)).1),(sb m o ((bD m o.key).getD aR)).2)
     else
      if ((o.kind:Int) == 4)=true then
       (((qh m o ((bD m o.key).getD aR)).1),(qh m o ((bD m o.key).getD aR)).2)
      else
       (((lf m o ((bD m o.key).getD aR)).1),(lf m o ((bD m o.key).getD aR)).2)
theorem I1 {p r:Nat}(m:List (ByteArray×ByteArray)) (o:cB) (hm:xj m) (hL:∀ w,St w0 L w->Laid w) (ha:0<=o.aY) (hs:St w0 (aC p #[.map (some r)] 181::cI Value.string Value.string r m::L) w):Cs Tryz.prog 126 #[zP p 0,.agg (cB.cells o)] w λrv w'=>rv=.agg (bR.cells ((kK m o).1))/\St w0 (aC p #[.map (some r)] 181::cI Value.string Value.string r ((kK m o).2)::L) w':=by
 refine cL Tryz.func126 Tryz.ntmps126 (En (Ls (Lg [0,1] (Dz (hG (cB.cells o) hs λe w2 b3=>Lo (Dz (eN #[.int .i64 0,.string aR] b3 λb4 w5 a5=>Lo (Ld (Lt (Ls (Lb (Lq (LF (Ls (Dz (bX [1] (fE 0 1 0 6 (cB.cells o) a5 Hz) (dE (f:=161) (args:=#[.agg (cB.cells o)]) Tryz.call161 (GJ o  a5) ?_)))))))))))))))))
 rintro v8 w9 ⟨rfl,a6⟩
 refine Lz (Dz (cZ (t:=!(may o)) (λa=>?_) (λa=>?_)))
 ·refine En (Ls (Lg [0,1] (Dz (dE (f:=160) (args:=#[.int .i64 1,.string aR]) Tryz.call160 (gZ 1 aR  a6) ?_))))
  rintro e4 e5 ⟨rfl,b6⟩
  refine Lo (Dz (Zu 0 0 (bR.cells (failed 1 aR)) b6 λe6 a7=>Lo (Ld (Lt (Le (Ll (Ly (Dz (mJ 0 a7 ?_)))))))))
  have a8:=(a7.pl 3).pl 3
  have hr:kK m o=((failed 1 aR),m):=by rw [kK,if_pos a]
  exact⟨by first|(rw [hr];done)|(rw [hr];rfl),by first|exact a8.eS 2|(rw [hr];exact a8.eS 2)⟩
 ·refine Zk (Zm (Zt (Zs (ZD (eR [0,1,2,3,4,5,6,7,8,9,10,11] .done) a6 λe7 i e8=>gS 0 6 (Hl 3 2 0 i (Hl 5 1 1 i Hz)) (aU.lookup rfl zk pS (r:=r) (k:=o.key) (ok:=true) zk i 3 rfl (z:=Value.string aR) zk (v:=.tuple #[.string ((bD m o.key).getD aR),.bool ((bD m o.key).isSome)]) (Dk _ _ _) (En (bO (Lt (Ls (Ls (Dz (bH.join (T:=Unit) (E:=λ_=>[(32,.bool ((!((bD m o.key).isSome)) && ((o.kind:Int) != 2))),(5,.string ((bD m o.key).getD aR)),(4,zP b4 0),(3,zP e 0),(0,zP p 0)]) (F:=λ_ w=>St w0 (aC b4 #[.int .i64 0,.string aR] 65::aC e (cB.cells o) 43::aC p #[.map (some r)] 181::cI Value.string Value.string r m::L) w) ?_ ?_))))))))))))
  ·refine Zg [] (Zr 0 3 [] (dB 28 (!((bD m o.key).isSome)) (λq=>?_) (λq=>?_)))
   ·exact lD (Hl 4 1 0 i Hz) (gB [32,5,4,3,0] () ((o.kind:Int) != 2) (by first|rfl|simp [Hb,q,jV q]) i)
   ·exact En (bO (Dz (gB [32,5,4,3,0] () false (by first|rfl|simp [Hb,q,jN q]) i)))
  intro _ e9 a9
  refine Zt (cZ (t:=(!((bD m o.key).isSome)) && ((o.kind:Int) != 2)) (λd=>?_) (λd=>?_))
  ·have b7:=(Bool.and_eq_true_iff.1 d).1
   have b8:((o.kind:Int) != 2)=true:=(Bool.and_eq_true_iff.1 d).2
   refine En (Ls (Lg [0,1] (Dz (dE (f:=160) (args:=#[.int .i64 4,.string aR]) Tryz.call160 (gZ 4 aR  a9) ?_))))
   rintro f2 f3 ⟨rfl,b9⟩
   refine Lo (Dz (Zu 0 0 (bR.cells (failed 4 aR)) b9 λf4 b0=>Lo (Ld (Lt (Le (Ly (Dz (mJ 0 b0 ?_))))))))
   have b2:=(b0.pl 3).pl 3
   have hr:kK m o=((failed 4 aR),m):=by rw [kK,nI a,if_pos d]
   exact⟨by first|(rw [hr];done)|(rw [hr];rfl),by first|exact b2.eS 2|(rw [hr];exact b2.eS 2)⟩
  ·refine Zk (Zt (Zs (ZD (eR [0,1,3,4,5] (.ef 2 (.ef 6 (.ef 7 .done)))) a9 λf5 x f6=>Zj (Hl 1 1 0 x (fE 4 1 0 6 (cB.cells o) x Hz)) (Zc (Kw o.kind x) ?_))))
   rintro f7 f8 ⟨(⟨rfl,c0⟩|⟨rfl,c1,c2⟩|⟨rfl,c3,c4,c5⟩|⟨rfl,c6,c7,c8,c9⟩|⟨rfl,d0,d1,d2,d3⟩),b⟩
   ·refine⟨fM (n:=[.prop (Array.size (cB.cells o)=6),.cells ⟨e,0,none⟩ (cB.cells o)]) zk (aL zk (eM (b.cells 1 0 rfl zk) aO)),(eE (GL m o ((bD m o.key).getD aR)  ((b.pl 3).pl 3)) λg0 d5=>Lo (Dz (Zu 2 0 (bR.cells ((yc m o ((bD m o.key).getD aR)).1)) d5 λg5 a0=>Lo (Ld (Lt (Le (Dz (mJ 2 a0 ?_))))))))⟩
    have hr:kK m o=(((yc m o ((bD m o.key).getD aR)).1),(yc m o ((bD m o.key).getD aR)).2):=by rw [kK,nI a,nI d,if_pos c0]
    exact⟨by first|(rw [hr];done)|(rw [hr];rfl),by first|exact a0.eS 2|(rw [hr];exact a0.eS 2)⟩
   ·refine⟨fM (n:=[.prop (Array.size (cB.cells o)=6),.cells ⟨e,0,none⟩ (cB.cells o)]) zk (aL zk (eM (b.cells 1 0 rfl zk) aO)),(eE (GM m o ((bD m o.key).getD aR)  ((b.pl 3).pl 3)) λg8 d7=>Lo (Dz (Zu 2 0 (bR.cells ((vy m o ((bD m o.key).getD aR)).1)) d7 λg9 a1=>Lo (Ld (Lt (Le (Dz (mJ 2 a1 ?_))))))))⟩
    have hr:kK m o=(((vy m o ((bD m o.key).getD aR)).1),(vy m o ((bD m o.key).getD aR)).2):=by rw [kK,nI a,nI d,nI c1,if_pos c2]
    exact⟨by first|(rw [hr];done)|(rw [hr];rfl),by first|exact a1.eS 2|(rw [hr];exact a1.eS 2)⟩
   ·refine⟨fM (n:=[.prop (Array.size (cB.cells o)=6),.cells ⟨e,0,none⟩ (cB.cells o)]) zk (aL zk (eM (b.cells 1 0 rfl zk) aO)),(eE (Ec m o ((bD m o.key).getD aR)  ((b.pl 3).pl 3)) λh1 d9=>Lo (Dz (Zu 2 0 (bR.cells ((sb m o ((bD m o.key).getD aR)).1)) d9 λh2 a2=>Lo (Ld (Lt (Le (Dz (mJ 2 a2 ?_))))))))⟩
    have hr:kK m o=(((sb m o ((bD m o.key).getD aR)).1),(sb m o ((bD m o.key).getD aR)).2):=by rw [kK,nI a,nI d,nI c3,nI c4,if_pos c5]
    exact⟨by first|(rw [hr];done)|(rw [hr];rfl),by first|exact a2.eS 2|(rw [hr];exact a2.eS 2)⟩
   ·refine⟨fM (n:=[.prop (Array.size (cB.cells o)=6),.cells ⟨e,0,none⟩ (cB.cells o)]) zk (aL zk (eM (b.cells 1 0 rfl zk) aO)),(eE (Ed m o ((bD m o.key).getD aR)  ((b.pl 3).pl 3)) λh4 e1=>Lo (Dz (Zu 2 0 (bR.cells ((qh m o ((bD m o.key).getD aR)).1)) e1 λh5 a3=>Lo (Ld (Lt (Le (Dz (mJ 2 a3 ?_))))))))⟩
    have hr:kK m o=(((qh m o ((bD m o.key).getD aR)).1),(qh m o ((bD m o.key).getD aR)).2):=by rw [kK,nI a,nI d,nI c6,nI c7,nI c8,if_pos c9]
    exact⟨by first|(rw [hr];done)|(rw [hr];rfl),by first|exact a3.eS 2|(rw [hr];exact a3.eS 2)⟩
   ·refine⟨fM (n:=[.prop (Array.size (cB.cells o)=6),.cells ⟨e,0,none⟩ (cB.cells o)]) zk (aL zk (eM (b.cells 1 0 rfl zk) aO)),(eE (Eg m o ((bD m o.key).getD aR) hm (λw h=>hL w (h.drop 2)) (hm.get _) ha ((b.pl 3).pl 3)) λh7 e3=>Lo (Dz (Zu 2 0 (bR.cells ((lf m o ((bD m o.key).getD aR)).1)) e3 λh8 a4=>Lo (Ld (Lt (Le (Dz (mJ 2 a4 ?_))))))))⟩
    have hr:kK m o=(((lf m o ((bD m o.key).getD aR)).1),(lf m o ((bD m o.key).getD aR)).2):=by rw [kK,nI a,nI d,nI d0,nI d1,nI d2,nI d3]
    exact⟨by first|(rw [hr];done)|(rw [hr];rfl),by first|exact a4.eS 2|(rw [hr];exact a4.eS 2)⟩
end
end Go.Proofs.YtkmhmeldgfpfeaaGreatDoor
namespace Go.Proofs.YtkmhmeldgfpfeaaGreatDoor
open Go.RowKit Go.Sx Go.Lib Go.Sort Go.Shelf
set_option linter.unusedVariables false
set_option linter.unusedSimpArgs false
set_option maxRecDepth 100000
def jG (x:aH):List Value:=[.string x.key,.string x.value]
instance:Inhabited aH:=⟨⟨⟨#[]⟩,⟨#[]⟩⟩⟩
def rJ (x y:aH):Int:=Lib.compareBytes x.key.data.toList y.key.data.toList
theorem Fu:∀ (a b:List UInt8),decide (Lib.compareBytes a b<0)=Op.bytesLess a b
 | [],[]=>rfl
 | [],_::_=>rfl
 | _::_,[]=>rfl
 | a::xs,b::ys=>by
  simp only [Lib.compareBytes,Op.bytesLess]
  by_cases h:a<b
  ·simp [h]
  ·by_cases h2:b<a
   ·have hne:¬ a=b:=λe=>by subst e;exact h h2
    simp [h,h2,hne]
   ·have he:a=b:=by
     have h3:¬ a.toNat<b.toNat:=h
     have h4:¬ b.toNat<a.toNat:=h2
     exact UInt8.toNat_inj.1 za
    subst he
    simp [h,Fu xs ys]
theorem yY:∀ a:List UInt8,Op.bytesLess a a=false
 | []=>rfl
 | a::xs=>by simp [Op.bytesLess,yY xs]
theorem CF:∀ a b c:List UInt8,Op.bytesLess a b=true->Op.bytesLess b c=true->Op.bytesLess a c=true
 | _,_,[],_,h=>by cases ‹List UInt8› <;> simp [Op.bytesLess] at h
 | _,[],_::_,h,_=>by simp [Op.bytesLess] at h
 | [],_::_,_::_,_,_=>rfl
 | a::xs,b::ys,c::zs,h1,h2=>by
  simp only [Op.bytesLess,Bool.or_eq_true,Bool.and_eq_true,decide_eq_true_eq,beq_iff_eq] at *
  rcases h1 with h1|⟨rfl,h1⟩
  ·rcases h2 with h2|⟨rfl,h2⟩
   ·left
    have h3:a.toNat<b.toNat:=h1
    have h4:b.toNat<c.toNat:=h2
    exact(show a.toNat<c.toNat by omega)
   ·exact .inl h1
  ·rcases h2 with h2|⟨rfl,h2⟩
   ·exact .inl h2
   ·exact .inr ⟨rfl,CF xs ys zs h1 h2⟩
theorem CG:∀ a b:List UInt8,Op.bytesLess a b=false->Op.bytesLess b a=false->a=b
 | [],[],_,_=>rfl
 | [],_::_,h,_=>by simp [Op.bytesLess] at h
 | _::_,[],_,h=>by simp [Op.bytesLess] at h
 | a::xs,b::ys,h1,h2=>by
  simp only [Op.bytesLess,Bool.or_eq_false_iff,Bool.and_eq_false_iff,decide_eq_false_iff_not,beq_eq_false_iff_ne] at h1 h2
  have h3:¬ a.toNat<b.toNat:=h1.1
  have h4:¬ b.toNat<a.toNat:=h2.1
  have he:a=b:=UInt8.toNat_inj.1 za
  subst he
  rw [CG xs ys (h1.2.resolve_left (λh=>h rfl)) (h2.2.resolve_left (λh=>h rfl))]
theorem iR (a:ByteArray):slt a a=false:=yY _
theorem iF {a b c:ByteArray}(h1:slt a b=true) (h2:slt b c=true):slt a c=true:=CF _ _ _ h1 h2
theorem lk {a b:ByteArray}(h1:slt a b=false) (h2:slt b a=false):a=b:=by
 have:=CG _ _ h1 h2
 have h3:=nT a b
 rw [this] at h3
 simpa using h3
theorem Eh {a b c:ByteArray}(h1:slt a b=false) (h2:slt b c=false):slt a c=false:=by
 cases h:slt a c with
 | false=>rfl
 | true =>
  exfalso
  cases h3:slt b a with
  | true=>rw [iF h3 h] at h2;cases h2
  | false =>
   have:=lk h1 h3
   rw [this] at h
   rw [h] at h2
   cases h2
theorem Ba (x y:aH):ltOf rJ x y=slt x.key y.key:=by
 unfold ltOf rJ slt
 rw [Fu,ByteArray.toList_eq,ByteArray.toList_eq]
theorem Kx:SWO (ltOf rJ) where
 irrefl x:=by rw [Ba];exact iR _
 trans x y z h1 h2:=by rw [Ba] at *;exact iF h1 h2
 ntrans x y z h1 h2:=by
  rw [Ba] at *
  cases h:slt x.key z.key with
  | false=>rfl
  | true =>
   exfalso
   cases h3:slt y.key x.key with
   | true=>rw [iF h3 h] at h2;cases h2
   | false =>
    have:=lk h1 h3
    rw [this] at h
    rw [h] at h2
    cases h2
set_option maxHeartbeats 1000000 in
theorem MY (x y:aH) (W:World):Calls Tryz.prog 131 #[.agg #[.string x.key,.string x.value],.agg #[.string y.key,.string y.value]] W λe w'=>e=.returned (.int .i64 (rJ x y))/\∃ q os',w'=grow (W.drewN q) os':=by
 have hcon:=λW'=>Tryz.strings_Compare x.key y.key W'
 change ∀ W',Calls Tryz.prog 132 _ _ _ at hcon
 change Calls Tryz.prog 131 _ W λe w'=>e=.returned (.int .i64 (Lib.compareBytes x.key.data.toList y.key.data.toList))/\_
 generalize Lib.compareBytes x.key.data.toList y.key.data.toList=r at hcon ⊢
 go_enter Tryz.func131,Tryz.ntmps131
 go_wp2_with (go_at_call 132;refine(hcon _).mono ?_;rintro e w' ⟨rfl,rfl⟩)
 go_ret
 exact⟨rfl,0,_,by rw [alloc_eq_grow,alloc_eq_grow,grow_grow];rfl⟩
theorem GO (oT off size:Nat) (w:World):CmpLays Tryz.prog 131 #[] jG 2 rJ oT off size w:=λ_ _ _ _ x y=>MY x y _
theorem xk (l:List aH):(flatK jG 2 l.toArray).toList=l.flatMap λx=>(aH.cells x).toList:=by
 have hsz:(flatK jG 2 l.toArray).size=l.length*2:=by simp
 have hln:=bV (f:=aH.cells) (size:=2) (λ_=>rfl) l
 apply List.ext_getElem?
 intro t
 by_cases ht:t<l.length*2
 ·have h1:=oX (f:=aH.cells) (size:=2) (λ_=>rfl) (default:aH) l (t / 2) (t % 2) za za
  rw [show t / 2*2+t % 2=t by omega] at h1
  rw [h1,Array.getElem?_toList,Array.getElem?_eq_getElem za]
  have h2:=get_flatK jG 2 l.toArray t (by simpa using ht)
  rw [getElem!_pos _ t za] at h2
  rw [h2]
  have h3:l.toArray[t / 2]! =l.getD (t / 2) default:=by
   rw [getElem!_pos _ (t / 2) (by simp;omega)]
   simp [List.getD_eq_getElem?_getD,List.getElem?_eq_getElem (show t / 2<l.length by omega)]
  rw [h3]
  have h4:t % 2=0\/t % 2=1:=za
  rcases h4 with h4|h4<;>rw [h4]<;>rfl
 ·rw [List.getElem?_eq_none (by rw [Array.length_toList,hsz];omega),List.getElem?_eq_none (by rw [hln];omega)]
theorem GP {w0 w:World}{L:List cA}{ad:Option Addr}{c:Nat}(l:List aH) (hn:l.length<4611686018427387904) (hs:St w0 (Sl ad c 132 2 aH.cells l::L) w) :
 Calls Tryz.prog 130 #[.slice ad l.length c,.func (.func 131) #[] #[]] w (pE λrv w'=>rv=.tuple #[]/\∃ l',l'.Perm l/\(l'.Pairwise λx y=>slt y.key x.key=false)/\St w0 (Sl ad c 132 2 aH.cells l'::L) w'):=by
 have h0:w.ownsRow 0 132 2 (.slice ad l.length c) l.length (l.flatMap λx=>(aH.cells x).toList):=hs.holds _ (List.mem_cons_self ..)
 rcases h0.2 with⟨h1,h2⟩|⟨g,cap,cur,hv,-,hg,hnc,hcm,hcs,htake⟩
 ·have hl:l=[]:=List.eq_nil_of_length_eq_zero h2
  subst hl
  refine(Tryz.slices_SortFunc_none (α:=aH) ad c (.func (.func 131) #[] #[]) w).mono ?_
  rintro e w' ⟨rfl,rfl⟩
  exact⟨rfl,[],List.Perm.refl _,List.Pairwise.nil,hs⟩
 ·simp only [Value.slice.injEq] at hv
  obtain⟨rfl,-,rfl⟩:=hv
  have hlt:g<w.heap.size:=(Array.getElem?_eq_some_iff.1 hg).1
  have hF:=xk l
  have hFs:(flatK jG 2 l.toArray).size=l.length*2:=by simp
  have hmul:l.length*2<=c*2:=Nat.mul_le_mul_right _ hnc
  have hcurF:∀ j,j<l.length*2->cur[j]?=some (flatK jG 2 l.toArray)[j]!:=by
   intro j hj
   have h3:(cur.toList.take (l.length*2))[j]?=(flatK jG 2 l.toArray).toList[j]?:=by rw [htake,hF]
   rw [List.getElem?_take,if_pos hj,Array.getElem?_toList,Array.getElem?_toList] at h3
   rw [h3,getElem!_pos _ j za,Array.getElem?_eq_getElem za]
  have hH:HoldsK jG 2 w g 0 l.toArray:=by
   intro j hj
   rw [hFs] at hj
   refine⟨?_,?_⟩
   ·simp only [World.cell?,hg,Nat.zero_add,hcurF j hj]
    rfl
   ·simp only [World.frozen?,hg]
    simp
  have hcon:=Tryz.slices_SortFunc (α:=aH) 2 Tryz.isAgg132 Tryz.sizeOf132 jG (λ_=>rfl) (λx v hv=>by simp [jG] at hv;rcases hv with rfl|rfl<;>rfl) rJ Kx 131 #[] g 0 c l.toArray w
   (enters_of Tryz.func131 zk rfl) (GO g 0 l.toArray.size w) hH hlt (by simpa using hn)
  refine Calls.mono hcon ?_
  rintro e w' ⟨rfl,d',n,os,⟨hds,-,hperm⟩,hsort,rfl⟩
  simp only [List.size_toArray] at hds hsort hperm
  have hdl:d'.toList.length=l.length:=by simpa using hds
  have hp':d'.toList.Perm l:=by
   have e1:(d'.extract 0 l.length).toList=d'.toList:=by rw [<- hds];simp
   have e2:(l.toArray.extract 0 l.length).toList=l:=by simp
   rw [e1,e2] at hperm
   exact hperm
  have hF':=xk d'.toList
  rw [Array.toArray_toList] at hF'
  have hFs':(flatK jG 2 d').size=l.length*2:=by simp [hds]
  have hah:(Sort.ahead w n).heap=w.heap:=rfl
  refine⟨rfl,d'.toList,hp',?_,?_⟩
  ·rw [List.pairwise_iff_getElem]
   intro i j hi hj hij
   have h5:=hsort i j (Nat.zero_le _) hij za
   rw [Ba,getElem!_pos _ j (by simpa using hj),getElem!_pos _ i (by simpa using hi)] at h5
   simpa using h5
  ·have hnew:(sortWorldK jG 2 w g 0 n d' os).heap[g]?=some (.cells (putCells id 0 (flatK jG 2 d') cur) 132 (0,0)):=by
    simp only [sortWorldK,grow,putRowK,putRow,mapBlock,hah]
    rw [Array.getElem?_append_left (by simpa using hlt)]
    simp only [Array.getElem?_modify,if_true,hg,Option.map_some,onCells]
   refine St.step hs rfl rfl rfl (by simp [sortWorldK,grow,putRowK,putRow,mapBlock,hah]) (λk hk hnk=>?_) ?_ (λk hk=>⟨.inl hk,?_⟩)
   ·have hne:¬ g=k:=λe=>hnk (by show(some g:Option Nat)=some k;rw [e])
    simp only [sortWorldK,grow,putRowK,putRow,mapBlock,hah]
    rw [Array.getElem?_append_left (by simpa using hk)]
    simp only [Array.getElem?_modify,if_neg hne]
   ·show World.ownsRow _ 0 132 2 (.slice _ d'.toList.length c) d'.toList.length _
    rw [hdl]
    refine⟨by rw [<- hdl];exact bV (f:=aH.cells) (size:=2) (λ_=>rfl) d'.toList,.inr ⟨g,c,_,rfl,Nat.zero_le _,hnew,hnc,hcm,by simp [putCells,hcs],?_⟩⟩
    rw [<- hF']
    apply List.ext_getElem?
    intro t
    rw [List.getElem?_take]
    split
    ·rename_i ht
     rw [Array.getElem?_toList,Array.getElem?_toList]
     simp only [putCells,Array.getElem?_mapIdx]
     rw [Array.getElem?_eq_getElem (show t<cur.size by omega),Option.map_some,if_pos ⟨Nat.zero_le _,za⟩,Array.getElem?_eq_getElem (show t<(flatK jG 2 d').size by omega)]
     simp only [Nat.sub_zero,id]
     rw [getElem!_pos _ t za]
    ·rename_i ht
     rw [Array.getElem?_toList,Array.getElem?_eq_none za]
   ·have hk':(some g:Option Nat)=some k:=hk
    have:=Option.some.inj hk'
    subst this
    exact(Array.getElem?_eq_some_iff.1 hnew).1
end Go.Proofs.YtkmhmeldgfpfeaaGreatDoor
namespace Go.Proofs.YtkmhmeldgfpfeaaGreatDoor
open Go.RowKit Go.Sx
set_option linter.unusedVariables false
set_option linter.unusedSimpArgs false
set_option linter.unnecessarySimpa false
set_option maxRecDepth 100000
section
variable {w0 w : World} {L : List cA}
def jH (m:List (ByteArray×ByteArray)):List aH:=m.map λy=>⟨y.1,y.2⟩
def cU (m:List (ByteArray×ByteArray)):List aH:=(jH m).mergeSort (λx y=>!slt y.key x.key)
theorem GQ (x y z:aH) (h1:(!slt y.key x.key)=true) (h2:(!slt z.key y.key)=true):(!slt z.key x.key)=true:=by
 simp only [Bool.not_eq_true'] at *
 exact Eh h2 h1
theorem GR (x y:aH):((!slt y.key x.key) || (!slt x.key y.key))=true:=by
 cases a:slt y.key x.key with
 | false=>rfl
 | true =>
  cases b:slt x.key y.key with
  | false=>rfl
  | true=>have:=iF a b;rw [iR] at this;cases this
theorem tF (m:List (ByteArray×ByteArray)):(cU m).Perm (jH m):=List.mergeSort_perm _ _
theorem xm (m:List (ByteArray×ByteArray)):(cU m).Pairwise λx y=>slt y.key x.key=false :=
 (List.pairwise_mergeSort (le:=λx y:aH=>!slt y.key x.key) GQ GR (jH m)).imp λh=>by simpa using h
theorem oa (m:List (ByteArray×ByteArray)):(cU m).length=m.length:=by rw [(tF m).length_eq,jH,List.length_map]
theorem oQ:∀ {l l':List aH},l.Perm l'->(l.map (·.key)).Nodup->(l.Pairwise λx y=>slt y.key x.key=false)->(l'.Pairwise λx y=>slt y.key x.key=false)->l=l'
 | [],l',h,_,_,_=>(List.nil_perm.1 h).symm
 | x::l,[],h,_,_,_=>absurd h.symm (List.not_perm_nil_cons _ _)
 | x::l,y::l',h,hn,h1,h2=>by
  have hxy:x=y:=by
   have hx:x∈y::l':=h.mem_iff.1 (List.mem_cons_self ..)
   have hy:y∈x::l:=h.mem_iff.2 (List.mem_cons_self ..)
   rcases List.mem_cons.1 hx with e|hx
   ·exact e
   ·rcases List.mem_cons.1 hy with e|hy
    ·exact e.symm
    ·have a:=(List.pairwise_cons.1 h1).1 y hy
     have b:=(List.pairwise_cons.1 h2).1 x hx
     have:=lk b a
     simp only [List.map_cons,List.nodup_cons] at hn
     exact absurd (List.mem_map.2 ⟨y,hy,this.symm⟩) hn.1
  subst hxy
  rw [oQ (List.Perm.cons_inv h) (List.nodup_cons.1 hn).2 (List.pairwise_cons.1 h1).2 (List.pairwise_cons.1 h2).2]
theorem Md {r:Nat}{m:List (ByteArray×ByteArray)}(hs:St w0 L w) (i:Nat) (hi:L[i]?=some (cI Value.string Value.string r m)):(m.map λy:ByteArray×ByteArray=>y.1).Nodup:=by
 obtain⟨x,clk,h⟩:=hs.at_ i hi
 exact h.apart
theorem Me {m:List (ByteArray×ByteArray)}{l:List aH}(hn:(m.map λy:ByteArray×ByteArray=>y.1).Nodup) (h1:l.Perm (jH m)) (h2:l.Pairwise λx y=>slt y.key x.key=false):l=cU m:=by
 refine oQ (h1.trans (tF m).symm) ?_ h2 (xm m)
 have:(jH m).map (·.key)=m.map λy:ByteArray×ByteArray=>y.1:=by simp [jH]
 exact((h1.map (·.key)).nodup_iff).2 (by rw [this];exact hn)
structure LG where
 done:List (ByteArray×ByteArray)
 l:List aH
 ad:Option Addr
 c:Nat
set_option maxHeartbeats 400000 in
theorem yZ {p r:Nat}(m:List (ByteArray×ByteArray)) (hml:m.length<=4294967296) (hs:St w0 (aC p #[.map (some r)] 181::cI Value.string Value.string r m::L) w):Cs Tryz.prog 85 #[zP p 0] w λrv w'=>∃ ad c,rv=.slice ad (cU m).length c/\St w0 (Sl ad c 132 2 aH.cells (cU m)::aC p #[.map (some r)] 181::cI Value.string Value.string r m::L) w':=by
 refine cL Tryz.func85 Tryz.ntmps85 (En (Lq (Ls (Lq (LF (Lk (Lt (Ls (Ls (Dz (bX [4] (Hl 3 0 0 hs Hz) (aU.range rfl zk (T:=179) (K:=9) (E:=9) zk (r:=r) zk hs 1 rfl λi w2 a3=>Lo (Ld (Lt (Lb (Dz (bH.loop (T:=LG) (λx=>[(2,.slice x.ad x.l.length x.c),(11,zP i 0)]) (λx w=>(x.l=jH x.done)/\St w0 (Sl x.ad x.c 132 2 aH.cells x.l::qs Value.string Value.string r i m x.done::aC p #[.map (some r)] 181::L) w) (λx=>List.length m-x.done.length) (⟨[],[],none,0⟩) [2,11] zk ⟨rfl,a3.bJ 132 2 aH.cells⟩ ?_)))))))))))))))))
 rintro x w4 ⟨hp,a4⟩
 refine En (Ls (Lg [0] (Dz ?_)))
 have o:=a4.pl 1
 refine aU.next rfl rfl zk (r:=r) (it:=i) zk o ?_ ?_
 ·intro q
  refine Lz (Ls (LF (Lx (kD (kE (Lh (Lt (Ls (Lg [1] (Lw (dE (f:=130) (args:=#[.slice x.ad x.l.length x.c,.func (.func 131) #[] #[]]) Tryz.call130 (GP x.l (by first|omega|(have hh:=q.length_eq;rw [hp] ;simp only [jH,List.length_map];omega)) (o.pl 1)) ?_)))))))))))
  rintro c2 a6 ⟨rfl,u,a0,a7,a8⟩
  refine Lo (Ld (Lt (Lq (Le (Dz (bL (v:=.slice x.ad x.l.length x.c) ?_))))))
  have a9:=((a8.pl 2).pl 1).pl 2
  have a1:St w0 (cI Value.string Value.string r m::Sl x.ad x.c 132 2 aH.cells u::aC p #[.map (some r)] 181::L) a6:=a9.conv (λ⟨_,x,_,clk,hx,_⟩=>⟨x,clk,hx⟩) (λb hb=>.inl hb)
  have hlm:u=cU m:=Me (Md a1 0 rfl) (a0.trans (by rw [hp];exact q.map _)) a7
  have hlen:x.l.length=(cU m).length:=by rw [<- hlm];exact a0.length_eq.symm
  refine⟨x.ad,x.c,by rw [hlen],?_⟩
  rw [<- hlm]
  exact((a1.pl 2).pl 2)
 ·intro a d w9 c3 c4 a2
  refine Lz (Ls (LT (Lk (Lt (Lb (Ls (Lg [] (Dz (aU.entry rfl rfl zk (r:=r) (it:=i) zk a2 0 rfl (En (bO (Lt (Lg [4,5] (Lw (aU.cT rfl zk (t:=129) (e:=132) (n:=1) (ps:=[(0,.agg #[.string a,.string d])]) zk zk (ti:=Tryz.t132) (z:=.agg #[.string aR,.string aR]) zk zk zf zf (cs:=#[.string a,.string d]) zk a2 λb1 b2 b3 b4=>?_)))))))))))))))
  have b5:St w0 (Sl (some ⟨b1,0,none⟩) 1 132 2 aH.cells ([(⟨a,d⟩:aH)])::qs Value.string Value.string r i m (x.done++[(a,d)])::Sl x.ad x.c 132 2 aH.cells x.l::aC p #[.map (some r)] 181::L) b2:=St.lS (l:=[(⟨a,d⟩:aH)]) (f:=aH.cells) b3 b4 gG.size zl zk
  refine Lo (Dz (oV lM gG aT (b5.pl 2) (by have hh:x.l.length=x.done.length:=(by rw [hp,jH,List.length_map]);simp only [List.length_cons,List.length_nil];omega) λb7 b8 c5 b9=>Lo (bO (Lm (Dz ?_)))))
  have c0:=(((b9.pl 3).pl 3).pl 2).pl 3
  exact aN.back (⟨x.done++[(a,d)],x.l++([(⟨a,d⟩:aH)]),b7,b8⟩) [2,11] zk (by simp only [List.length_append,List.length_cons,List.length_nil];omega) ⟨(by simp only [hp,jH,List.map_append,List.map_cons,List.map_nil]),c0.dr 1⟩
end
section
variable {w0 w : World} {L : List cA} {ad : Option Addr} {c : Nat}
theorem NG:gX cB.cells 6:=⟨λ_=>rfl,λ_=>rfl⟩
def oC (o:cB):Nat:=o.key.size+o.value.size+o.jK.size+o.dest.size
def BI (l:List cB):Bool:=decide (l.length<=150) && l.all λo=>decide (oC o<=2000)
theorem Ei {l:List cB}(h:¬ l.length<=150):BI l=false:=by simp [BI,h]
theorem Ej {l:List cB}{k:Nat}{d:cB}(hk:k<l.length) (h:2000<oC (l.getD k d)):BI l=false:=by
 have a:∃ x∈l,2000<oC x:=⟨l[k],List.getElem_mem hk,by simpa [List.getD_eq_getElem?_getD,List.getElem?_eq_getElem hk] using h⟩
 obtain⟨x,hx,e⟩:=a
 have b:(l.all λo=>decide (oC o<=2000))=false:=by
  rw [List.all_eq_false]
  exact⟨x,hx,by simp;omega⟩
 rw [BI,b,Bool.and_false]
theorem I2 {l:List cB}{d:cB}(h1:l.length<=150) (h:∀ j,j<l.length->oC (l.getD j d)<=2000):BI l=true:=by
 have a:(l.all λo=>decide (oC o<=2000))=true:=by
  rw [List.all_eq_true]
  intro x hx
  obtain⟨j,hj,rfl⟩:=List.getElem_of_mem hx
  have:=h j hj
  simpa [List.getD_eq_getElem?_getD,List.getElem?_eq_getElem hj] using this
 rw [BI,a,Bool.and_true]
 simpa using h1
def Small (o:cB):Prop:=oC o<=1000000000000000
theorem Ek {l:List cB}{d:cB}(h:∀ o∈l,Small o) (k:Nat) (hk:k<l.length):oC (l.getD k d)<=1000000000000000:=by
 have:l.getD k d=l[k]:=by simp [List.getD_eq_getElem?_getD,List.getElem?_eq_getElem hk]
 rw [this]
 exact h _ (List.getElem_mem hk)
set_option maxHeartbeats 400000 in
theorem I3 (l:List cB) (hb:∀ o∈l,Small o) (hln:l.length<=1000000000000000) (hr:Rw w0 L cB.cells 6 mC ad l) (hs:St w0 L w):Cs Tryz.prog 71 #[.slice ad l.length c] w λrv w'=>rv=.bool (BI l)/\St w0 L w':=by
 refine cL Tryz.func71 Tryz.ntmps71 (En (Lq (Ls (Lq (Dz (Zi ((l.length:Int)>150) (λf=>?_) (λf=>?_)))))))
 ·exact En (Lq (Le (Ly (Dz (bL (v:=.bool false) ⟨by rw [Ei za],hs⟩)))))
 ·refine En (Lk (Lt (Ls (Lq (Lb (Dz ?_))))))
  have i:l.length<=150:=za
  refine bH.loop (T:=Nat) (λk=>[(0,.slice ad l.length c),(3,.int .i64 (k:Nat))]) (λk w=>(k<=l.length/\∀ j,j<k->oC (l.getD j mC)<=2000)/\St w0 L w) (λk=>l.length-k) (0) [0,3] zk ⟨⟨Nat.zero_le _,λj hj=>absurd hj (Nat.not_lt_zero _)⟩,hs⟩ ?_
  rintro k x ⟨hp,b⟩
  refine En (Ls (Lq (Dz (Zi ((k:Int)<(l.length:Nat)) (λq=>?_) (λq=>?_)))))
  ·have hk:k<l.length:=za
   have hsm:=Ek (d:=mC) hb k hk
   simp only [oC] at hsm
   obtain⟨ab,ao,rfl⟩:=aB.isSome (hr _ b) za
   refine Zk (Zt (Zs (Zb (Zs (ZD (eR [0,1,2,3,4,5,6,7,8,9,10,11,12,13,14,15,16,17,18,19,20,21,22,23,24,25,26,27] .done) b λz a a0=>lD (Hx 2 (k:Int) (l.length:Int) ab ao 6 (Hg 4 (.gen [.string ((l.getD k mC).key)]) [.cell ⟨ab,ao+(k*6)+1,none⟩ (.string ((l.getD k mC).key))] (bP (aB.dX (hr _ a) (k:=k) zo (j:=1) zf zk) aO) (Hx 8 (k:Int) (l.length:Int) ab ao 6 (Hg 10 (.gen [.string ((l.getD k mC).value)]) [.cell ⟨ab,ao+(k*6)+2,none⟩ (.string ((l.getD k mC).value))] (bP (aB.dX (hr _ a) (k:=k) zo (j:=2) zf zk) aO) (dW 12 ((((l.getD k mC).key).size:Nat)+(((l.getD k mC).value).size:Nat)) (Hx 15 (k:Int) (l.length:Int) ab ao 6 (Hg 17 (.gen [.string ((l.getD k mC).jK)]) [.cell ⟨ab,ao+(k*6)+3,none⟩ (.string ((l.getD k mC).jK))] (bP (aB.dX (hr _ a) (k:=k) zo (j:=3) zf zk) aO) (dW 19 (((((l.getD k mC).key).size:Nat)+(((l.getD k mC).value).size:Nat))+(((l.getD k mC).jK).size:Nat)) (Hx 22 (k:Int) (l.length:Int) ab ao 6 (Hg 24 (.gen [.string ((l.getD k mC).dest)]) [.cell ⟨ab,ao+(k*6)+4,none⟩ (.string ((l.getD k mC).dest))] (bP (aB.dX (hr _ a) (k:=k) zo (j:=4) zf zk) aO) (dW 26 ((((((l.getD k mC).key).size:Nat)+(((l.getD k mC).value).size:Nat))+(((l.getD k mC).jK).size:Nat))+(((l.getD k mC).dest).size:Nat)) Hz))))))))))) (Zt (Zi (((((((l.getD k mC).key).size:Nat)+(((l.getD k mC).value).size:Nat))+(((l.getD k mC).jK).size:Nat))+(((l.getD k mC).dest).size:Nat):Int)>2000) (λu=>?_) (λu=>?_))))))))
   ·exact En (Lq (Le (Ll (Ly (sT (Ll (Ly (Dz (bL (v:=.bool false) ⟨by rw [Ej (d:=mC) hk (by simp only [oC];omega)],a⟩)))))))))
   ·exact Zk (Zm (Zt (cS (dW 1 ((k:Nat)+1) Hz) (aN.back (k+1) [0,3] zk za ⟨⟨za,λj hj=>(Nat.lt_succ_iff_lt_or_eq.1 hj).elim (λh=>hp.2 j h) (λe=>by subst e;simp only [oC];omega)⟩,a⟩))))
  ·exact En (Lx (kD (kE (Lh (Lt (Lq (Le (Dz (bL (v:=.bool true) ⟨by rw [I2 (d:=mC) i (λj hj=>hp.2 j za)],b⟩)))))))))
end
theorem Laid.base {W w w0:World}{L:List cA}(h:Laid W) (hs:St w0 L w) (i:Nat) (hi:L[i]?=some (Ao W)):Laid w:=by
 have hb:=hs.at_ i hi
 have key:∀ (n:String) (g:Nat) (v:Array Value),Tryz.prog.globalNamed n=some g->W.var? Tryz.prog n=some v->w.var? Tryz.prog n=some v:=by
  intro n g v hg hv
  unfold World.var? at hv ⊢
  rw [hg] at hv ⊢
  simp only [Option.bind_some] at hv ⊢
  have hlt:g<W.heap.size:=by
   cases hx:W.heap[g]? with
   | none=>rw [hx] at hv;cases hv
   | some o=>exact(Array.getElem?_eq_some_iff.1 hx).1
  rw [hb g hlt]
  exact hv
 obtain⟨a,⟨b,d,e⟩,⟨f,q,u⟩⟩:=h
 exact⟨key _ _ _ (by kernel_rfl:_=some 2) a,⟨b,d,key _ _ _ (by kernel_rfl:_=some 3) e⟩,⟨f,q,key _ _ _ (by kernel_rfl:_=some 4) u⟩⟩
end Go.Proofs.YtkmhmeldgfpfeaaGreatDoor
namespace Go.Proofs.YtkmhmeldgfpfeaaGreatDoor
open Go.RowKit Go.Sx
set_option linter.unusedVariables false
set_option linter.unusedSimpArgs false
set_option maxRecDepth 100000
section
variable {α β : Type} [DecidableEq α] {m : List (α × β)} {k k' : α} {v : β}
theorem xn:bD ([]:List (α×β)) k=none:=rfl
theorem iG (x:α×β) (m:List (α×β)) (k:α):bD (x::m) k=if x.1=k then some x.2 else bD m k:=by
 unfold bD
 rw [List.find?_cons]
 by_cases h:x.1=k<;>simp [h]
theorem y3 (m:List (α×β)) (k k':α) (v:β):bD (eB m k v) k'=if k=k' then some v else bD m k':=by
 induction m with
 | nil=>simp [eB,iG,xn]
 | cons x m ih =>
  unfold eB
  by_cases h:x.1=k
  ·rw [if_pos h,iG,iG]
   by_cases h2:k=k'
   ·simp [h2]
   ·simp only [if_neg h2]
    rw [if_neg (λe=>h2 (h.symm.trans e))]
  ·rw [if_neg h,iG,iG,ih]
   by_cases h2:x.1=k'
   ·rw [if_pos h2,if_pos h2,if_neg (λe=>h (h2.trans e.symm))]
   ·rw [if_neg h2,if_neg h2]
theorem oR (h:bD m k=some v):(k,v)∈m:=by
 unfold bD at h
 cases hf:m.find? λx=>decide (x.1=k) with
 | none=>rw [hf] at h;cases h
 | some x =>
  rw [hf] at h
  simp only [Option.map_some,Option.some.injEq] at h
  have h1:=List.mem_of_find?_eq_some hf
  have h2:x.1=k:=by simpa using List.find?_some hf
  rw [<- h,<- h2]
  exact h1
theorem I4 (hn:(m.map λy:α×β=>y.1).Nodup) (h:(k,v)∈m):bD m k=some v:=by
 induction m with
 | nil=>cases h
 | cons x m ih =>
  simp only [List.map_cons,List.nodup_cons] at hn
  rw [iG]
  rcases List.mem_cons.1 h with rfl|h
  ·simp
  ·have hne:¬ x.1=k:=λe=>hn.1 (e▸List.mem_map.2 ⟨(k,v),h,rfl⟩)
   rw [if_neg hne]
   exact ih hn.2 h
theorem tG (h:∀ x∈m,x.1≠k):bD m k=none:=by
 cases hg:bD m k with
 | none=>rfl
 | some v=>exact absurd rfl (h _ (oR hg))
theorem GS (hn:(m.map λy:α×β=>y.1).Nodup):bD (mK m k) k'=if k=k' then none else bD m k':=by
 induction m with
 | nil=>simp [mK,xn]
 | cons x m ih =>
  simp only [List.map_cons,List.nodup_cons] at hn
  unfold mK
  by_cases h:x.1=k
  ·rw [if_pos h,iG]
   by_cases h2:k=k'
   ·rw [if_pos h2]
    refine tG λy hy e=>hn.1 ?_
    rw [h,h2,<- e]
    exact List.mem_map.2 ⟨y,hy,rfl⟩
   ·rw [if_neg h2,if_neg (λe=>h2 (h.symm.trans e))]
  ·rw [if_neg h,iG,iG,ih hn.2]
   by_cases h2:x.1=k'
   ·rw [if_pos h2,if_pos h2,if_neg (λe=>h (h2.trans e.symm))]
   ·rw [if_neg h2,if_neg h2]
theorem vf (m:List (α×β)) (k:α) (v:β):(eB m k v).length=if (bD m k).isSome then m.length else m.length+1:=by
 induction m with
 | nil=>simp [eB,xn]
 | cons x m ih =>
  unfold eB
  rw [iG]
  by_cases h:x.1=k
  ·simp [h]
  ·rw [if_neg h,if_neg h,List.length_cons,ih]
   cases (bD m k).isSome<;>simp
theorem uw (hn:(m.map λy:α×β=>y.1).Nodup):((mK m k).map λy:α×β=>y.1).Nodup:=hn.sublist ((oY k m).map _)
end
abbrev hX:=List (ByteArray×ByteArray)
abbrev Bb (m:hX):Prop:=(m.map λy:ByteArray×ByteArray=>y.1).Nodup
theorem Bc {m:hX}{x:aH}:x∈cU m↔(x.key,x.value)∈m:=by
 rw [(tF m).mem_iff,jH,List.mem_map]
 constructor
 ·rintro⟨y,hy,rfl⟩;exact hy
 ·intro h;exact⟨_,h,rfl⟩
theorem I5 {m:hX}(hn:Bb m):((cU m).map (·.key)).Nodup:=by
 have:(jH m).map (·.key)=m.map λy:ByteArray×ByteArray=>y.1:=by simp [jH]
 exact(((tF m).map (·.key)).nodup_iff).2 (by rw [this];exact hn)
theorem sd {l:List aH}(h:(l.map (·.key)).Nodup):l.Nodup:=by
 rw [List.Nodup,List.pairwise_map] at h
 exact h.imp λhne e=>hne (congrArg aH.key e)
theorem El {l l':List aH}(h1:(l.map (·.key)).Nodup) (h2:(l'.map (·.key)).Nodup) (s1:l.Pairwise λx y=>slt y.key x.key=false) (s2:l'.Pairwise λx y=>slt y.key x.key=false) (h:∀ x,x∈l↔x∈l'):l=l' :=
 oQ ((List.perm_ext_iff_of_nodup (sd h1) (sd h2)).2 h) h1 s1 s2
theorem iS {m:hX}(hn:Bb m){x:aH}:x∈cU m↔bD m x.key=some x.value:=by
 rw [Bc]
 exact⟨I4 hn,oR⟩
theorem mD {m:hX}(hn:Bb m):(cU m).Pairwise λx y=>slt x.key y.key=true:=by
 have h1:=I5 hn
 rw [List.Nodup,List.pairwise_map] at h1
 refine(List.pairwise_and_iff.2 ⟨xm m,h1⟩).imp λ{a b} ⟨h2,h3⟩=>?_
 cases h4:slt a.key b.key with
 | true=>rfl
 | false=>exact absurd (lk h4 h2) h3
theorem xp (s:ByteArray) (k:Nat):wc s k=(s.data.toList.getD k 0).toNat:=by
 rw [wc,Array.getD_eq_getD_getElem?,List.getD_eq_getElem?_getD,Array.getElem?_toList]
theorem pk (s:ByteArray):s.data.toList.length=s.size:=rfl
def Fv (l:List UInt8):Nat:=l.foldl (λa c=>a*10+(c.toNat-48)) 0
def oD (c:UInt8):Bool:=decide (48<=c.toNat) && decide (c.toNat<=57)
theorem I6 (l:List UInt8) (c:UInt8):Fv (l++[c])=Fv l*10+(c.toNat-48):=by simp [Fv]
theorem CH:∀ (l:List UInt8) (a:Nat),l.all oD=true->l.foldl (λa c=>a*10+(c.toNat-48)) a<(a+1)*10 ^ l.length
 | [],a,_=>by simp
 | c::l,a,h=>by
  simp only [List.all_cons,Bool.and_eq_true,oD,decide_eq_true_eq] at h
  have:=CH l (a*10+(c.toNat-48)) (by simpa [oD] using h.2)
  simp only [List.foldl_cons,List.length_cons,Nat.pow_succ]
  refine Nat.lt_of_lt_of_le this ?_
  rw [Nat.mul_comm (10 ^ l.length) 10,<- Nat.mul_assoc]
  exact Nat.mul_le_mul_right _ za
theorem Em {l:List UInt8}(h:l.all oD=true):Fv l<10 ^ l.length:=by
 have:=CH l 0 h
 simpa [Fv] using this
def num (s:ByteArray):Int×Bool :=
 if 1<=s.size/\s.size<=16/\s.data.toList.all oD=true then ((Fv s.data.toList:Nat),decide ((Fv s.data.toList:Int)<=1125899906842624) && decide (dec (Fv s.data.toList:Nat)=s)) else (0,false)
theorem GU {n:Int}(h0:0<=n) (h:n<10):dec n=⟨#[UInt8.ofNat (48+n.toNat)]⟩:=by
 rw [dec,Lib.decDigits_one za]
theorem I7 {n:Int}(h:10<=n):dec n=dec (n / 10)++(⟨#[UInt8.ofNat (48+(n % 10).toNat)]⟩:ByteArray):=by
 have h1:Lib.decDigits n.toNat=Lib.decDigits (n.toNat / 10)++[UInt8.ofNat (48+n.toNat % 10)]:=by
  rw [Lib.decDigits,dif_neg za]
 have h2:(n / 10).toNat=n.toNat / 10:=za
 have h3:(n % 10).toNat=n.toNat % 10:=za
 apply ByteArray.ext
 rw [ByteArray.data_append]
 simp only [dec,h1,h2,h3]
 simp
theorem zS {M:Nat}:∀ (l:List UInt8) (acc u:Nat),Lib.parseUintM M acc l=.ok u->l.all oD=true/\u=l.foldl (λa c=>a*10+(c.toNat-48)) acc
 | [],acc,u,h=>by simp only [Lib.parseUintM,Lib.NumEnd.ok.injEq] at h;exact⟨rfl,h.symm⟩
 | c::l,acc,u,h=>by
  unfold Lib.parseUintM at h
  split at h
  ·rename_i hc
   split at h
   ·cases h
   ·split at h
    ·cases h
    ·obtain⟨h1,h2⟩:=zS l _ u h
     refine⟨?_,h2⟩
     simp [oD,hc,h1]
  ·cases h
theorem zT:∀ (l:List UInt8) (acc:Nat),l.all oD=true->(acc+1)*10 ^ l.length<=10000000000000000->Lib.parseUintM (2 ^ 64-1) acc l=.ok (l.foldl (λa c=>a*10+(c.toNat-48)) acc)
 | [],acc,_,_=>rfl
 | c::l,acc,h,hb=>by
  simp only [List.all_cons,Bool.and_eq_true,oD,decide_eq_true_eq] at h
  simp only [List.length_cons,Nat.pow_succ] at hb
  rw [Nat.mul_comm (10 ^ l.length) 10,<- Nat.mul_assoc] at hb
  have h10:1<=10 ^ l.length:=Nat.one_le_pow _ _ zf
  have hacc:(acc+1)*10<=10000000000000000:=Nat.le_trans (Nat.le_mul_of_pos_right _ h10) hb
  unfold Lib.parseUintM
  rw [if_pos h.1,if_neg za,if_neg za]
  refine zT l _ (by simpa [oD] using h.2) (Nat.le_trans (Nat.mul_le_mul_right _ ?_) hb)
  omega
theorem xq (s:ByteArray):(number s).1=(pu s).1:=by
 unfold number
 split
 ·split
  ·split<;>rfl
  ·rfl
 ·rfl
theorem Ky (n:Int):1<=(dec n).size:=by
 have e:(dec n).size=(Lib.decDigits n.toNat).length:=rfl
 rw [e]
 cases hq:Lib.decDigits n.toNat with
 | nil=>rw [Lib.decDigits] at hq;split at hq<;>simp at hq
 | cons=>simp
theorem oS {s:ByteArray}(h:(number s).2=true):num s=((number s).1,true):=by
 rw [xq]
 unfold number at h
 split at h
 ·rename_i h1
  split at h
  ·rename_i h2
   split at h
   ·rename_i h3
    simp only [decide_eq_true_eq] at h h2 h3
    have hp:Lib.parseUintB 64 s.data.toList=.ok (pu s).1.toNat:=by
     unfold pu at h1 ⊢
     split at h1
     ·rename_i u hu;rw [hu];simp
     ·cases h1
     ·cases h1
    unfold Lib.parseUintB at hp
    split at hp
    ·cases hp
    ·obtain⟨h4,h5⟩:=zS _ _ _ hp
     have h6:Fv s.data.toList=(pu s).1.toNat:=h5.symm
     have h7:=(qR s).1
     have h8:=Ky (pu s).1
     rw [h] at h8
     have h9:((Fv s.data.toList:Nat):Int)=(pu s).1:=za
     unfold num
     rw [if_pos ⟨h8,za,h4⟩,h9]
     simp [h,h3]
   ·cases h
  ·cases h
 ·cases h
theorem yd {s:ByteArray}(h:(num s).2=true):number s=((num s).1,true):=by
 unfold num at h ⊢
 split at h
 ·rename_i hc
  rw [if_pos hc]
  simp only [Bool.and_eq_true,decide_eq_true_eq] at h
  have hne:s.data.toList≠[]:=by
   intro e
   have:=pk s
   rw [e] at this
   simp at this
   omega
  have hb:Lib.parseUintB 64 s.data.toList=.ok (Fv s.data.toList):=by
   unfold Lib.parseUintB
   rw [if_neg hne]
   refine zT _ 0 hc.2.2 ?_
   rw [pk]
   calc (0+1)*10 ^ s.size=10 ^ s.size:=by simp
    _<=10 ^ 16:=Nat.pow_le_pow_right zf hc.2.1
  have hp:pu s=(((Fv s.data.toList:Nat):Int),true):=by unfold pu;rw [hb]
  unfold number
  rw [hp]
  simp only [if_true]
  rw [if_pos (decide_eq_true (by have:=hc.2.1;omega)),if_pos (decide_eq_true h.1)]
  simp [h.2]
 ·cases h
theorem Bd (s:ByteArray):(num s).2=(number s).2:=by
 cases h:(number s).2 with
 | true=>rw [oS h]
 | false =>
  cases h2:(num s).2 with
  | false=>rfl
  | true=>rw [yd h2] at h;cases h
theorem Kz {s:ByteArray}(h:(number s).2=true):(num s).1=(number s).1:=by rw [oS h]
theorem GV:num aR=(0,false):=by
 unfold num;rw [if_neg];intro h;exact absurd h.1 zf
theorem oE {s:ByteArray}(h:(number s).2=true):dec (number s).1=s/\0<=(number s).1/\(number s).1<=1125899906842624:=by
 have hr:=(qR s).1
 rw [xq]
 unfold number at h
 split at h
 ·split at h
  ·split at h
   ·rename_i h3
    simp only [decide_eq_true_eq] at h h3
    exact⟨h,hr,h3⟩
   ·cases h
  ·cases h
 ·cases h
end Go.Proofs.YtkmhmeldgfpfeaaGreatDoor
namespace Go.Proofs.YtkmhmeldgfpfeaaGreatDoor
open Go.RowKit Go.Sx
set_option linter.unusedVariables false
set_option linter.unusedSimpArgs false
set_option linter.unnecessarySimpa false
set_option maxRecDepth 100000
section
variable {w0 w : World} {L : List cA}
def Be (n:Int) (out:ByteArray):ByteArray:=if n=0/\out≠⟨#[]⟩ then out else dec n++out
theorem NH {c:Int}(h0:0<=c) (h1:c<10):(⟨([jR (48+c)]:List UInt8).toArray⟩:ByteArray)=⟨#[UInt8.ofNat (48+c.toNat)]⟩:=by
 have:(48+c).toNat=48+c.toNat:=za
 simp [jR,this]
theorem I8 (a:UInt8) (l:ByteArray):(⟨#[a]⟩:ByteArray)++l≠⟨#[]⟩:=by
 intro e
 have:=congrArg ByteArray.size e
 rw [ByteArray.size_append] at this
 have b:(⟨#[a]⟩:ByteArray).size=1:=rfl
 have d:(⟨#[]⟩:ByteArray).size=0:=rfl
 omega
theorem GW {n:Int}{out:ByteArray}(h0:0<=n) (hg:0<n\/out=⟨#[]⟩):Be (n / 10) ((⟨([jR (48+n % 10)]:List UInt8).toArray⟩:ByteArray)++out)=Be n out:=by
 rw [NH za za]
 have hne:¬ (n=0/\out≠⟨#[]⟩):=by
  rintro⟨d,a⟩
  rcases hg with h|h
  ·omega
  ·exact a h
 rw [Be,Be,if_neg hne]
 by_cases b:n<10
 ·rw [if_pos ⟨za,I8 _ _⟩,GU h0 b]
  have e:n % 10=n:=za
  rw [e]
 ·rw [if_neg za,I7 (n:=n) za,ByteArray.append_assoc]
theorem GX {n:Int}{a:UInt8}{out:ByteArray}(h0:0<=n) (hg:0<n\/out=⟨#[]⟩):(n / 10).toNat+(if (⟨#[a]⟩:ByteArray)++out=⟨#[]⟩ then 1 else 0)<n.toNat+(if out=⟨#[]⟩ then 1 else 0):=by
 rw [if_neg (I8 _ _)]
 rcases hg with h|h
 ·omega
 ·rw [if_pos h];omega
theorem KA {s:ByteArray}{k:Nat}(hk:k<s.data.toList.length) (h:wc s k<48\/57<wc s k):num s=(0,false):=by
 rw [num,if_neg]
 intro hc
 have hm:=List.all_eq_true.1 hc.2.2 _ (List.getElem_mem hk)
 have he:(s.data.toList[k]'hk).toNat=wc s k:=by rw [xp,List.getD_eq_getElem?_getD,List.getElem?_eq_getElem hk];rfl
 simp only [oD,he,Bool.and_eq_true,decide_eq_true_eq] at hm
 omega
theorem GY (n:Int) (out:ByteArray):out.size<=(Be n out).size:=by
 unfold Be
 split
 ·exact Nat.le_refl _
 ·rw [ByteArray.size_append];omega
theorem qT n0 (h0:0<=n0) (h1':n0<18446744073709551616) (hs:St w0 L w):Cs Tryz.prog 227 #[.int .u64 n0] w λrv w'=>rv=.string (dec n0)/\St w0 L w':=by
 refine cL Tryz.func227 Tryz.ntmps227 (En (Lq (Lq (Ls (Lb (Dz (bH.loop (T:=Int×ByteArray) (λgg=>[(0,.int .u64 gg.1),(2,.string (⟨#[]⟩:ByteArray)),(3,.string gg.2)]) (λgg w=>((0<=gg.1/\gg.1<18446744073709551616)/\Be gg.1 gg.2=dec n0)/\St w0 L w) (λgg=>gg.1.toNat+(if gg.2=⟨#[]⟩ then 1 else 0)) (n0,⟨#[]⟩) [0,2,3] zk ⟨⟨za,by rw [Be,if_neg (λh=>h.2 rfl)];exact ByteArray.append_empty⟩,hs⟩ ?_)))))))
 rintro⟨n,out⟩ w1 ⟨hp,f⟩
 dsimp only at hp f
 refine Zs (Zs (bH.join (T:=Unit) (E:=λ_=>[(9,.bool ((decide ((n:Int)>0)) || (decide (out=(⟨#[]⟩:ByteArray))))),(0,.int .u64 n),(2,.string (⟨#[]⟩:ByteArray)),(3,.string out)]) (F:=λ_ w=>St w0 L w) ?_ ?_))
 ·refine Zg [] (Zr 0 3 [] (dB 6 (decide ((n:Int)>0)) (λa=>?_) (λa=>?_)))
  ·exact En (bO (Dz (gB [9,0,2,3] () true (by first|rfl|simp [Hb,a]) f)))
  ·exact lD (Hg 4 (.eJ (.bool (decide (out=(⟨#[]⟩:ByteArray)))) (.gen [])) [.prop (Value.bool (out.toList == (⟨#[]⟩:ByteArray).toList)=Value.bool (decide (out=(⟨#[]⟩:ByteArray))))] (aL (seq _ _) aO) Hz) (gB [9,0,2,3] () (decide (out=(⟨#[]⟩:ByteArray))) (by first|rfl|simp [Hb,a]) f)
 intro _ w5 i
 refine Zt (cZ (t:=(decide ((n:Int)>0)) || (decide (out=(⟨#[]⟩:ByteArray)))) (λd=>?_) (λd=>?_))
 ·have hos:out.size<=20:=by
   have h1:=GY n out
   rw [hp.2] at h1
   have h2:=qS n0 h0 h1'
   omega
  have hgo:0<n\/out=⟨#[]⟩:=by simpa using d
  exact Zk (Zt (Zb (Zs (bX [4] (Hg 1 (.div (n % 10)) [.prop (IntKind.u64=IntKind.u64/\(10:Int)≠0/\Int.tmod n 10=n % 10)] (aL ⟨rfl,zf,Int.tmod_eq_emod_of_nonneg (by first|omega|exact Int.natCast_nonneg _)⟩ aO) (tP 2 (48+(n % 10)) (Nc 3 (48+(n % 10)) Hz))) (aU.cT rfl zk (t:=25) (e:=5) (n:=1) (ps:=[(0,.int .u8 (48+(n % 10)))]) zk zk (ti:=Tryz.t5) (z:=.int .u8 0) zk zk zf zf (cs:=#[.int .u8 (48+(n % 10))]) zk i λb8 w9 o a3=>Lo (Dz (aU.ta rfl zk (src:=25) (dst:=9) (e:=5) (b:=b8) (off:=0) (cap:=1) (q:=([jR (48+(n % 10))]:List UInt8)) zk zk zk zk (we [48+(n % 10)] (o.at_ 0 rfl) (by intro x hx;simp only [List.mem_cons,List.not_mem_nil,or_false] at hx;omega)) (lD (Hg 7 .LP [.prop (((ByteArray.size (⟨([jR (48+(n % 10))]:List UInt8).toArray⟩:ByteArray)+ByteArray.size out:Nat):Int)<=IntKind.i64.max)] (aL (by simp only [IntKind.max,IntKind.signed,IntKind.bits];have hz:((⟨([jR (48+(n % 10))]:List UInt8).toArray⟩:ByteArray):ByteArray).size=1:=rfl;omega) aO) Hz) (Zt (cS (Hg 1 (.div (n / 10)) [.prop (IntKind.u64=IntKind.u64/\(10:Int)≠0/\IntKind.u64.wrap (Int.tdiv n 10)=n / 10)] (aL ⟨rfl,zf,by rw [Int.tdiv_eq_ediv_of_nonneg za];exact HD za za⟩ aO) Hz) (Zm (aN.back (n / 10,(⟨([jR (48+(n % 10))]:List UInt8).toArray⟩:ByteArray)++out) [0,2,3] zk (by show(n / 10).toNat+(if ((⟨([jR (48+(n % 10))]:List UInt8).toArray⟩:ByteArray)++out)=⟨#[]⟩ then 1 else 0)<n.toNat+(if out=⟨#[]⟩ then 1 else 0);exact GX hp.1.1 hgo) ⟨⟨za,by rw [GW za hgo];exact hp.2⟩,o.dr 1⟩))))))))))))
 ·have a1:=(Bool.or_eq_false_iff.1 d).1
  have a2:(decide (out=(⟨#[]⟩:ByteArray)))=false:=(Bool.or_eq_false_iff.1 d).2
  have hgo:n=0/\out≠⟨#[]⟩:=by have h9:¬ (0<n\/out=⟨#[]⟩):=(by simpa using d);exact⟨za,λe=>h9 (.inr e)⟩
  refine En (Lx (kD (kE (Lh (Lt (Lq (Le (Dz (bL (v:=.string out) ?_)))))))))
  have hd:out=dec n0:=by
   have:=hp.2
   rw [Be,if_pos hgo] at this
   exact this
  subst hd
  exact⟨rfl,i⟩
theorem CI s (hsz:s.size<=281474976710656) (hs:St w0 L w):Cs Tryz.prog 226 #[.string s] w λrv w'=>rv=.tuple #[.int .u64 ((num s).1),.bool ((num s).2)]/\St w0 L w':=by
 refine cL Tryz.func226 Tryz.ntmps226 (En (Lq (Lq (Ls (Ls (Dz (bH.join (T:=Unit) (E:=λ_=>[(13,.bool ((decide ((s.size:Int)<1)) || (decide ((s.size:Int)>16)))),(4,.int .u64 0),(3,.bool false),(2,.int .u64 0),(0,.string s)]) (F:=λ_ w=>St w0 L w) ?_ ?_)))))))
 ·refine Zg [] (Zr 0 4 [] (dB 9 (decide ((s.size:Int)<1)) (λa=>?_) (λa=>?_)))
  ·exact En (bO (Dz (gB [13,4,3,2,0] () true (by first|rfl|simp [Hb,a]) hs)))
  ·exact En (bO (Dz (gB [13,4,3,2,0] () (decide ((s.size:Int)>16)) (by first|rfl|simp [Hb,a]) hs)))
 intro _ w2 q
 refine Zt (cZ (t:=(decide ((s.size:Int)<1)) || (decide ((s.size:Int)>16))) (λf=>?_) (λf=>?_))
 ·have hshort:s.size<1\/16<s.size:=by simp only [Bool.or_eq_true,decide_eq_true_eq] at f;omega
  exact En (Lq (Le (Ly (Dz (om (v:=.int .u64 0) (v':=.bool false) ⟨(by rw [num,if_neg (λhc=>by omega)]),q⟩)))))
 ·have a0:=(Bool.or_eq_false_iff.1 f).1
  have b0:=of_decide_eq_false a0
  have a1:=(Bool.or_eq_false_iff.1 f).2
  have b1:=of_decide_eq_false a1
  refine En (Lk (Lt (Ls (Lq (Lb (Dz (bH.loop (T:=Nat×Int) (λgg=>[(0,.string s),(4,.int .u64 gg.2),(5,.int .i64 (gg.1:Nat))]) (λgg w=>((gg.1<=s.size/\gg.2=(Fv (s.data.toList.take gg.1):Nat))/\(s.data.toList.take gg.1).all oD=true)/\St w0 L w) (λgg=>s.size-gg.1) (0,0) [0,4,5] zk ⟨⟨⟨Nat.zero_le _,rfl⟩,rfl⟩,q⟩ ?_)))))))
  rintro⟨k,n⟩ w5 ⟨hp,b⟩
  dsimp only at hp b
  refine En (Ls (Lq (Dz (Zi ((k:Int)<(s.size:Nat)) (λa2=>?_) (λa2=>?_)))))
  ·have hk:k<s.size:=za
   have hkl:k<s.data.toList.length:=hk
   have hb:=LZ s k
   have hnv:=Em hp.2
   have hln:(s.data.toList.take k).length<=15:=by rw [List.length_take];omega
   have hpw:10 ^ (s.data.toList.take k).length<=10 ^ 15:=Nat.pow_le_pow_right zf hln
   have b2:=hp.1.2
   refine Zk (Zt (Zs (Zb (Zs (Zs (bH.join (T:=Unit) (E:=λ_=>[(29,.bool ((decide (((wc s k:Nat):Int)<48)) || (decide (((wc s k:Nat):Int)>57)))),(0,.string s),(4,.int .u64 n),(5,.int .i64 (k:Nat))]) (F:=λ_ w=>St w0 L w) ?_ ?_))))))
   ·refine Zg [] (Zp 0 5 [(2,.eJ (.int .u8 (wc s k:Nat)) (.byte (s.data.getD k 0)))] [(2,[.prop (0<=(k:Int)/\s[(k:Int).toNat]?=some (s.data.getD k 0)),.prop (Value.int .u8 ((s.data.getD k 0).toNat:Int)=Value.int .u8 (wc s k:Nat))])] (ak (aL (HL za za) (aL rfl aO)) gQ) (dB 24 (decide (((wc s k:Nat):Int)<48)) (λe=>?_) (λe=>?_)))
    ·exact En (bO (Dz (gB [29,0,4,5] () true (by first|rfl|simp [Hb,e]) b)))
    ·exact lD (Hg 7 (.eJ (.int .u8 (wc s k:Nat)) (.byte (s.data.getD k 0))) [.prop (0<=(k:Int)/\s[(k:Int).toNat]?=some (s.data.getD k 0)),.prop (Value.int .u8 ((s.data.getD k 0).toNat:Int)=Value.int .u8 (wc s k:Nat))] (aL (HL za za) (aL rfl aO)) Hz) (gB [29,0,4,5] () (decide (((wc s k:Nat):Int)>57)) (by first|rfl|simp [Hb,e]) b)
   intro _ b3 u
   refine Zt (cZ (t:=(decide (((wc s k:Nat):Int)<48)) || (decide (((wc s k:Nat):Int)>57))) (λi=>?_) (λi=>?_))
   ·exact En (Lq (Le (Ly (Ll (Ly (sT (Ll (Ly (Dz (om (v:=.int .u64 0) (v':=.bool false) ⟨(by rw [KA hkl (by simp only [Bool.or_eq_true,decide_eq_true_eq] at i;omega)]),u⟩))))))))))
   ·have a4:=(Bool.or_eq_false_iff.1 i).1
    have b4:=of_decide_eq_false a4
    have a5:=(Bool.or_eq_false_iff.1 i).2
    have b5:=of_decide_eq_false a5
    refine Zk (Zt ?_)
    refine cS (tP 1 (10*n) (Hg 4 (.eJ (.int .u8 (wc s k:Nat)) (.byte (s.data.getD k 0))) [.prop (0<=(k:Int)/\s[(k:Int).toNat]?=some (s.data.getD k 0)),.prop (Value.int .u8 ((s.data.getD k 0).toNat:Int)=Value.int .u8 (wc s k:Nat))] (aL (HL za za) (aL rfl aO)) (Nc 5 ((wc s k:Nat)-48) (tP 6 ((wc s k:Nat)-48) (tP 7 ((10*n)+((wc s k:Nat)-48)) Hz))))) (Zm (Zt (cS (dW 1 ((k:Nat)+1) Hz) ?_)))
    have a6:(10*n)+((wc s k:Nat)-48)=((Fv (s.data.toList.take (k+1)):Nat):Int):=by
     rw [bA (d:=0) hkl,I6,<- xp]
     omega
    have a7:(s.data.toList.take (k+1)).all oD=true:=by
     rw [bA (d:=0) hkl,List.all_append,hp.2]
     simp only [List.all_cons,List.all_nil,Bool.and_true,Bool.true_and,oD,Bool.and_eq_true,decide_eq_true_eq,<- xp]
     omega
    exact aN.back (k+1,(10*n)+((wc s k:Nat)-48)) [0,4,5] zk (by show s.size-(k+1)<s.size-k;omega) ⟨⟨⟨za,a6⟩,a7⟩,u⟩
  ·have hall:s.data.toList.take k=s.data.toList:=List.take_of_length_le (by rw [pk];omega)
   have x:=hp.1.2
   have o:=hp.2
   rw [hall] at x o
   have hnv:=Em o
   have hpw:10 ^ s.data.toList.length<=10 ^ 16:=Nat.pow_le_pow_right zf (by rw [pk];omega)
   have hns:num s=(n,decide (n<=1125899906842624) && decide (dec n=s)):=by rw [num,if_pos ⟨za,za,o⟩,<- x]
   refine En (Lx (kD (kE (Lh (Lt (Ls (Lg [5] (Dz (Zr 0 4 [] (C9 41 ((n:Int)<=1125899906842624) (λa8=>?_) (λa8=>?_)))))))))))
   ·exact En (Lw (eE (qT n zc zc b) λb7 a9=>BS (Hg 7 (.eJ (.bool (decide ((dec n)=s))) (.gen [])) [.prop (Value.bool ((dec n).toList == s.toList)=Value.bool (decide ((dec n)=s)))] (aL (seq _ _) aO) Hz) (Zt (Ze (om (v:=.int .u64 n) (v':=.bool (decide ((dec n)=s))) ⟨(by rw [hns];first|rfl|(simp_all;done)|(simp_all;intros;omega)),a9⟩)))))
   ·exact En (Lw (gH (En (bO (Lt (Le (Dz (om (v:=.int .u64 n) (v':=.bool false) ⟨(by rw [hns];first|rfl|(simp_all;done)|(simp_all;intros;omega)),b⟩))))))))
end
section
variable {w0 w : World} {L : List cA}
structure aG where
 time:Int
 cQ:bR
deriving DecidableEq
def aG.cells (x:aG):Array Value:=#[.int .u64 x.time,.int .i64 x.cQ.err,.string x.cQ.value]
structure bE where
 aQ:Int
 time:Int
 op:cB
 tag:Vector Int 32
deriving DecidableEq
def bE.cells (x:bE):Array Value:=#[.int .i64 x.aQ,.int .u64 x.time,.int .u8 x.op.kind,.string x.op.key,.string x.op.value,.string x.op.jK,.string x.op.dest,.int .u64 x.op.aY,.int .u8 x.tag[0],.int .u8 x.tag[1],.int .u8 x.tag[2],.int .u8 x.tag[3],.int .u8 x.tag[4],.int .u8 x.tag[5],.int .u8 x.tag[6],.int .u8 x.tag[7],.int .u8 x.tag[8],.int .u8 x.tag[9],.int .u8 x.tag[10],.int .u8 x.tag[11],.int .u8 x.tag[12],.int .u8 x.tag[13],.int .u8 x.tag[14],.int .u8 x.tag[15],.int .u8 x.tag[16],.int .u8 x.tag[17],.int .u8 x.tag[18],.int .u8 x.tag[19],.int .u8 x.tag[20],.int .u8 x.tag[21],.int .u8 x.tag[22],.int .u8 x.tag[23],.int .u8 x.tag[24],.int .u8 x.tag[25],.int .u8 x.tag[26],.int .u8 x.tag[27],.int .u8 x.tag[28],.int .u8 x.tag[29],.int .u8 x.tag[30],.int .u8 x.tag[31]]
abbrev aM:aG:=⟨0,⟨0,⟨#[]⟩⟩⟩
theorem dG:gX aG.cells 3:=⟨λ_=>rfl,λ_=>rfl⟩
def lN (i:Int):Bool :=
 ((decide ((i:Int) >= 1)) && (decide ((i:Int)<=8)))
theorem ye i (hs:St w0 L w):Cs Tryz.prog 125 #[.int .i64 i] w λrv w'=>rv=.bool (lN i)/\St w0 L w':=by
 refine cL Tryz.func125 Tryz.ntmps125 (En (Lq (Ls (Dz (bH.join (T:=Unit) (E:=λ_=>[(2,.bool ((decide ((i:Int) >= 1)) && (decide ((i:Int)<=8))))]) (F:=λ_ w=>St w0 L w) ?_ ?_)))))
 ·refine Zg [] (Zr 0 3 [] (dB 5 (decide ((i:Int) >= 1)) (λa=>?_) (λa=>?_)))
  ·exact En (bO (Dz (gB [2] () (decide ((i:Int)<=8)) (by first|rfl|simp [Hb,a]) hs)))
  ·exact En (bO (Dz (gB [2] () false (by first|rfl|simp [Hb,a]) hs)))
 intro _ e d
 refine Zt (Ze (bL (v:=.bool ((decide ((i:Int) >= 1)) && (decide ((i:Int)<=8)))) ?_))
 have hr:lN i=((decide ((i:Int) >= 1)) && (decide ((i:Int)<=8))):=by rw [lN]
 exact⟨by first|(rw [hr];done)|(rw [hr];rfl),d.drop 0⟩
theorem pT {i:Int}:lN i=true↔1<=i/\i<=8:=by unfold lN;simp
end
section
variable {w0 w : World} {L : List cA}
def qU (l:List aG) (m:List (ByteArray×ByteArray)) (r:bE):(bR×Bool)×List aG×List (ByteArray×ByteArray) :=
 if (!(lN r.aQ))=true then
  (((⟨1,aR⟩:bR),false),l,m)
 else
  if ((r.time:Int) == 0)=true then
   (((⟨1,aR⟩:bR),false),l,m)
  else
   if (decide ((r.time:Int)<((l.getD (Int.toNat (r.aQ-1)) aM).time)))=true then
    (((⟨13,aR⟩:bR),false),l,m)
   else
    if ((r.time:Int) == ((l.getD (Int.toNat (r.aQ-1)) aM).time))=true then
     (((l.getD (Int.toNat (r.aQ-1)) aM).cQ,false),l,m)
    else
     ((((l.set (Int.toNat (r.aQ-1)) (⟨r.time,⟨((kK m r.op).1).err,((kK m r.op).1).value⟩⟩:aG)).getD (Int.toNat (r.aQ-1)) aM).cQ,true),l.set (Int.toNat (r.aQ-1)) (⟨r.time,⟨((kK m r.op).1).err,((kK m r.op).1).value⟩⟩:aG),(kK m r.op).2)
theorem I9 {p q g:Nat}(l:List aG) (m:List (ByteArray×ByteArray)) (r:bE) (hl:l.length=8) (hm:xj m) (hL:∀ w,St w0 L w->Laid w) (ha:0<=r.op.aY) (hs:St w0 (aC p (af aG.cells l) 183::aC q #[.map (some g)] 181::cI Value.string Value.string g m::L) w):Cs Tryz.prog 75 #[zP p 0,zP q 0,.agg (bE.cells r)] w λrv w'=>rv=.tuple #[.agg (bR.cells (qU l m r).1.1),.bool (qU l m r).1.2]/\St w0 (aC p (af aG.cells ((qU l m r).2.1)) 183::aC q #[.map (some g)] 181::cI Value.string Value.string g ((qU l m r).2.2)::L) w':=by
 refine cL Tryz.func75 Tryz.ntmps75 (En (Ls (Lg [0,1] (Dz (hG (bE.cells r) hs λb1 w2 b6=>Lo (Dz (eN #[.int .i64 0,.string aR] b6 λb4 w5 a0=>Lz (Ls (Lb (Ls (Lq (LF (La (Lt (LF (Ls (Ls (Dz (bX [2] (Hl 1 1 0 a0 Hz) (eE (ye r.aQ  a0) λw9 o=>Lz (Dz (cZ (t:=!(lN r.aQ)) (λa=>?_) (λa=>?_)))))))))))))))))))))))
 ·refine Zk (Zt (cZ (t:=!(lN r.aQ)) (λ_=>En (Ls (Lg [1] (Lw (Zu 0 0 #[.int .i64 1,.string aR] o λc2 a1=>Lz (Le (Ll (Ly (Dz (mZ 0 (.bool false) a1 ?_)))))))))) (λhc=>absurd (a.symm.trans hc) zf)))
  have a2:=a1.dr 2
  have hr:qU l m r=(((⟨1,aR⟩:bR),false),l,m):=by rw [qU,if_pos a]
  exact⟨by first|(rw [hr];done)|(rw [hr];rfl),by first|exact a2|(rw [hr];exact a2)⟩
 ·have hi:1<=r.aQ/\r.aQ<=8:=pT.1 (by simpa using a)
  refine cS (Hl 1 1 1 o Hz) (Zt (cZ (t:=(r.time:Int) == 0) (λd=>?_) (λd=>?_)))
  ·refine En (Ls (Lg [1] (Lw (Zu 0 0 #[.int .i64 1,.string aR] o λc3 a3=>Lz (Le (Ll (Ly (Dz (mZ 0 (.bool false) a3 ?_)))))))))
   have a4:=a3.dr 2
   have hr:qU l m r=(((⟨1,aR⟩:bR),false),l,m):=by rw [qU,nI a,if_pos d]
   exact⟨by first|(rw [hr];done)|(rw [hr];rfl),by first|exact a4|(rw [hr];exact a4)⟩
  ·refine Zk (Zm (Zt (Zs (ZD (eR [0,1,2,3,4,5,6,7] .done) o λc4 a5 c5=>lD (Hl 2 1 0 a5 (dW 3 (r.aQ-1) (Hx 6 ((r.aQ-1):Int) (8:Int) p 0 3 Hz))) (Zt (Zs (Zb (Zs (ZD (eR [0,1,2,3,4,5,6,7] .done) a5 λc6 u c7=>lD (Hl 1 1 1 u (Hg 5 (.gen [.int .u64 ((l.getD (Int.toNat (r.aQ-1)) aM).time)]) [.cell ⟨p,0+((Int.toNat (r.aQ-1))*3),none⟩ (.int .u64 ((l.getD (Int.toNat (r.aQ-1)) aM).time))] (bP (aB.dX (aI u 2 rfl dG.size aM) (k:=Int.toNat (r.aQ-1)) zo (j:=0) zf zk) aO) Hz)) (Zt (Zi ((r.time:Int)<((l.getD (Int.toNat (r.aQ-1)) aM).time)) (λx=>?_) (λx=>?_))))))))))))
   ·refine En (Ls (Lg [1] (Lw (Zu 0 0 #[.int .i64 13,.string aR] u λc8 a6=>Lz (Le (Ll (Ly (Dz (mZ 0 (.bool false) a6 ?_)))))))))
    have a7:=a6.dr 2
    have hr:qU l m r=(((⟨13,aR⟩:bR),false),l,m):=by rw [qU,nI a,nI d,if_pos (decide_eq_true x)]
    exact⟨by first|(rw [hr];done)|(rw [hr];rfl),by first|exact a7|(rw [hr];exact a7)⟩
   ·refine Zs (ZD (eR [0,1,2,3,4,5,6,7] .done) u λc9 e d0=>lD (Hl 1 1 1 e (Hg 5 (.gen [.int .u64 ((l.getD (Int.toNat (r.aQ-1)) aM).time)]) [.cell ⟨p,0+((Int.toNat (r.aQ-1))*3),none⟩ (.int .u64 ((l.getD (Int.toNat (r.aQ-1)) aM).time))] (bP (aB.dX (aI e 2 rfl dG.size aM) (k:=Int.toNat (r.aQ-1)) zo (j:=0) zf zk) aO) Hz)) (Zt (cZ (t:=(r.time:Int) == ((l.getD (Int.toNat (r.aQ-1)) aM).time)) (λi=>?_) (λi=>?_))))
    ·refine Zs (bX [4] (Hg 3 (.agg (bR.cells ((l.getD (Int.toNat (r.aQ-1)) aM).cQ))) [.prop (Array.size (bR.cells ((l.getD (Int.toNat (r.aQ-1)) aM).cQ))=2),.cells ⟨p,0+((Int.toNat (r.aQ-1))*3)+1,none⟩ (bR.cells ((l.getD (Int.toNat (r.aQ-1)) aM).cQ))] (aL zk (eM (aB.all (aI e 2 rfl dG.size aM) zo (Nat.le_of_ble_eq_true zk) zk) aO)) Hz) (Zu 0 0 (bR.cells ((l.getD (Int.toNat (r.aQ-1)) aM).cQ)) e λd1 a8=>Lz (Le (Ll (Ly (Dz (mZ 0 (.bool false) a8 ?_)))))))
     have a9:=a8.dr 2
     have hr:qU l m r=(((l.getD (Int.toNat (r.aQ-1)) aM).cQ,false),l,m):=by rw [qU,nI a,nI d,if_neg (ne_true_of_eq_false (decide_eq_false x)),if_pos i]
     exact⟨by first|(rw [hr];done)|(rw [hr];rfl),by first|exact a9|(rw [hr];exact a9)⟩
    ·refine Zk (Zm (Zt (Zs (ZD (eR [0,1,2,3,4,5] (.ef 6 (eR [7,8] (.ef 9 .done)))) e λd2 z d3=>Zj (Hl 2 1 1 z (fE 5 1 2 6 (cB.cells r.op) z Hz)) (eE (I1 m r.op hm (λw h=>hL w (h.drop 3)) ha ((z.pl 4).pl 4)) λd5 b0=>⟨lF b0 3 rfl [1],En (Lw (aU.store rfl rfl zk (b:=p) (off:=0+((Int.toNat (r.aQ-1))*3)) (v:=.agg #[.int .u64 r.time,.int .i64 (((kK m r.op).1).err),.string (((kK m r.op).1).value)]) zk zk (ti:=Tryz.t101) zk b0 4 rfl zk zk (by rw [Nat.zero_add];exact fN (f:=aG.cells) (size:=3) (l:=l) (k:=Int.toNat (r.aQ-1)) dG.size zo) (cs':=af aG.cells (l.set (Int.toNat (r.aQ-1)) (⟨r.time,⟨((kK m r.op).1).err,((kK m r.op).1).value⟩⟩:aG))) (L':=(aC q #[.map (some g)] 181)::cI Value.string Value.string g ((kK m r.op).2)::aC b4 #[.int .i64 0,.string aR] 65::aC b1 (bE.cells r) 46::aC p (af aG.cells (l.set (Int.toNat (r.aQ-1)) (⟨r.time,⟨((kK m r.op).1).err,((kK m r.op).1).value⟩⟩:aG))) 183::L) (by rw [Nat.zero_add];exact eT (f:=aG.cells) (size:=3) (l:=l) (k:=Int.toNat (r.aQ-1)) dG.size zo (⟨r.time,⟨((kK m r.op).1).err,((kK m r.op).1).value⟩⟩:aG)) rfl λd6 b2=>Lo (Ld (Lt (Ls (Dz (bX [4] (Hg 3 (.agg (bR.cells (((l.set (Int.toNat (r.aQ-1)) (⟨r.time,⟨((kK m r.op).1).err,((kK m r.op).1).value⟩⟩:aG)).getD (Int.toNat (r.aQ-1)) aM).cQ))) [.prop (Array.size (bR.cells (((l.set (Int.toNat (r.aQ-1)) (⟨r.time,⟨((kK m r.op).1).err,((kK m r.op).1).value⟩⟩:aG)).getD (Int.toNat (r.aQ-1)) aM).cQ))=2),.cells ⟨p,0+((Int.toNat (r.aQ-1))*3)+1,none⟩ (bR.cells (((l.set (Int.toNat (r.aQ-1)) (⟨r.time,⟨((kK m r.op).1).err,((kK m r.op).1).value⟩⟩:aG)).getD (Int.toNat (r.aQ-1)) aM).cQ))] (aL zk (eM (aB.all (aI b2 4 rfl dG.size aM) zo (Nat.le_of_ble_eq_true zk) zk) aO)) Hz) (Zu 2 0 (bR.cells (((l.set (Int.toNat (r.aQ-1)) (⟨r.time,⟨((kK m r.op).1).err,((kK m r.op).1).value⟩⟩:aG)).getD (Int.toNat (r.aQ-1)) aM).cQ)) b2 λd7 b3=>Lz (Le (Dz (mZ 2 (.bool true) b3 ?_)))))))))))⟩)))))
     have c1:=((((b3.pl 1).pl 1).pl 4).pl 4).pl 4
     have b5:=c1.dr 2
     have hr:qU l m r=((((l.set (Int.toNat (r.aQ-1)) (⟨r.time,⟨((kK m r.op).1).err,((kK m r.op).1).value⟩⟩:aG)).getD (Int.toNat (r.aQ-1)) aM).cQ,true),l.set (Int.toNat (r.aQ-1)) (⟨r.time,⟨((kK m r.op).1).err,((kK m r.op).1).value⟩⟩:aG),(kK m r.op).2):=by rw [qU,nI a,nI d,if_neg (ne_true_of_eq_false (decide_eq_false x)),nI i]
     exact⟨by first|(rw [hr];done)|(rw [hr];rfl),by first|exact b5|(rw [hr];exact b5)⟩
end
section
variable {w0 w : World} {L : List cA}
theorem vg (hs:St w0 L w):Cs Tryz.prog 73 #[] w λrv w'=>∃ p:Nat,rv=zP p 0/\St w0 (aC p (af aG.cells (List.replicate 8 aM)) 183::L) w':=by
 exact cL Tryz.func73 Tryz.ntmps73 (En (Lq (Ls (Lg [1] (Lw (hG Ht hs λa d b=>Lz (Le (Dz (bL (v:=zP a 0) ⟨_,rfl,(show St w0 (aC a (af aG.cells (List.replicate 8 aM)) 183::L) _ from Eq.mp zk b)⟩)))))))))
theorem Eo {p:Nat}(l:List aG) (hl:l.length=8) (hs:St w0 (aC p (af aG.cells l) 183::L) w):Calls Tryz.prog 129 #[zL p 0 8 8] w
 (pE λrv w'=>∃ ad c,rv=.slice ad l.length c/\St w0 (Sl ad c 101 3 aG.cells l::aC p (af aG.cells l) 183::L) w'):=by
 obtain⟨fr,hb,hfr⟩:=hs.holds _ (List.mem_cons_self ..)
 have hlen:=bV (f:=aG.cells) (size:=3) (λ_=>rfl) l
 rw [hl] at hlen
 have h:=Tryz.slices_Clone Tryz.t101 (.agg #[.int .u64 0,.int .i64 0,.string ⟨#[]⟩]) 3 32 zk zk zk zk zk zf Tryz.sizeOf101 p 0 8 8 (l.flatMap λx=>(aG.cells x).toList) w hlen zf zf
  (λj u hj=>by
   simp only [World.cell?,hb,Nat.zero_add]
   rw [af,List.getElem?_toArray]
   exact hj)
  (λu hu=>by
   obtain⟨y,_,hy⟩:=List.mem_flatMap.1 hu
   exact dG.JS y u hy)
 refine h.mono ?_
 rintro e w' ⟨v',rfl,ho,hne,hbel⟩
 have a:=hs.Av hbel
 rcases ho.2 with⟨i,o⟩|⟨g,cap,cur,hv,q,hg,hnc,hcm,hcs,htake⟩
 ·omega
 ·subst hv
  refine⟨some ⟨g,0,none⟩,cap,by rw [hl],⟨a.os,a.tape,a.output,λB hB=>?_,λB hB b hb=>?_,List.pairwise_cons.2 ⟨λB hB b hb hb'=>?_,a.apart⟩⟩⟩
  ·rcases List.mem_cons.1 hB with rfl|hB
   ·show World.ownsRow _ 0 101 3 (.slice _ l.length cap) l.length _
    rw [hl]
    exact⟨ho.1,.inr ⟨g,cap,cur,rfl,Nat.zero_le _,hg,hnc,hcm,hcs,htake⟩⟩
   ·exact a.holds B hB
  ·rcases List.mem_cons.1 hB with rfl|hB
   ·have hb':(some g:Option Nat)=some b:=hb
    have:=Option.some.inj hb'
    subst this
    exact(Array.getElem?_eq_some_iff.1 hg).1
   ·exact a.lt B hB b hb
  ·have d:(some g:Option Nat)=some b:=hb
   have:=Option.some.inj d
   subst this
   have:=hs.lt B hB g hb'
   omega
theorem Bf {p:Nat}(l:List aG) (hl:l.length=8) (hs:St w0 (aC p (af aG.cells l) 183::L) w):Cs Tryz.prog 84 #[zP p 0] w λrv w'=>∃ ad c,rv=.slice ad l.length c/\St w0 (Sl ad c 101 3 aG.cells l::aC p (af aG.cells l) 183::L) w':=by
 refine cL Tryz.func84 Tryz.ntmps84 (En (Lq (Ls (Lq (LF (Lk (Lt (Ls (Dz (bX [4] (Hg 3 (.eJ (zL p 0 8 8) (.sub 0 8)) [.prop (((none:Option Operand)=none->(0:Nat)=0)/\((none:Option Operand)=none->(8:Nat)=8)/\(0:Nat)<=8/\(8:Nat)<=8),.prop (Value.slice (some (if 8=0 then Addr.mk p 0 none else (Addr.mk p 0 none).add (0*3))) (8-0) (8-0)=Value.slice (some ⟨p,0,none⟩) 8 8)] (aL ⟨(by first|(intro _;rfl)|(intro hc;cases hc)),(by first|(intro _;rfl)|(intro hc;cases hc)),za,za⟩ (aL (dM _ _ _ _ _ zf) aO)) Hz) (Zc (Eo l hl hs) ?_)))))))))))
 rintro e f ⟨a,b,rfl,d⟩
 exact Lz (Le (Dz (bL (v:=.slice a l.length b) ⟨_,_,rfl,d⟩)))
end
section
variable {w0 w : World} {L : List cA} {ad : Option Addr} {c : Nat}
def iH:bE:=⟨0,0,⟨0,⟨#[]⟩,⟨#[]⟩,⟨#[]⟩,⟨#[]⟩,0⟩,#v[0,0,0,0,0,0,0,0,0,0,0,0,0,0,0,0,0,0,0,0,0,0,0,0,0,0,0,0,0,0,0,0]⟩
theorem Ja:gX bE.cells 40:=⟨λ_=>rfl,λ_=>rfl⟩
theorem MZ:jZ Tryz.prog 116 43 6 80:=⟨zk,⟨Tryz.t43,.agg #[.int .u8 0,.string ⟨#[]⟩,.string ⟨#[]⟩,.string ⟨#[]⟩,.string ⟨#[]⟩,.int .u64 0],zk,zk,zk,zk,zk⟩,zf⟩
structure FG where
 k:Nat
 l:List cB
 ad:Option Addr
 c:Nat
theorem KB {l:List bE}{k:Nat}{d:bE}(hk:k<l.length):(l.take (k+1)).map (λr=>r.op)=(l.take k).map (λr=>r.op)++[(l.getD k d).op]:=by
 rw [List.take_succ_eq_append_getElem hk,List.map_append,List.getD_eq_getElem?_getD,List.getElem?_eq_getElem hk]
 rfl
theorem Ep (l:List bE) (hb:∀ r∈l,Small r.op) (hln:l.length<=1100000000000) (hr:Rw w0 L bE.cells 40 iH ad l) (hs:St w0 L w):Cs Tryz.prog 16 #[.slice ad l.length c] w λrv w'=>rv=.bool (BI (l.map λr=>r.op))/\St w0 L w':=by
 refine cL Tryz.func16 Tryz.ntmps16 (En (Lq (Lq (Ls (Lq (Lb (Dz (bH.loop (T:=FG) (λx=>[(0,.slice ad l.length c),(2,.bool false),(3,.slice x.ad x.l.length x.c),(4,.int .i64 (x.k:Nat))]) (λx w=>(x.k<=l.length/\x.l=(l.take x.k).map (λr=>r.op))/\St w0 (Sl x.ad x.c 43 6 cB.cells x.l::L) w) (λx=>l.length-x.k) (⟨0,[],none,0⟩) [0,2,3,4] zk ⟨⟨Nat.zero_le _,rfl⟩,hs.bJ 43 6 cB.cells⟩ ?_))))))))
 rintro x w1 ⟨hp,a⟩
 refine En (Ls (Lq (Dz (Zi ((x.k:Int)<(l.length:Nat)) (λb=>?_) (λb=>?_)))))
 ·have hk:x.k<l.length:=za
  obtain⟨ab,ao,rfl⟩:=aB.isSome (hr _ (a.drop 1)) za
  refine Zk (Zt (Zs (Zb (bX [6,7] (Hx 3 (x.k:Int) (l.length:Int) ab ao 40 (Hg 5 (.agg (cB.cells ((l.getD x.k iH).op))) [.prop (Array.size (cB.cells ((l.getD x.k iH).op))=6),.cells ⟨ab,ao+(x.k*40)+2,none⟩ (cB.cells ((l.getD x.k iH).op))] (aL zk (eM (aB.all (hr _ (a.drop 1)) zo (Nat.le_of_ble_eq_true zk) zk) aO)) Hz)) (aU.cT rfl zk (t:=116) (e:=43) (n:=1) (ps:=[(0,.agg (cB.cells ((l.getD x.k iH).op)))]) zk zk (ti:=Tryz.t43) (z:=.agg Ns) zk zk zf zf (cs:=#[.int .u8 (((l.getD x.k iH).op).kind),.string (((l.getD x.k iH).op).key),.string (((l.getD x.k iH).op).value),.string (((l.getD x.k iH).op).jK),.string (((l.getD x.k iH).op).dest),.int .u64 (((l.getD x.k iH).op).aY)]) zk a λd i o u=>?_)))))
  have a0:St w0 (Sl (some ⟨d,0,none⟩) 1 43 6 cB.cells ([(((l.getD x.k iH).op):cB)])::Sl x.ad x.c 43 6 cB.cells x.l::L) i:=St.lS (l:=[(((l.getD x.k iH).op):cB)]) (f:=cB.cells) o u NG.size zl zk
  refine Lo (Dz (oV MZ NG mC (a0.pl 1) (by have hh:x.l.length<=x.k:=(by rw [hp.2,List.length_map,List.length_take];omega);simp only [List.length_cons,List.length_nil];omega) λa2 a3 w9 a4=>Lo (bO (Lm (Lt (Dz (cS (dW 1 ((x.k:Nat)+1) Hz) ?_)))))))
  have a5:=(a4.pl 0).pl 1
  exact aN.back (⟨x.k+1,x.l++([(((l.getD x.k iH).op):cB)]),a2,a3⟩) [0,2,3,4] zk (by simp only;omega) ⟨(by refine⟨by simp only;omega,?_⟩;simp only [hp.2];exact(KB hk).symm),a5.dr 1⟩
 ·have hxl:x.l=l.map (λr=>r.op):=by rw [hp.2,List.take_of_length_le za]
  refine En (Lx (kD (kE (Lh (Lt (Ls (Lg [1] (Lw (dE (f:=71) (args:=#[.slice x.ad x.l.length x.c]) Tryz.call71 (I3 x.l (by rw [hxl];intro q hq;obtain⟨r,a7,rfl⟩:=List.mem_map.1 hq;exact hb r a7) (by rw [hxl,List.length_map];omega) (λw h=>h.rows 0 rfl NG.size _) a) ?_)))))))))
  rintro a9 b0 ⟨rfl,a8⟩
  exact Lz (Le (Dz (bL (v:=.bool (BI x.l)) ⟨by rw [hxl],a8.drop 1⟩)))
end
theorem Mf (a b:aG):fY Tryz.prog 3 101 (.agg a.cells) (.agg b.cells)=decide (a=b):=by
 have h:fY Tryz.prog 3 101 (.agg a.cells) (.agg b.cells)=(a.time == b.time && ((a.cQ.err == b.cQ.err && ((a.cQ.value.toList == b.cQ.value.toList) && true)) && true)):=zk
 rw [h,nT,tD,tD,Bool.and_true,Bool.and_true]
 obtain⟨d,e,f⟩:=a
 obtain⟨i,o,q⟩:=b
 simp only [aG.mk.injEq,bR.mk.injEq,Bool.decide_and]
end Go.Proofs.YtkmhmeldgfpfeaaGreatDoor
namespace Go.Proofs.YtkmhmeldgfpfeaaGreatDoor
open Go.RowKit Go.Sx
set_option linter.unusedVariables false
set_option linter.unusedSimpArgs false
set_option maxRecDepth 100000
structure Inv (m:hX):Prop where
 keys:Bb m
 len:m.length<=64
 key:∀ x∈m,1<=x.1.size/\x.1.size<=32
 val:∀ x∈m,x.2.size<=128
theorem KC:Inv []:=⟨by simp [Bb],by simp,(λx h=>nomatch h),(λx h=>nomatch h)⟩
theorem Inv.short {m:hX}(h:Inv m):xj m:=λx hx=>Nat.le_trans (h.val x hx) zf
theorem xr {α β:Type} [DecidableEq α] {k:α}{v:β}:∀ {m:List (α×β)}{x:α×β},x∈eB m k v->x=(k,v)\/x∈m
 | [],x,h=>by simp [eB] at h;exact .inl h
 | y::m,x,h=>by
  unfold eB at h
  split at h
  ·rcases List.mem_cons.1 h with h|h
   ·exact .inl h
   ·exact .inr (List.mem_cons_of_mem _ h)
  ·rcases List.mem_cons.1 h with h|h
   ·exact .inr (List.mem_cons.2 (.inl h))
   ·rcases xr h with h|h
    ·exact .inl h
    ·exact .inr (List.mem_cons_of_mem _ h)
theorem Inv.eB {m:hX}(h:Inv m){k v:ByteArray}(hk:1<=k.size/\k.size<=32) (hv:v.size<=128) (hf:(bD m k).isSome=true\/m.length<64):Inv (eB m k v):=by
 refine⟨kM k v m h.keys,?_,λx hx=>?_,λx hx=>?_⟩
 ·rw [vf]
  have:=h.len
  rcases hf with hf|hf
  ·rw [if_pos hf];exact this
  ·split<;>omega
 ·rcases xr hx with rfl|hx
  ·exact hk
  ·exact h.key x hx
 ·rcases xr hx with rfl|hx
  ·exact hv
  ·exact h.val x hx
theorem Inv.mK {m:hX}(h:Inv m) (k:ByteArray):Inv (mK m k) :=
 ⟨uw h.keys,Nat.le_trans (oY k m).length_le h.len,λx hx=>h.key x ((oY k m).subset hx),λx hx=>h.val x ((oY k m).subset hx)⟩
abbrev Bg (s:ByteArray):Prop:=1<=s.size/\s.size<=32
theorem GZ {s:ByteArray}(h:s.size=0):s=⟨#[]⟩:=by
 apply ByteArray.ext
 exact Array.eq_empty_of_size_eq_zero h
theorem nP {s:ByteArray}:keyed s=true↔Bg s:=by
 unfold keyed
 simp only [Bool.and_eq_true,Bool.not_eq_true',decide_eq_false_iff_not,decide_eq_true_eq]
 constructor
 ·rintro⟨h1,h2⟩
  refine⟨?_,za⟩
  rcases Nat.eq_zero_or_pos s.size with h|h
  ·exact absurd (GZ h) h1
  ·exact h
 ·rintro⟨h1,h2⟩
  refine⟨λe=>?_,za⟩
  subst e
  exact absurd h1 zf
theorem oc {s:ByteArray}:dT s=true↔s.size<=128:=by
 unfold dT
 simp only [decide_eq_true_eq]
 omega
structure M0 (o:cB):Prop where
 key:Bg o.key
 value:o.value.size<=128
 jK:o.jK.size<=128
 kind:o.kind=1\/o.kind=2\/o.kind=3\/o.kind=4\/(o.kind=5/\Bg o.dest/\o.dest≠o.key/\1<=o.aY/\o.aY<=1125899906842624)
theorem pn {o:cB}(h:may o=true):M0 o:=by
 unfold may at h
 have fin:∀ {p:Prop} [Decidable p] (k:p->(o.kind=1\/o.kind=2\/o.kind=3\/o.kind=4\/(o.kind=5/\Bg o.dest/\o.dest≠o.key/\1<=o.aY/\o.aY<=1125899906842624))),
  (if (decide p)=true then (if (keyed o.key)=true then (if (dT o.value)=true then dT o.jK else false) else false) else false)=true->M0 o:=by
  intro p _ k h
  split at h
  ·rename_i hp
   split at h
   ·rename_i h1
    split at h
    ·rename_i h2
     exact⟨nP.1 h1,oc.1 h2,oc.1 h,k (of_decide_eq_true hp)⟩
    ·cases h
   ·cases h
  ·cases h
 by_cases h1:(o.kind == 1)=true
 ·rw [if_pos h1] at h;exact fin (λ_=>.inl (by simpa using h1)) h
 rw [if_neg h1] at h
 by_cases h2:(o.kind == 3)=true
 ·rw [if_pos h2] at h;exact fin (λ_=>.inr (.inr (.inl (by simpa using h2)))) h
 rw [if_neg h2] at h
 by_cases h3:(o.kind == 4)=true
 ·rw [if_pos h3] at h;exact fin (λ_=>.inr (.inr (.inr (.inl (by simpa using h3))))) h
 rw [if_neg h3] at h
 by_cases h4:(o.kind == 2)=true
 ·rw [if_pos h4] at h;exact fin (λ_=>.inr (.inl (by simpa using h4))) h
 rw [if_neg h4] at h
 by_cases h5:(o.kind == 5)=true
 ·rw [if_pos h5] at h
  by_cases a1:(!(keyed o.dest))=true
  ·rw [if_pos a1] at h;cases h
  rw [if_neg a1] at h
  by_cases a2:decide (o.dest=o.key)=true
  ·rw [if_pos a2] at h;cases h
  rw [if_neg a2] at h
  by_cases a3:decide (o.aY<1)=true
  ·rw [if_pos a3] at h;cases h
  rw [if_neg a3] at h
  by_cases a4:decide (o.aY>1125899906842624)=true
  ·rw [if_pos a4] at h;cases h
  rw [if_neg a4] at h
  simp only [decide_eq_true_eq] at a2 a3 a4
  exact fin (λ_=>.inr (.inr (.inr (.inr ⟨by simpa using h5,nP.1 (by simpa using a1),a2,za,za⟩)))) h
 ·rw [if_neg h5] at h;cases h
theorem Bh {m:hX}{o:cB}(h:may o=false):kK m o=(⟨1,⟨#[]⟩⟩,m):=by unfold kK;rw [h];rfl
theorem Bi {m:hX}{o:cB}(h:may o=true) (hk:o.kind=1):kK m o=match bD m o.key with|none=>(⟨4,⟨#[]⟩⟩,m)|some v=>(⟨0,v⟩,m):=by
 unfold kK;rw [h,hk];cases hg:bD m o.key<;>simp [failed,yc,hg]
theorem Bj {m:hX}{o:cB}(h:may o=true) (hk:o.kind=2):kK m o=if full m o.key=true then (⟨7,⟨#[]⟩⟩,m) else (⟨0,⟨#[]⟩⟩,eB m o.key o.value):=by
 unfold kK;rw [h,hk];simp [failed,vy]
theorem Bk {m:hX}{o:cB}(h:may o=true) (hk:o.kind=3):kK m o=match bD m o.key with|none=>(⟨4,⟨#[]⟩⟩,m)|some v=>(⟨0,v⟩,mK m o.key):=by
 unfold kK;rw [h,hk];cases hg:bD m o.key<;>simp [failed,sb,hg]
theorem xt {m:hX}{o:cB}(h:may o=true) (hk:o.kind=4):kK m o=match bD m o.key with|none=>(⟨4,⟨#[]⟩⟩,m)|some v=>if v=o.jK then (⟨0,⟨#[]⟩⟩,eB m o.key o.value) else (⟨15,v⟩,m):=by
 unfold kK;rw [h,hk];cases hg:bD m o.key<;>simp [failed,qh,hg]
theorem sE:number aR=(0,false):=by decide +kernel
def nx (m:hX) (k:ByteArray):Int:=(number ((bD m k).getD ⟨#[]⟩)).1
theorem po {m:hX}{k:ByteArray}:full m k=true↔bD m k=none/\64<=m.length:=by
 unfold full
 cases hg:bD m k<;>simp
 omega
theorem tH {m:hX}{o:cB}(h:may o=true) (hk:o.kind=5):kK m o=match bD m o.key with
 | none=>(⟨4,⟨#[]⟩⟩,m)
 | some v =>
  if (number v).2=false\/(∃ w,bD m o.dest=some w/\(number w).2=false) then (⟨5,⟨#[]⟩⟩,m)
  else if (number v).1<o.aY then (⟨14,v⟩,m)
  else if 1125899906842624<nx m o.dest+o.aY then (⟨6,⟨#[]⟩⟩,m)
  else if full m o.dest=true then (⟨7,⟨#[]⟩⟩,m)
  else (⟨0,dec ((number v).1-o.aY)⟩,eB (eB m o.key (dec ((number v).1-o.aY))) o.dest (dec (nx m o.dest+o.aY))):=by
 obtain⟨_,_,_,hm⟩:=pn h
 have hm:1<=o.aY/\o.aY<=1125899906842624:=by
  rcases hm with h|h|h|h|h
  ·omega
  ·omega
  ·omega
  ·omega
  ·exact h.2.2.2
 unfold kK
 rw [h,hk]
 cases hg:bD m o.key with
 | none=>simp [failed]
 | some v =>
  simp [lf]
  by_cases h1:(number v).2=false
  ·simp [h1,failed]
  ·simp only [Bool.not_eq_false] at h1
   simp only [h1,Bool.true_eq_false,false_or,if_false]
   have hto:∀ w,bD m o.dest=some w->(number w).2=false->((number ((bD m o.dest).getD ⟨#[]⟩)).2=false):=λw hw h=>by rw [hw];exact h
   by_cases h2:∃ w,bD m o.dest=some w/\(number w).2=false
   ·obtain⟨w,hw,h3⟩:=h2
    rw [if_pos ⟨by rw [hw];rfl,by rw [hw];exact h3⟩,if_pos ⟨w,hw,h3⟩]
    rfl
   ·rw [if_neg (λhc=>by
     obtain⟨w,hw⟩:=Option.isSome_iff_exists.1 hc.1
     exact h2 ⟨w,hw,by have:=hc.2;rw [hw] at this;exact this⟩),if_neg h2]
    have hwr:0<=nx m o.dest/\nx m o.dest<=1125899906842624:=by
     unfold nx
     cases hd:bD m o.dest with
     | none=>simp [sE]
     | some w =>
      have:(number w).2=true:=by
       cases hq:(number w).2 with
       | true=>rfl
       | false=>exact absurd ⟨w,hd,hq⟩ h2
      exact(oE this).2
    have hw2:IntKind.u64.wrap ((number ((bD m o.dest).getD ⟨#[]⟩)).1+o.aY)=nx m o.dest+o.aY:=HD (by unfold nx at hwr;omega) (by unfold nx at hwr;omega)
    rw [hw2]
    simp only [failed]
theorem qV {n:Int}(h0:0<=n) (h1:n<18446744073709551616):(dec n).size<=128:=by
 have:=(qS n h0 h1).2;omega
theorem vh {m:hX}{k:ByteArray}(h:¬ ∃ w,bD m k=some w/\(number w).2=false):0<=nx m k/\nx m k<=1125899906842624:=by
 unfold nx
 cases hd:bD m k with
 | none=>simp [sE]
 | some w =>
  have:(number w).2=true:=by
   cases hq:(number w).2 with
   | true=>rfl
   | false=>exact absurd ⟨w,hd,hq⟩ h
  exact(oE this).2
theorem KD {m:hX}(o:cB) (hi:Inv m):Inv (kK m o).2:=by
 cases hm:may o with
 | false=>rw [Bh hm];exact hi
 | true =>
  have F:=pn hm
  rcases F.kind with hk|hk|hk|hk|hk
  ·rw [Bi hm hk];cases bD m o.key<;>exact hi
  ·rw [Bj hm hk]
   split
   ·exact hi
   ·rename_i hf
    refine hi.eB F.key F.value ?_
    rw [po] at hf
    cases hg:bD m o.key with
    | some v=>exact .inl rfl
    | none =>
     right
     rcases Nat.lt_or_ge m.length 64 with h|h
     ·exact h
     ·exact absurd ⟨hg,h⟩ hf
  ·rw [Bk hm hk];cases bD m o.key
   ·exact hi
   ·exact hi.mK _
  ·rw [xt hm hk]
   cases hg:bD m o.key with
   | none=>exact hi
   | some v =>
    simp only
    split
    ·exact hi.eB F.key F.value (.inl (by rw [hg];rfl))
    ·exact hi
  ·obtain⟨hk,hd,hne,ha1,ha2⟩:=hk
   rw [tH hm hk]
   cases hg:bD m o.key with
   | none=>exact hi
   | some v =>
    simp only
    split
    ·exact hi
    ·rename_i hn
     split
     ·exact hi
     ·rename_i hl
      split
      ·exact hi
      ·rename_i ht
       split
       ·exact hi
       ·rename_i hf
        have hv:(number v).2=true:=by
         cases hq:(number v).2 with
         | true=>rfl
         | false=>exact absurd (.inl hq) hn
        obtain⟨-,hv1,hv2⟩:=oE hv
        obtain⟨ht1,ht2⟩:=vh (m:=m) (k:=o.dest) (λhc=>hn (.inr hc))
        refine(hi.eB F.key (qV za za) (.inl (by rw [hg];rfl))).eB hd (qV za za) ?_
        rw [y3,if_neg (λe=>hne e.symm),vf,hg]
        rw [po] at hf
        simp only [Option.isSome_some,if_true]
        cases hg2:bD m o.dest with
        | some w=>exact .inl rfl
        | none =>
         right
         rcases Nat.lt_or_ge m.length 64 with h|h
         ·exact h
         ·exact absurd ⟨hg2,h⟩ hf
abbrev TS:=List aG×hX
def Valid (r:bE):Prop:=1<=r.aQ/\r.aQ<=8/\r.time≠0
instance (r:bE):Decidable (Valid r):=by unfold Valid;infer_instance
def ix (r:bE):Nat:=Int.toNat (r.aQ-1)
theorem CJ {tl:List aG}{m:hX}{r:bE}(hl:tl.length=8):qU tl m r =
 if Valid r then
  (if r.time<(tl.getD (ix r) aM).time then ((⟨13,⟨#[]⟩⟩,false),tl,m)
  else if r.time=(tl.getD (ix r) aM).time then (((tl.getD (ix r) aM).cQ,false),tl,m)
  else (((kK m r.op).1,true),tl.set (ix r) ⟨r.time,(kK m r.op).1⟩,(kK m r.op).2))
 else ((⟨1,⟨#[]⟩⟩,false),tl,m):=by
 unfold qU
 by_cases hc:lN r.aQ=true
 ·have hc':=pT.1 hc
  rw [if_neg (by rw [hc];decide)]
  by_cases ht:r.time=0
  ·rw [if_pos (by rw [ht];rfl),if_neg (show ¬ Valid r from λh=>h.2.2 ht)]
  ·have ht2:¬ (r.time == 0)=true:=by simpa using ht
   rw [if_neg ht2,if_pos (show Valid r from⟨hc'.1,hc'.2,ht⟩)]
   have hi:ix r<tl.length:=by unfold ix;omega
   by_cases h1:r.time<(tl.getD (ix r) aM).time
   ·rw [if_pos (show decide (r.time<(tl.getD (Int.toNat (r.aQ-1)) aM).time)=true from decide_eq_true h1),if_pos h1]
   ·rw [if_neg (show ¬ decide (r.time<(tl.getD (Int.toNat (r.aQ-1)) aM).time)=true from λhc=>h1 (of_decide_eq_true hc)),if_neg h1]
    by_cases h2:r.time=(tl.getD (ix r) aM).time
    ·rw [if_pos (show(r.time == (tl.getD (Int.toNat (r.aQ-1)) aM).time)=true from beq_iff_eq.2 h2),if_pos h2]
     rfl
    ·rw [if_neg (show ¬ (r.time == (tl.getD (Int.toNat (r.aQ-1)) aM).time)=true from λhc=>h2 (beq_iff_eq.1 hc)),if_neg h2]
     have hg:∀ v:aG,(tl.set (Int.toNat (r.aQ-1)) v).getD (Int.toNat (r.aQ-1)) aM=v:=λv=>by
      rw [List.getD_eq_getElem?_getD,List.getElem?_set,if_pos rfl,if_pos (show Int.toNat (r.aQ-1)<tl.length from hi)];rfl
     rw [hg]
     rfl
 ·rw [if_pos (by simpa using hc),if_neg (λh=>hc (pT.2 ⟨h.1,h.2.1⟩))]
structure Fw (r:bR):Prop where
 err:0<=r.err/\r.err<=15
 value:r.value.size<=128
theorem qW {e:Int}{v:ByteArray}(h1:0<=e/\e<=15) (h2:v.size<=128):Fw ⟨e,v⟩:=⟨h1,h2⟩
theorem iY {e:Int}(h1:0<=e/\e<=15):Fw ⟨e,⟨#[]⟩⟩:=⟨h1,by show(0:Nat)<=128;omega⟩
theorem Inv.get {m:hX}(hi:Inv m){k v:ByteArray}(h:bD m k=some v):v.size<=128:=hi.val _ (oR h)
theorem KE {m:hX}(o:cB) (hi:Inv m):Fw (kK m o).1:=by
 cases hm:may o with
 | false=>rw [Bh hm];exact iY za
 | true =>
  have F:=pn hm
  rcases F.kind with hk|hk|hk|hk|hk
  ·rw [Bi hm hk]
   cases hg:bD m o.key with
   | none=>exact iY za
   | some v=>exact qW za (hi.get hg)
  ·rw [Bj hm hk]
   split
   ·exact iY za
   ·exact iY za
  ·rw [Bk hm hk]
   cases hg:bD m o.key with
   | none=>exact iY za
   | some v=>exact qW za (hi.get hg)
  ·rw [xt hm hk]
   cases hg:bD m o.key with
   | none=>exact iY za
   | some v =>
    simp only
    split
    ·exact iY za
    ·exact qW za (hi.get hg)
  ·obtain⟨hk,hd,hne,ha1,ha2⟩:=hk
   rw [tH hm hk]
   cases hg:bD m o.key with
   | none=>exact iY za
   | some v =>
    simp only
    split
    ·exact iY za
    ·rename_i hn
     split
     ·exact qW za (hi.get hg)
     ·rename_i hl
      split
      ·exact iY za
      ·split
       ·exact iY za
       ·have hv:(number v).2=true:=by
         cases hq:(number v).2 with
         | true=>rfl
         | false=>exact absurd (.inl hq) hn
        obtain⟨-,hv1,hv2⟩:=oE hv
        exact qW za (qV za za)
structure Jb (x:aG):Prop where
 time:0<=x.time/\x.time<=18446744073709551615
 rep:Fw x.cQ
theorem Jc:Jb aM:=⟨by show(0:Int)<=0/\(0:Int)<=18446744073709551615;omega,iY za⟩
structure ux (s:TS):Prop where
 len:s.1.length=8
 inv:Inv s.2
 all:∀ x∈s.1,Jb x
theorem KF {s:TS}(r:bE) (h:ux s) (ht:0<=r.time/\r.time<=18446744073709551615):ux (qU s.1 s.2 r).2:=by
 rw [CJ h.len]
 split
 ·split
  ·exact h
  ·split
   ·exact h
   ·refine⟨by simp only [List.length_set];exact h.len,KD _ h.inv,λx hx=>?_⟩
    rcases List.mem_or_eq_of_mem_set hx with hx|rfl
    ·exact h.all x hx
    ·exact⟨ht,KE _ h.inv⟩
 ·exact h
theorem Mg:ux (List.replicate 8 aM,[]):=⟨by simp,KC,λx hx=>by rw [List.eq_of_mem_replicate hx];exact Jc⟩
section
variable {s : TS} {r : bE}
end
end Go.Proofs.YtkmhmeldgfpfeaaGreatDoor
namespace Go.Proofs.YtkmhmeldgfpfeaaGreatDoor
open Go.RowKit Go.Sx
set_option linter.unusedVariables false
set_option linter.unusedSimpArgs false
set_option linter.unnecessarySimpa false
set_option maxRecDepth 100000
section
variable {w0 w : World} {L : List cA}
def vA (s:ByteArray):Bool :=
 ((decide (((s.size:Nat):Int) >= 1)) && (decide (((s.size:Nat):Int)<=32)))
theorem uy s (hs:St w0 L w):Cs Tryz.prog 150 #[.string s] w λrv w'=>rv=.bool (vA s)/\St w0 L w':=by
 refine cL Tryz.func150 Tryz.ntmps150 (En (Lq (Ls (Dz (bH.join (T:=Unit) (E:=λ_=>[(2,.bool ((decide ((s.size:Int) >= 1)) && (decide ((s.size:Int)<=32))))]) (F:=λ_ w=>St w0 L w) ?_ ?_)))))
 ·refine Zg [] (Zr 0 4 [] (dB 6 (decide ((s.size:Int) >= 1)) (λa=>?_) (λa=>?_)))
  ·exact En (bO (Dz (gB [2] () (decide ((s.size:Int)<=32)) (by first|rfl|simp [Hb,a]) hs)))
  ·exact En (bO (Dz (gB [2] () false (by first|rfl|simp [Hb,a]) hs)))
 intro _ e d
 refine Zt (Ze (bL (v:=.bool ((decide ((s.size:Int) >= 1)) && (decide ((s.size:Int)<=32)))) ?_))
 have hr:vA s=((decide ((s.size:Int) >= 1)) && (decide ((s.size:Int)<=32))):=by rw [vA]
 exact⟨by first|(rw [hr];done)|(rw [hr];rfl),d.drop 0⟩
def rvalue (s:ByteArray):Bool :=
 (decide ((s.size:Int)<=128))
theorem oF s (hs:St w0 L w):Cs Tryz.prog 151 #[.string s] w λrv w'=>rv=.bool (rvalue s)/\St w0 L w':=by
 refine cL Tryz.func151 Tryz.ntmps151 (En (Lq (Lq (Le (Dz (bL (v:=.bool (decide ((s.size:Int)<=128))) ?_))))))
 have hr:rvalue s=(decide ((s.size:Int)<=128)):=by rw [rvalue]
 exact⟨by first|(rw [hr];done)|(rw [hr];rfl),hs.drop 0⟩
def kC (o:cB):Bool :=
 if (!(vA o.key))=true then
  false
 else
  if ((o.kind:Int) == 1)=true then
   (decide (o=(⟨o.kind,o.key,aR,aR,aR,0⟩:cB)))
  else
   if ((o.kind:Int) == 3)=true then
    (decide (o=(⟨o.kind,o.key,aR,aR,aR,0⟩:cB)))
   else
    if ((o.kind:Int) == 2)=true then
     if (decide (o=(⟨o.kind,o.key,o.value,aR,aR,0⟩:cB)))=true then
      (rvalue o.value)
     else
      false
    else
     if ((o.kind:Int) == 4)=true then
      if (decide (o=(⟨o.kind,o.key,o.value,o.jK,aR,0⟩:cB)))=true then
       if (rvalue o.value)=true then
        (rvalue o.jK)
       else
        false
      else
       false
     else
      if ((o.kind:Int) == 5)=true then
       if (decide (o=(⟨o.kind,o.key,aR,aR,o.dest,o.aY⟩:cB)))=true then
        if (vA o.dest)=true then
         if (!(decide (o.dest=o.key)))=true then
          if (decide ((o.aY:Int) >= 1))=true then
           (decide ((o.aY:Int)<=1125899906842624))
          else
           false
         else
          false
        else
         false
       else
        false
      else
       false
theorem Er (o:cB) (hs:St w0 L w):Cs Tryz.prog 197 #[.agg (cB.cells o)] w λrv w'=>rv=.bool (kC o)/\St w0 L w':=by
 refine cL Tryz.func197 Tryz.ntmps197 (En (Ls (Lg [0] (Dz (hG (cB.cells o) hs λb1 w2 a8=>Lz (Ls (Dz (bX [5,6] (Hl 1 0 0 a8 (Hl 3 0 1 a8 Hz)) (eN Ns a8 λb4 w5 b7=>Lo (Dz (Zu 0 0 #[.int .u8 o.kind,.string o.key,.string aR,.string aR,.string aR,.int .u64 0] b7 λw7 b3=>Lo (Ld (Lt (Ls (Ls (Dz (bX [2] (Hl 1 1 1 b3 Hz) (eE (uy o.key  b3) λd1 e=>Lz (Dz (cZ (t:=!(vA o.key)) (λa=>?_) (λa=>?_)))))))))))))))))))))
 ·refine En (Lq (Le (Ly (Dz (bL (v:=.bool false) ?_)))))
  have hr:kC o=false:=by rw [kC,if_pos a]
  exact⟨by first|(rw [hr];done)|(rw [hr];rfl),e.drop 2⟩
 ·refine Zk (Zt (Zs (Zs (cS (Hl 1 1 0 e Hz) (En (Lt (Lb (Ls (Lq (Dz (cZ (t:=(o.kind:Int) == 1) (λd=>?_) (λd=>?_))))))))))))
  ·refine Zk (Zt (cZ (t:=(o.kind:Int) == 1) (λ_=>En (Ls (Lg [] (Dz (Zp 0 2 [(0,.agg (cB.cells o)),(1,.agg #[.int .u8 o.kind,.string o.key,.string aR,.string aR,.string aR,.int .u64 0])] [(0,[.prop (Array.size (cB.cells o)=6),.cells ⟨b1,0,none⟩ (cB.cells o)]),(1,[.prop (Array.size (#[.int .u8 o.kind,.string o.key,.string aR,.string aR,.string aR,.int .u64 0]:Array Value)=6),.cells ⟨b4,0,none⟩ #[.int .u8 o.kind,.string o.key,.string aR,.string aR,.string aR,.int .u64 0]])] (ak (aL zk (eM (e.cells 1 0 rfl zk) aO)) (ak (aL zk (eM (e.cells 0 0 rfl zk) aO)) gQ)) (aU.jO rfl zk (b:=true) (t:=43) (xs:=cB.cells o) (ys:=cB.cells (⟨o.kind,o.key,aR,aR,aR,0⟩:cB)) (m:=2) zk zk zf zk (r:=decide (o=(⟨o.kind,o.key,aR,aR,aR,0⟩:cB))) (lE  (rZ o (⟨o.kind,o.key,aR,aR,aR,0⟩:cB))) (En (bO (Lt (Le (Ll (Ly (Dz (bL (v:=.bool (decide (o=(⟨o.kind,o.key,aR,aR,aR,0⟩:cB)))) ?_)))))))))))))) (λhc=>absurd (d.symm.trans hc) zf)))
   have hr:kC o=(decide (o=(⟨o.kind,o.key,aR,aR,aR,0⟩:cB))):=by rw [kC,nI a,if_pos d]
   exact⟨by first|(rw [hr];done)|(rw [hr];rfl),e.drop 2⟩
  ·refine Za (Zt (cZ (t:=(o.kind:Int) == 3) (λf=>?_) (λf=>?_)))
   ·refine En (Ls (Lg [] (Dz (Zp 0 2 [(0,.agg (cB.cells o)),(1,.agg #[.int .u8 o.kind,.string o.key,.string aR,.string aR,.string aR,.int .u64 0])] [(0,[.prop (Array.size (cB.cells o)=6),.cells ⟨b1,0,none⟩ (cB.cells o)]),(1,[.prop (Array.size (#[.int .u8 o.kind,.string o.key,.string aR,.string aR,.string aR,.int .u64 0]:Array Value)=6),.cells ⟨b4,0,none⟩ #[.int .u8 o.kind,.string o.key,.string aR,.string aR,.string aR,.int .u64 0]])] (ak (aL zk (eM (e.cells 1 0 rfl zk) aO)) (ak (aL zk (eM (e.cells 0 0 rfl zk) aO)) gQ)) (aU.jO rfl zk (b:=true) (t:=43) (xs:=cB.cells o) (ys:=cB.cells (⟨o.kind,o.key,aR,aR,aR,0⟩:cB)) (m:=2) zk zk zf zk (r:=decide (o=(⟨o.kind,o.key,aR,aR,aR,0⟩:cB))) (lE  (rZ o (⟨o.kind,o.key,aR,aR,aR,0⟩:cB))) (En (bO (Lt (Le (Ll (Ly (Dz (bL (v:=.bool (decide (o=(⟨o.kind,o.key,aR,aR,aR,0⟩:cB)))) ?_)))))))))))))
    have hr:kC o=(decide (o=(⟨o.kind,o.key,aR,aR,aR,0⟩:cB))):=by rw [kC,nI a,nI d,if_pos f]
    exact⟨by first|(rw [hr];done)|(rw [hr];rfl),e.drop 2⟩
   ·refine En (Lq (Dz (cZ (t:=(o.kind:Int) == 2) (λi=>?_) (λi=>?_))))
    ·refine Zs (bX [3] (Hl 1 1 2 e Hz) (Zu 0 2 #[.int .u8 o.kind,.string o.key,.string o.value,.string aR,.string aR,.int .u64 0] e λd2 a2=>Lo (Ld (Lt (Ls (Lg [6] (Dz (Zp 0 2 [(0,.agg (cB.cells o)),(1,.agg #[.int .u8 o.kind,.string o.key,.string o.value,.string aR,.string aR,.int .u64 0])] [(0,[.prop (Array.size (cB.cells o)=6),.cells ⟨b1,0,none⟩ (cB.cells o)]),(1,[.prop (Array.size (#[.int .u8 o.kind,.string o.key,.string o.value,.string aR,.string aR,.int .u64 0]:Array Value)=6),.cells ⟨b4,0,none⟩ #[.int .u8 o.kind,.string o.key,.string o.value,.string aR,.string aR,.int .u64 0]])] (ak (aL zk (eM (a2.cells 1 0 rfl zk) aO)) (ak (aL zk (eM (a2.cells 0 0 rfl zk) aO)) gQ)) (aU.jO rfl zk (b:=true) (t:=43) (xs:=cB.cells o) (ys:=cB.cells (⟨o.kind,o.key,o.value,aR,aR,0⟩:cB)) (m:=2) zk zk zf zk (r:=decide (o=(⟨o.kind,o.key,o.value,aR,aR,0⟩:cB))) (lE  (rZ o (⟨o.kind,o.key,o.value,aR,aR,0⟩:cB))) (Zr 3 1 [] (dB 29 (decide (o=(⟨o.kind,o.key,o.value,aR,aR,0⟩:cB))) (λa3=>?_) (λa3=>?_))))))))))))
     ·refine Zj (Hl 5 1 2 a2 Hz) (eE (oF o.value  a2) λd4 c3=>Lz (Le (Ll (Ly (Dz (bL (v:=.bool (rvalue o.value)) ?_))))))
      have hr:kC o=(rvalue o.value):=by rw [kC,nI a,nI d,nI f,if_pos i,if_pos a3]
      exact⟨by first|(rw [hr];done)|(rw [hr];rfl),c3.drop 2⟩
     ·refine En (Lw (gH (En (bO (Lt (Le (Ll (Ly (Dz (bL (v:=.bool false) ?_))))))))))
      have hr:kC o=false:=by rw [kC,nI a,nI d,nI f,if_pos i,nI a3]
      exact⟨by first|(rw [hr];done)|(rw [hr];rfl),a2.drop 2⟩
    ·refine En (Lq (Dz (cZ (t:=(o.kind:Int) == 4) (λq=>?_) (λq=>?_))))
     ·refine Zs (bX [3] (Hl 1 1 2 e Hz) (Zu 0 2 #[.int .u8 o.kind,.string o.key,.string o.value,.string aR,.string aR,.int .u64 0] e λd5 b5=>Lo (Ld (Lt (Ls (Dz (bX [3] (Hl 1 1 3 b5 Hz) (Zu 0 3 #[.int .u8 o.kind,.string o.key,.string o.value,.string o.jK,.string aR,.int .u64 0] b5 λd6 a4=>Lo (Ld (Lt (Ls (Lg [6,11] (Dz (Zp 0 2 [(0,.agg (cB.cells o)),(1,.agg #[.int .u8 o.kind,.string o.key,.string o.value,.string o.jK,.string aR,.int .u64 0])] [(0,[.prop (Array.size (cB.cells o)=6),.cells ⟨b1,0,none⟩ (cB.cells o)]),(1,[.prop (Array.size (#[.int .u8 o.kind,.string o.key,.string o.value,.string o.jK,.string aR,.int .u64 0]:Array Value)=6),.cells ⟨b4,0,none⟩ #[.int .u8 o.kind,.string o.key,.string o.value,.string o.jK,.string aR,.int .u64 0]])] (ak (aL zk (eM (a4.cells 1 0 rfl zk) aO)) (ak (aL zk (eM (a4.cells 0 0 rfl zk) aO)) gQ)) (aU.jO rfl zk (b:=true) (t:=43) (xs:=cB.cells o) (ys:=cB.cells (⟨o.kind,o.key,o.value,o.jK,aR,0⟩:cB)) (m:=2) zk zk zf zk (r:=decide (o=(⟨o.kind,o.key,o.value,o.jK,aR,0⟩:cB))) (lE  (rZ o (⟨o.kind,o.key,o.value,o.jK,aR,0⟩:cB))) (Zr 3 1 [] (dB 45 (decide (o=(⟨o.kind,o.key,o.value,o.jK,aR,0⟩:cB))) (λa0=>?_) (λa0=>?_))))))))))))))))))
      ·refine Zj (Hl 5 1 2 a4 Hz) (eE (oF o.value  a4) λd8 a9=>Lo (Dz (Zr 7 2 [] (dB 50 (rvalue o.value) (λb0=>?_) (λb0=>?_)))))
       ·refine Zj (Hl 10 1 3 a9 Hz) (eE (oF o.jK  a9) λe0 c6=>Lz (Le (Ll (Ly (Dz (bL (v:=.bool (rvalue o.jK)) ?_))))))
        have hr:kC o=(rvalue o.jK):=by rw [kC,nI a,nI d,nI f,nI i,if_pos q,if_pos a0,if_pos b0]
        exact⟨by first|(rw [hr];done)|(rw [hr];rfl),c6.drop 2⟩
       ·refine En (Lw (gH (En (bO (Lt (Le (Ll (Ly (Dz (bL (v:=.bool false) ?_))))))))))
        have hr:kC o=false:=by rw [kC,nI a,nI d,nI f,nI i,if_pos q,if_pos a0,nI b0]
        exact⟨by first|(rw [hr];done)|(rw [hr];rfl),a9.drop 2⟩
      ·refine En (Lw (gH (En (Lw (gH (En (bO (Lt (Le (Ll (Ly (Dz (bL (v:=.bool false) ?_)))))))))))))
       have hr:kC o=false:=by rw [kC,nI a,nI d,nI f,nI i,if_pos q,nI a0]
       exact⟨by first|(rw [hr];done)|(rw [hr];rfl),a4.drop 2⟩
     ·refine En (Lq (Dz (cZ (t:=(o.kind:Int) == 5) (λu=>?_) (λu=>?_))))
      ·refine Zs (bX [3] (Hl 1 1 4 e Hz) (Zu 0 4 #[.int .u8 o.kind,.string o.key,.string aR,.string aR,.string o.dest,.int .u64 0] e λe1 b6=>Lo (Ld (Lt (Ls (Dz (bX [3] (Hl 1 1 5 b6 Hz) (Zu 0 5 #[.int .u8 o.kind,.string o.key,.string aR,.string aR,.string o.dest,.int .u64 o.aY] b6 λe2 a5=>Lo (Ld (Lt (Ls (Lg [6] (Dz (Zp 0 2 [(0,.agg (cB.cells o)),(1,.agg #[.int .u8 o.kind,.string o.key,.string aR,.string aR,.string o.dest,.int .u64 o.aY])] [(0,[.prop (Array.size (cB.cells o)=6),.cells ⟨b1,0,none⟩ (cB.cells o)]),(1,[.prop (Array.size (#[.int .u8 o.kind,.string o.key,.string aR,.string aR,.string o.dest,.int .u64 o.aY]:Array Value)=6),.cells ⟨b4,0,none⟩ #[.int .u8 o.kind,.string o.key,.string aR,.string aR,.string o.dest,.int .u64 o.aY]])] (ak (aL zk (eM (a5.cells 1 0 rfl zk) aO)) (ak (aL zk (eM (a5.cells 0 0 rfl zk) aO)) gQ)) (aU.jO rfl zk (b:=true) (t:=43) (xs:=cB.cells o) (ys:=cB.cells (⟨o.kind,o.key,aR,aR,o.dest,o.aY⟩:cB)) (m:=2) zk zk zf zk (r:=decide (o=(⟨o.kind,o.key,aR,aR,o.dest,o.aY⟩:cB))) (lE  (rZ o (⟨o.kind,o.key,aR,aR,o.dest,o.aY⟩:cB))) (Zr 3 1 [] (dB 66 (decide (o=(⟨o.kind,o.key,aR,aR,o.dest,o.aY⟩:cB))) (λx=>?_) (λx=>?_))))))))))))))))))
       ·refine Zj (Hl 5 1 4 a5 Hz) (eE (uy o.dest  a5) λe4 z=>Lo (Dz (Zr 7 2 [] (dB 71 (vA o.dest) (λa6=>?_) (λa6=>?_)))))
        ·refine Zp 9 7 [(10,.gen [.string o.dest]),(12,.gen [.string o.key]),(13,.eJ (.bool (!(decide (o.dest=o.key)))) (.gen []))] [(10,[.cell ⟨b1,4,none⟩ (.string o.dest)]),(12,[.cell ⟨b1,1,none⟩ (.string o.key)]),(13,[.prop (Value.bool (!(o.dest.toList == o.key.toList))=Value.bool (!(decide (o.dest=o.key))))])] (ak (bP (z.cell 1 rfl zk) aO) (ak (bP (z.cell 1 rfl zk) aO) (ak (aL (LY _ _) aO) gQ))) (dB 78 (!(decide (o.dest=o.key))) (λa1=>?_) (λa1=>?_))
         ·have b2:=jV a1
          refine gS 16 5 (Hl 17 1 5 z Hz) (dB 83 (decide ((o.aY:Int) >= 1)) (λa7=>?_) (λa7=>?_))
          ·refine lD (Hl 22 1 5 z Hz) (Zt (Ze (Zl (Zy (bL (v:=.bool (decide ((o.aY:Int)<=1125899906842624))) ?_)))))
           have hr:kC o=(decide ((o.aY:Int)<=1125899906842624)):=by rw [kC,nI a,nI d,nI f,nI i,nI q,if_pos u,if_pos x,if_pos a6,if_pos a1,if_pos a7]
           exact⟨by first|(rw [hr];done)|(rw [hr];rfl),z.drop 2⟩
          ·refine En (bO (Lt (Le (Ll (Ly (Dz (bL (v:=.bool false) ?_)))))))
           have hr:kC o=false:=by rw [kC,nI a,nI d,nI f,nI i,nI q,if_pos u,if_pos x,if_pos a6,if_pos a1,nI a7]
           exact⟨by first|(rw [hr];done)|(rw [hr];rfl),z.drop 2⟩
         ·have b2:=jN a1
          refine En (bO (Lt (Le (Ll (Ly (Dz (bL (v:=.bool false) ?_)))))))
          have hr:kC o=false:=by rw [kC,nI a,nI d,nI f,nI i,nI q,if_pos u,if_pos x,if_pos a6,nI a1]
          exact⟨by first|(rw [hr];done)|(rw [hr];rfl),z.drop 2⟩
        ·refine En (bO (Lt (Le (Ll (Ly (Dz (bL (v:=.bool false) ?_)))))))
         have hr:kC o=false:=by rw [kC,nI a,nI d,nI f,nI i,nI q,if_pos u,if_pos x,nI a6]
         exact⟨by first|(rw [hr];done)|(rw [hr];rfl),z.drop 2⟩
       ·refine En (Lw (gH (En (bO (Lt (Le (Ll (Ly (Dz (bL (v:=.bool false) ?_))))))))))
        have hr:kC o=false:=by rw [kC,nI a,nI d,nI f,nI i,nI q,if_pos u,nI x]
        exact⟨by first|(rw [hr];done)|(rw [hr];rfl),a5.drop 2⟩
      ·refine En (Lk (Lm (Lt (Lq (Le (Dz (bL (v:=.bool false) ?_)))))))
       have hr:kC o=false:=by rw [kC,nI a,nI d,nI f,nI i,nI q,nI u]
       exact⟨by first|(rw [hr];done)|(rw [hr];rfl),e.drop 2⟩
def dC (l:List aH) (k:ByteArray):Nat:=(l.takeWhile λx=>slt x.key k).length
theorem Jd (l:List aH) (k:ByteArray):dC l k<=l.length:=(List.takeWhile_sublist _).length_le
theorem Mh {l:List aH}{k:ByteArray}{n:Nat}(hn:n<=l.length) (h1:∀ x∈l.take n,slt x.key k=true) (h2:∀ (h:n<l.length),slt (l[n]'h).key k=false):dC l k=n:=by
 induction l generalizing n with
 | nil=>simp at hn;subst hn;rfl
 | cons x l ih =>
  cases n with
  | zero =>
   have:=h2 zG
   simp only [List.getElem_cons_zero] at this
   simp [dC,List.takeWhile,this]
  | succ n =>
   have a:=h1 x zG
   have b:=ih (n:=n) (by simpa using hn) (λy hy=>h1 y (by simp [hy])) (λh=>h2 (by simp only [List.length_cons];omega))
   simp only [dC,List.takeWhile,a,List.length_cons] at b ⊢
   omega
def xu (l:List aH) (k:ByteArray):Bool:=decide (dC l k<l.length) && decide ((l.getD (dC l k) aT).key=k)
theorem Mi (l:List aH) (k:ByteArray):xu l k=(decide (((dC l k:Nat):Int)<(l.length:Nat)) && decide ((l.getD (dC l k) aT).key=k)):=by
 rw [xu]
 congr 1
 rw [decide_eq_decide]
 omega
theorem Je {l:List aH}{k:ByteArray}{n:Nat}(hn:n<=l.length) (h1:∀ x∈l.take n,slt x.key k=true) (h2:(decide ((n:Int)<(l.length:Nat)) && slt (l.getD n aT).key k)=false):dC l k=n:=by
 refine Mh hn h1 λh=>?_
 rw [decide_eq_true za,Bool.true_and,List.getD_eq_getElem?_getD,List.getElem?_eq_getElem h] at h2
 exact h2
theorem Es {l:List aH}{k:ByteArray}{n:Nat}(h1:∀ x∈l.take n,slt x.key k=true) (h2:(decide ((n:Int)<(l.length:Nat)) && slt (l.getD n aT).key k)=true):n<l.length/\∀ x∈l.take (n+1),slt x.key k=true:=by
 rw [Bool.and_eq_true] at h2
 have hn:n<l.length:=by have:=of_decide_eq_true h2.1;omega
 refine⟨hn,λx hx=>?_⟩
 rw [bA (d:=aT) hn] at hx
 rcases List.mem_append.1 hx with hx|hx
 ·exact h1 x hx
 ·rw [List.mem_singleton.1 hx];exact h2.2
theorem find_spec {q:Nat}{ad:Option Addr}{c:Nat}(l:List aH) key (hl:l.length<=1000000000000) (hs:St w0 (aC q #[.slice ad l.length c] 144::Sl ad c 132 2 aH.cells l::L) w):Cs Tryz.prog 200 #[zP q 0,.string key] w λrv w'=>rv=.tuple #[.int .i64 (dC l key:Nat),.bool (xu l key)]/\dC l key<=l.length/\St w0 (aC q #[.slice ad l.length c] 144::Sl ad c 132 2 aH.cells l::L) w':=by
 refine cL Tryz.func200 Tryz.ntmps200 (En (Lq (Lq (Ls (Lb (Dz (bH.loop (T:=Nat) (λgg=>[(0,zP q 0),(1,.string key),(4,.int .i64 0),(5,.bool false),(6,.int .i64 (gg:Nat))]) (λgg w=>(gg<=l.length/\∀ x∈l.take gg,slt x.key key=true)/\St w0 (aC q #[.slice ad l.length c] 144::Sl ad c 132 2 aH.cells l::L) w) (λgg=>l.length-gg) 0 [0,1,4,5,6] zk ⟨⟨Nat.zero_le _,λx hx=>by simp at hx⟩,hs⟩ ?_)))))))
 rintro k w1 ⟨hp,d⟩
 refine Zs (Zs (bH.join (T:=Unit) (E:=λ_=>[(25,.bool ((decide ((k:Int)<(l.length:Nat))) && (slt ((l.getD k aT).key) key))),(0,zP q 0),(1,.string key),(4,.int .i64 0),(5,.bool false),(6,.int .i64 (k:Nat))]) (F:=λ_ w=>St w0 (aC q #[.slice ad l.length c] 144::Sl ad c 132 2 aH.cells l::L) w) ?_ ?_))
 ·refine Zg [] (gS 0 8 (Hl 4 0 0 d Hz) (dB 14 (decide ((k:Int)<(l.length:Nat))) (λa=>?_) (λa=>?_)))
  ·have z:=of_decide_eq_true a
   have hk:k<l.length:=za
   obtain⟨i,rfl⟩:=Sl.isSome (d.at_ 1 rfl) za
   exact lD (Hl 11 0 0 d (Hx 13 (k:Int) (l.length:Int) i 0 2 (Hg 15 (.gen [.string ((l.getD k aT).key)]) [.cell ⟨i,0+(k*2),none⟩ (.string ((l.getD k aT).key))] (bP (aB.dX (d.rows 1 rfl gG.size aT) (k:=k) zo (j:=0) zf zk) aO) (Hg 17 (.eJ (.bool (slt ((l.getD k aT).key) key)) (.gen [])) [.prop (Value.bool (Op.bytesLess ((l.getD k aT).key).toList key.toList)=Value.bool (slt ((l.getD k aT).key) key))] (aL rfl aO) Hz)))) (aN.pick [25,0,1,4,5,6] (S':=[(25,.bool (slt ((l.getD k aT).key) key)),(0,zP q 0),(1,.string key),(4,.int .i64 0),(5,.bool false),(6,.int .i64 (k:Nat))]) zk (aN.eZ () (by first|rfl|(simp only [a,Bool.not_true,Bool.not_false,Bool.true_or,Bool.false_or,Bool.true_and,Bool.false_and,Bool.or_true,Bool.or_false,Bool.and_true,Bool.and_false];done)|(simp [a];done)) d))
  ·exact En (bO (Dz (aN.pick [25,0,1,4,5,6] (S':=[(25,.bool false),(0,zP q 0),(1,.string key),(4,.int .i64 0),(5,.bool false),(6,.int .i64 (k:Nat))]) zk (aN.eZ () (by first|rfl|(simp only [a,Bool.not_true,Bool.not_false,Bool.true_or,Bool.false_or,Bool.true_and,Bool.false_and,Bool.or_true,Bool.or_false,Bool.and_true,Bool.and_false];done)|(simp [a];done)) d))))
 intro _ w7 o
 refine Zt (cZ (t:=(decide ((k:Int)<(l.length:Nat))) && (slt ((l.getD k aT).key) key)) (λf=>?_) (λf=>?_))
 ·have a0:=(Bool.and_eq_true_iff.1 f).1
  have a4:(slt ((l.getD k aT).key) key)=true:=(Bool.and_eq_true_iff.1 f).2
  have hgo:=f
  exact Zk (Zt (Zb (cS (dW 1 ((k:Nat)+1) Hz) (Zm (aN.back (k+1) [0,1,4,5,6] zk (by show l.length-(k+1)<l.length-k;have:=(Es hp.2 hgo).1;omega) ⟨⟨by have:=(Es hp.2 hgo).1;omega,(Es hp.2 hgo).2⟩,o⟩)))))
 ·have hf:dC l key=k:=Je hp.1 hp.2 f
  refine Zx (aN.cJ (aN.fJ (aN.iT (Zt (Zs (bH.join (T:=Unit) (E:=λ_=>[(5,.bool ((decide ((k:Int)<(l.length:Nat))) && (decide (((l.getD k aT).key)=key)))),(4,.int .i64 (k:Nat))]) (F:=λ_ w=>St w0 (aC q #[.slice ad l.length c] 144::Sl ad c 132 2 aH.cells l::L) w) ?_ ?_))))))
  ·refine ZD (eR [0,1,2,3,4,5,6,7,8,9,10,11,12,13,14,15,16,17,18,19,20,21] .done) o λa5 e a6=>gS 0 9 (Hl 5 0 0 e Hz) (dB 36 (decide ((k:Int)<(l.length:Nat))) (λb=>?_) (λb=>?_))
   ·have a1:=of_decide_eq_true b
    have hk:k<l.length:=za
    obtain⟨u,rfl⟩:=Sl.isSome (e.at_ 1 rfl) za
    exact lD (Hl 12 0 0 e (Hx 14 (k:Int) (l.length:Int) u 0 2 (Hg 16 (.gen [.string ((l.getD k aT).key)]) [.cell ⟨u,0+(k*2),none⟩ (.string ((l.getD k aT).key))] (bP (aB.dX (e.rows 1 rfl gG.size aT) (k:=k) zo (j:=0) zf zk) aO) (Hg 18 (.eJ (.bool (decide (((l.getD k aT).key)=key))) (.gen [])) [.prop (Value.bool (((l.getD k aT).key).toList == key.toList)=Value.bool (decide (((l.getD k aT).key)=key)))] (aL (seq _ _) aO) Hz)))) (aN.pick [5,4] (S':=[(5,.bool (decide (((l.getD k aT).key)=key))),(4,.int .i64 (k:Nat))]) zk (aN.eZ () (by first|rfl|(simp only [b,Bool.not_true,Bool.not_false,Bool.true_or,Bool.false_or,Bool.true_and,Bool.false_and,Bool.or_true,Bool.or_false,Bool.and_true,Bool.and_false];done)|(simp [b];done)) e))
   ·exact En (bO (Dz (aN.pick [5,4] (S':=[(5,.bool false),(4,.int .i64 (k:Nat))]) zk (aN.eZ () (by first|rfl|(simp only [b,Bool.not_true,Bool.not_false,Bool.true_or,Bool.false_or,Bool.true_and,Bool.false_and,Bool.or_true,Bool.or_false,Bool.and_true,Bool.and_false];done)|(simp [b];done)) e))))
  intro _ a7 a2
  exact Zt (Ze (om (v:=.int .i64 (k:Nat)) (v':=.bool ((decide ((k:Int)<(l.length:Nat))) && (decide (((l.getD k aT).key)=key)))) ⟨(by rw [Mi,hf]),Jd _ _,a2⟩))
theorem qX {l:List aH}{k:ByteArray}(h:xu l k=true):dC l k<l.length:=by
 rw [xu,Bool.and_eq_true] at h
 exact of_decide_eq_true h.1
theorem vI {l:List aH}{k:ByteArray}(h:xu l k=true):(l.getD (dC l k) aT).key=k:=by
 rw [xu,Bool.and_eq_true] at h
 exact of_decide_eq_true h.2
def eL (l:List aH) (key:ByteArray):ByteArray×Bool :=
 if (!(xu l key))=true then
  (aR,false)
 else
  ((l.getD (dC l key) aT).value,true)
theorem xv {q:Nat}{ad:Option Addr}{c:Nat}(l:List aH) key (hl:l.length<=1000000000000) (hs:St w0 (aC q #[.slice ad l.length c] 144::Sl ad c 132 2 aH.cells l::L) w):Cs Tryz.prog 198 #[zP q 0,.string key] w λrv w'=>rv=.tuple #[.string ((eL l key).1),.bool ((eL l key).2)]/\St w0 (aC q #[.slice ad l.length c] 144::Sl ad c 132 2 aH.cells l::L) w':=by
 refine cL Tryz.func198 Tryz.ntmps198 (En (Lq (Ls (Lg [2] (Lw (Zc (find_spec l key zc hs) ?_))))))
 rintro f i ⟨rfl,o,a⟩
 refine Lz (Ls (Lq (Dz (cZ (t:=!(xu l key)) (λb=>?_) (λb=>?_)))))
 ·have d:=jV b
  refine En (Lq (Le (Ly (Dz (om (v:=.string aR) (v':=.bool false) ?_)))))
  have hr:eL l key=(aR,false):=by rw [eL,if_pos b]
  exact⟨(by first|rfl|(rw [hr];done)|(rw [hr];rfl)),(by first|exact a|(rw [hr];exact a))⟩
 ·have d:=jN b
  have hlt:=qX d
  obtain⟨e,rfl⟩:=Sl.isSome (a.at_ 1 rfl) za
  refine Zk (Zt (Zs (cS (Hl 3 0 0 a (Hx 5 ((dC l key:Nat):Int) (l.length:Int) e 0 2 (Hg 7 (.gen [.string ((l.getD (dC l key) aT).value)]) [.cell ⟨e,0+((dC l key)*2)+1,none⟩ (.string ((l.getD (dC l key) aT).value))] (bP (aB.dX (a.rows 1 rfl gG.size aT) (k:=dC l key) zo (j:=1) zf zk) aO) Hz))) (Zt (Ze (om (v:=.string ((l.getD (dC l key) aT).value)) (v':=.bool true) ?_))))))
  have hr:eL l key=((l.getD (dC l key) aT).value,true):=by rw [eL,nI b]
  exact⟨(by first|rfl|(rw [hr];done)|(rw [hr];rfl)),(by first|exact a|(rw [hr];exact a))⟩
def oq (l:List aH) (key:ByteArray) (v:ByteArray):List aH :=
 if (xu l key)=true then
  ((l.take (dC l key))++([(⟨key,v⟩:aH)]))++(l.drop ((dC l key)+1))
 else
  ((l.take (dC l key))++([(⟨key,v⟩:aH)]))++(l.drop (dC l key))
theorem rK {q:Nat}{ad:Option Addr}{c:Nat}(l:List aH) key v (hl:l.length<=1000000000) (hs:St w0 (aC q #[.slice ad l.length c] 144::Sl ad c 132 2 aH.cells l::L) w):Cs Tryz.prog 199 #[zP q 0,.string key,.string v] w λrv w'=>∃ ad2 c2,rv=.tuple #[]/\St w0 (aC q #[.slice ad2 ((oq l key v).length) c2] 144::Sl ad2 c2 132 2 aH.cells (oq l key v)::L) w':=by
 refine cL Tryz.func199 Tryz.ntmps199 (En (Ls (Lg [2] (Lw (Zc (find_spec l key zc hs) ?_)))))
 rintro v3 w4 ⟨rfl,c1,i⟩
 refine Lz (Lq (Ls (Lg [7,11,12] (Dz ?_))))
 have c3:=Sl.cap (i.at_ 1 rfl)
 refine Zj (Hl 4 0 0 i (Hg 6 (.eJ (.slice ad ((l.take (dC l key)).length) c) (.sub 0 (dC l key))) [.prop (((dC l key:Nat):Int)=((dC l key):Int)),.prop (((none:Option Operand)=none->(0:Nat)=0)/\(some (Operand.tmp 20)=none->((dC l key):Nat)=l.length)/\(0:Nat)<=(dC l key)/\((dC l key):Nat)<=c),.prop (Value.slice (if c=0 then ad else (ad:Option Addr).map (λa=>a.add (0*2))) ((dC l key)-0) (c-0)=Value.slice ad ((l.take (dC l key)).length) c)] (aL za (aL ⟨(by first|(intro _;rfl)|(intro hc;cases hc)),(by first|(intro _;rfl)|(intro hc;cases hc)),za,za⟩ (aL (so zw) aO))) Hz)) ?_
 have o:=St.bJ i 132 2 aH.cells
 refine aU.append rfl zk lM gG (ad:=none) (c:=0) (xs:=([]:List aH)) (ys:=l.take (dC l key)) (adx:=ad) (cx:=c) aT zk o (aB.tc (o.rows 2 rfl gG.size aT) _ za) (o.dI 2 rfl) zp zp λa6 a7 w6 a8=>Lo (Lw (aU.cT rfl zk (t:=129) (e:=132) (n:=1) (ps:=[(0,.agg #[.string key,.string v])]) zk zk (ti:=Tryz.t132) (z:=.agg #[.string aR,.string aR]) zk zk zf zf (cs:=#[.string key,.string v]) zk a8 λa9 b0 b1 b2=>?_))
 have b3:St w0 (Sl (some ⟨a9,0,none⟩) 1 132 2 aH.cells ([(⟨key,v⟩:aH)])::Sl a6 a7 132 2 aH.cells (l.take (dC l key))::aC q #[.slice ad l.length c] 144::Sl ad c 132 2 aH.cells l::L) b0:=St.lS (l:=[(⟨key,v⟩:aH)]) (f:=aH.cells) b1 b2 gG.size zl zk
 refine Lo (Dz (oV lM gG aT (b3.pl 1) zp λu x c4 b=>Lz (Ls (Lq (Dz (cZ (t:=xu l key) (λd=>?_) (λd=>?_)))))))
 ·have hlt:=qX d
  refine cS (dW 1 ((dC l key:Nat)+1) Hz) (En (Lt (Lg [8,11] (Dz ?_))))
  have c5:=Sl.cap (b.at_ 3 rfl)
  refine Zj (Hl 5 2 0 b (Hg 7 (.eJ (.slice (eA ad c ((dC l key)+1) 2) ((l.drop ((dC l key)+1)).length) (c-((dC l key)+1))) (.sub ((dC l key)+1) l.length)) [.prop (((dC l key:Nat)+1:Int)=(((dC l key)+1:Nat):Int)),.prop ((some (Operand.tmp 37)=none->((dC l key)+1:Nat)=0)/\((none:Option Operand)=none->(l.length:Nat)=l.length)/\((dC l key)+1:Nat)<=l.length/\(l.length:Nat)<=c),.prop (Value.slice (if c=((dC l key)+1) then ad else (ad:Option Addr).map (λa=>a.add (((dC l key)+1)*2))) (l.length-((dC l key)+1)) (c-((dC l key)+1))=Value.slice (eA ad c ((dC l key)+1) 2) ((l.drop ((dC l key)+1)).length) (c-((dC l key)+1)))] (aL za (aL ⟨(by first|(intro _;rfl)|(intro hc;cases hc)),(by first|(intro _;rfl)|(intro hc;cases hc)),za,za⟩ (aL (rT zw) aO))) Hz)) (aU.append rfl zk lM gG (ad:=u) (c:=x) (xs:=(l.take (dC l key))++([(⟨key,v⟩:aH)])) (ys:=l.drop ((dC l key)+1)) (adx:=eA ad c ((dC l key)+1) 2) (cx:=(c-((dC l key)+1))) aT zk b (aB.yr (b.rows 3 rfl gG.size aT) za za) (sq (b.dI 3 rfl)) zp zp λa0 a1 c6 b5=>Lo (Lw (Zu 2 0 #[.slice a0 ((((l.take (dC l key))++([(⟨key,v⟩:aH)]))++(l.drop ((dC l key)+1))).length) a1] b5 λc7 b6=>Lo (Ld (Dz (aN.done (.inr rfl) (λa hf=>results0 rfl a hf) ?_))))))
  have hr:oq l key v=((l.take (dC l key))++([(⟨key,v⟩:aH)]))++(l.drop ((dC l key)+1)):=by rw [oq,if_pos d]
  have b7:=(((b6.pl 0).pl 2).pl 3).pl 3
  have a2:=b7.dr 2
  exact⟨a0,a1,(by first|rfl|(rw [hr];done)|(rw [hr];rfl)),(by first|exact a2|(rw [hr];exact a2))⟩
 ·refine En (Lk (Lt (Lg [8,11] (Dz ?_))))
  have c8:=Sl.cap (b.at_ 3 rfl)
  refine Zj (Hl 5 2 0 b (Hg 7 (.eJ (.slice (eA ad c (dC l key) 2) ((l.drop (dC l key)).length) (c-(dC l key))) (.sub (dC l key) l.length)) [.prop (((dC l key:Nat):Int)=((dC l key):Int)),.prop ((some (Operand.tmp 37)=none->((dC l key):Nat)=0)/\((none:Option Operand)=none->(l.length:Nat)=l.length)/\((dC l key):Nat)<=l.length/\(l.length:Nat)<=c),.prop (Value.slice (if c=(dC l key) then ad else (ad:Option Addr).map (λa=>a.add ((dC l key)*2))) (l.length-(dC l key)) (c-(dC l key))=Value.slice (eA ad c (dC l key) 2) ((l.drop (dC l key)).length) (c-(dC l key)))] (aL za (aL ⟨(by first|(intro _;rfl)|(intro hc;cases hc)),(by first|(intro _;rfl)|(intro hc;cases hc)),za,za⟩ (aL (rT zw) aO))) Hz)) (aU.append rfl zk lM gG (ad:=u) (c:=x) (xs:=(l.take (dC l key))++([(⟨key,v⟩:aH)])) (ys:=l.drop (dC l key)) (adx:=eA ad c (dC l key) 2) (cx:=(c-(dC l key))) aT zk b (aB.yr (b.rows 3 rfl gG.size aT) za za) (sq (b.dI 3 rfl)) zp zp λa3 a4 c9 b8=>Lo (Lw (Zu 2 0 #[.slice a3 ((((l.take (dC l key))++([(⟨key,v⟩:aH)]))++(l.drop (dC l key))).length) a4] b8 λd0 b9=>Lo (Ld (Dz (aN.done (.inr rfl) (λa hf=>results0 rfl a hf) ?_))))))
  have hr:oq l key v=((l.take (dC l key))++([(⟨key,v⟩:aH)]))++(l.drop (dC l key)):=by rw [oq,nI d]
  have c0:=(((b9.pl 0).pl 2).pl 3).pl 3
  have a5:=c0.dr 2
  exact⟨a3,a4,(by first|rfl|(rw [hr];done)|(rw [hr];rfl)),(by first|exact a5|(rw [hr];exact a5))⟩
end
section
variable {w0 w : World} {L : List cA}
theorem Jf (l:List aH) (k v:ByteArray):(oq l k v).length<=l.length+1:=by
 have h:=Jd l k
 unfold oq
 split<;>simp only [List.length_append,List.length_take,List.length_drop,List.length_cons,List.length_nil]<;>omega
theorem CK (l:List aH) (k:ByteArray):(eL l k).2=xu l k:=by
 unfold eL
 cases xu l k<;>rfl
theorem CL {l:List aH}{k:ByteArray}:(eL l k).1=if xu l k=true then (l.getD (dC l k) aT).value else ⟨#[]⟩:=by
 unfold eL
 cases xu l k<;>rfl
theorem zU {l:List aH}{k:ByteArray}(h:∀ x∈l,x.value.size<=281474976710656):(eL l k).1.size<=281474976710656:=by
 rw [CL]
 split
 ·rename_i hf;exact h _ (bC (qX hf))
 ·decide
theorem G0 (s:ByteArray):0<=(num s).1/\(num s).1<18446744073709551616:=by
 unfold num
 split
 ·rename_i h
  have a:=Em h.2.2
  have b:10 ^ s.data.toList.length<=10 ^ 16:=Nat.pow_le_pow_right zf h.2.1
  simp only
  omega
 ·decide
def ln (l:List aH) (o:cB) (v:ByteArray):bR×List aH :=
 if ((!((num v).2)) || (((eL l o.dest).2) && (!((num ((eL l o.dest).1)).2))))=true then
  ((⟨5,aR⟩:bR),l)
 else
  if (decide (((num v).1:Int)<o.aY))=true then
   ((⟨14,v⟩:bR),l)
  else
   if (decide ((IntKind.u64.wrap (((num ((eL l o.dest).1)).1)+o.aY):Int)>1125899906842624))=true then
    ((⟨6,aR⟩:bR),l)
   else
    if ((!((eL l o.dest).2)) && (decide ((l.length:Int) >= 64)))=true then
     ((⟨7,aR⟩:bR),l)
    else
     ((⟨0,dec (((num v).1)-o.aY)⟩:bR),oq (oq l o.key (dec (((num v).1)-o.aY))) o.dest (dec (IntKind.u64.wrap (((num ((eL l o.dest).1)).1)+o.aY))))
theorem Et {q:Nat}{ad:Option Addr}{c:Nat}(l:List aH) (o:cB) v (hl:l.length<=10000000) (hsv:∀ x∈l,x.value.size<=281474976710656) (ha:0<=o.aY) (hv:v.size<=281474976710656) (hs:St w0 (aC q #[.slice ad l.length c] 144::Sl ad c 132 2 aH.cells l::L) w):Cs Tryz.prog 201 #[zP q 0,.agg (cB.cells o),.string v] w λrv w'=>∃ ad2 c2,rv=.agg (bR.cells ((ln l o v).1))/\St w0 (aC q #[.slice ad2 (((ln l o v).2).length) c2] 144::Sl ad2 c2 132 2 aH.cells ((ln l o v).2)::L) w':=by
 refine cL Tryz.func201 Tryz.ntmps201 (En (Ls (Lg [0,1] (Dz (hG (cB.cells o) hs λu w2 c3=>Lo (Dz (eN #[.int .i64 0,.string aR] c3 λz w5 c4=>Lo (Ld (Lt (Ls (Lg [1] (Lw (eE (CI v hv c4) λw9 a7=>Lz (Ls (Dz (bX [3] (Hl 2 1 4 a7 Hz) (eE (xv l o.dest zc ((a7.pl 3).pl 3)) λe0 c6=>Lz (Ls (Lg [1] (Lw (eE (CI ((eL l o.dest).1) (zU hsv) c6) λe2 a2=>Lz (Ls (Ls (Dz (bH.join (T:=Unit) (E:=λ_=>[(39,.bool ((!((num v).2)) || (((eL l o.dest).2) && (!((num ((eL l o.dest).1)).2))))),(11,.int .u64 ((num ((eL l o.dest).1)).1)),(10,.bool ((eL l o.dest).2)),(7,.int .u64 ((num v).1)),(6,zP z 0),(4,zP u 0),(0,zP q 0),(2,.string v)]) (F:=λ_ w=>St w0 (aC q #[.slice ad l.length c] 144::Sl ad c 132 2 aH.cells l::aC z #[.int .i64 0,.string aR] 65::aC u (cB.cells o) 43::L) w) ?_ ?_)))))))))))))))))))))))))
 ·refine Zg [] (Zr 0 3 [] (dB 33 (!((num v).2)) (λd=>?_) (λd=>?_)))
  ·exact En (bO (Dz (gB [39,11,10,7,6,4,0,2] () true (by first|rfl|simp [Hb,d,jV d]) a2)))
  ·have a0:=jN d
   refine Zr 3 2 [] (dB 35 (eL l o.dest).2 (λa3=>?_) (λa3=>?_))
   ·exact En (bO (Dz (gB [39,11,10,7,6,4,0,2] () (!((num ((eL l o.dest).1)).2)) (by first|rfl|simp [Hb,d,a0,a3]) a2)))
   ·exact En (bO (Dz (gB [39,11,10,7,6,4,0,2] () false (by first|rfl|simp [Hb,d,a0,a3]) a2)))
 intro _ e3 a
 refine Zt (cZ (t:=(!((num v).2)) || (((eL l o.dest).2) && (!((num ((eL l o.dest).1)).2)))) (λb=>?_) (λb=>?_))
 ·refine En (Ls (Lg [1] (Lw (Zu 2 0 #[.int .i64 5,.string aR] a λe4 a8=>Lo (Ld (Lt (Le (Ly (Dz (mJ 2 a8 ?_))))))))))
  have hr:ln l o v=((⟨5,aR⟩:bR),l):=by rw [ln,if_pos b]
  have c7:=(((a8.pl 1).pl 1).pl 3).pl 3
  have a9:=c7.dr 2
  exact⟨ad,c,(by first|rfl|(rw [hr];done)|(rw [hr];rfl)),(by first|exact a9|(rw [hr];exact a9))⟩
 ·have c8:=(Bool.or_eq_false_iff.1 b).1
  have e6:(((eL l o.dest).2) && (!((num ((eL l o.dest).1)).2)))=false:=(Bool.or_eq_false_iff.1 b).2
  refine Zk (Zt (Zs (Zs (cS (Hl 2 3 5 a Hz) (Zt (Zi (((num v).1:Int)<o.aY) (λe=>?_) (λe=>?_)))))))
  ·refine En (Ls (Lg [2] (Lw (Zu 2 0 #[.int .i64 14,.string v] a λe7 b0=>Lo (Ld (Lt (Le (Ly (Dz (mJ 2 b0 ?_))))))))))
   have hr:ln l o v=((⟨14,v⟩:bR),l):=by rw [ln,nI b,if_pos (decide_eq_true e)]
   have c9:=(((b0.pl 1).pl 1).pl 3).pl 3
   have b2:=c9.dr 2
   exact⟨ad,c,(by first|rfl|(rw [hr];done)|(rw [hr];rfl)),(by first|exact b2|(rw [hr];exact b2))⟩
  ·refine Zk (Zt (Zs (Zs (cS (Hl 2 3 5 a Hz) (Zt (Zi ((IntKind.u64.wrap (((num ((eL l o.dest).1)).1)+o.aY):Int)>1125899906842624) (λa1=>?_) (λa1=>?_)))))))
   ·refine En (Ls (Lg [1] (Lw (Zu 2 0 #[.int .i64 6,.string aR] a λe8 b3=>Lo (Ld (Lt (Le (Ly (Dz (mJ 2 b3 ?_))))))))))
    have hr:ln l o v=((⟨6,aR⟩:bR),l):=by rw [ln,nI b,if_neg (ne_true_of_eq_false (decide_eq_false e)),if_pos (decide_eq_true a1)]
    have d0:=(((b3.pl 1).pl 1).pl 3).pl 3
    have b5:=d0.dr 2
    exact⟨ad,c,(by first|rfl|(rw [hr];done)|(rw [hr];rfl)),(by first|exact b5|(rw [hr];exact b5))⟩
   ·refine Zk (Zt (Zs (Zs (bH.join (T:=Unit) (E:=λ_=>[(62,.bool ((!((eL l o.dest).2)) && (decide ((l.length:Int) >= 64)))),(11,.int .u64 ((num ((eL l o.dest).1)).1)),(7,.int .u64 ((num v).1)),(6,zP z 0),(4,zP u 0),(0,zP q 0)]) (F:=λ_ w=>St w0 (aC q #[.slice ad l.length c] 144::Sl ad c 132 2 aH.cells l::aC z #[.int .i64 0,.string aR] 65::aC u (cB.cells o) 43::L) w) ?_ ?_))))
    ·refine Zg [] (Zr 0 3 [] (dB 55 (!((eL l o.dest).2)) (λf=>?_) (λf=>?_)))
     ·exact lD (Hl 6 0 0 a Hz) (gB [62,11,7,6,4,0] () (decide ((l.length:Int) >= 64)) (by first|rfl|simp [Hb,f,jV f]) a)
     ·exact En (bO (Dz (gB [62,11,7,6,4,0] () false (by first|rfl|simp [Hb,f,jN f]) a)))
    intro _ e9 a5
    refine Zt (cZ (t:=(!((eL l o.dest).2)) && (decide ((l.length:Int) >= 64))) (λi=>?_) (λi=>?_))
    ·have d1:=(Bool.and_eq_true_iff.1 i).1
     have d2:(decide ((l.length:Int) >= 64))=true:=(Bool.and_eq_true_iff.1 i).2
     refine En (Ls (Lg [1] (Lw (Zu 2 0 #[.int .i64 7,.string aR] a5 λf2 b6=>Lo (Ld (Lt (Le (Ly (Dz (mJ 2 b6 ?_))))))))))
     have hr:ln l o v=((⟨7,aR⟩:bR),l):=by rw [ln,nI b,if_neg (ne_true_of_eq_false (decide_eq_false e)),if_neg (ne_true_of_eq_false (decide_eq_false a1)),if_pos i]
     have d3:=(((b6.pl 1).pl 1).pl 3).pl 3
     have b7:=d3.dr 2
     exact⟨ad,c,(by first|rfl|(rw [hr];done)|(rw [hr];rfl)),(by first|exact b7|(rw [hr];exact b7))⟩
    ·refine Zk (Zt (Zs ?_))
     have hnr:=G0 v
     refine bX [4] (Hl 2 3 5 a5 (tP 3 (((num v).1)-o.aY) Hz)) (eE (qT (((num v).1)-o.aY) zc zc a5) λf4 b8=>Lz (Ls (Dz (bX [4] (Hl 2 3 1 b8 Hz) (Zc (rK l o.key (dec (((num v).1)-o.aY)) zc b8) ?_)))))
     rintro f5 f6 ⟨f7,f8,rfl,d4⟩
     refine Lo (Ld (Lt (Ls (Dz (ZD (eR [0,1,2,3,4,5,6] (.ef 7 (.ef 8 .done))) d4 λf9 a6 g0=>Zj (Hl 2 3 4 a6 (Hl 5 3 5 a6 Hz)) (eE (qT (IntKind.u64.wrap (((num ((eL l o.dest).1)).1)+o.aY)) (nO _).1 (nO _).2 a6) λg7 b9=>⟨lF b9 3 rfl [4],Zc (rK (oq l o.key (dec (((num v).1)-o.aY))) o.dest (dec (IntKind.u64.wrap (((num ((eL l o.dest).1)).1)+o.aY))) (Nat.le_trans (Jf _ _ _) za) b9) ?_⟩))))))
     rintro g8 g9 ⟨d5,d6,rfl,d7⟩
     refine Lo (Ld (Lt (Ls (Lg [2] (Lw (Zu 2 0 #[.int .i64 0,.string (dec (((num v).1)-o.aY))] d7 λh0 c0=>Lo (Ld (Lt (Le (Dz (mJ 2 c0 ?_)))))))))))
     have hr:ln l o v=((⟨0,dec (((num v).1)-o.aY)⟩:bR),oq (oq l o.key (dec (((num v).1)-o.aY))) o.dest (dec (IntKind.u64.wrap (((num ((eL l o.dest).1)).1)+o.aY)))):=by rw [ln,nI b,if_neg (ne_true_of_eq_false (decide_eq_false e)),if_neg (ne_true_of_eq_false (decide_eq_false a1)),nI i]
     have d8:=(((c0.pl 1).pl 1).pl 3).pl 3
     have c1:=d8.dr 2
     exact⟨d5,d6,(by first|rfl|(rw [hr];done)|(rw [hr];rfl)),(by first|exact c1|(rw [hr];exact c1))⟩
def ny (l:List aH) (o:cB):bR×List aH :=
 if (!(kC o))=true then
  ((⟨1,aR⟩:bR),l)
 else
  if ((o.kind:Int) == 2)=true then
   if ((!((eL l o.key).2)) && (decide ((l.length:Int) >= 64)))=true then
    ((⟨7,aR⟩:bR),l)
   else
    ((⟨0,aR⟩:bR),oq l o.key o.value)
  else
   if (!((eL l o.key).2))=true then
    ((⟨4,aR⟩:bR),l)
   else
    if ((o.kind:Int) == 3)=true then
     ((⟨0,(eL l o.key).1⟩:bR),(l.take (dC l o.key))++(l.drop ((dC l o.key)+1)))
    else
     if ((o.kind:Int) == 4)=true then
      if (!(decide (((eL l o.key).1)=o.jK)))=true then
       ((⟨15,(eL l o.key).1⟩:bR),l)
      else
       ((⟨0,aR⟩:bR),oq l o.key o.value)
     else
      if ((o.kind:Int) == 5)=true then
       ((ln l o ((eL l o.key).1)).1,(ln l o ((eL l o.key).1)).2)
      else
       ((⟨0,(eL l o.key).1⟩:bR),l)
theorem Jg {q:Nat}{ad:Option Addr}{c:Nat}(l:List aH) (o:cB) (hl:l.length<=10000000) (hsv:∀ x∈l,x.value.size<=281474976710656) (ha:0<=o.aY) (hs:St w0 (aC q #[.slice ad l.length c] 144::Sl ad c 132 2 aH.cells l::L) w):Cs Tryz.prog 163 #[zP q 0,.agg (cB.cells o)] w λrv w'=>∃ ad2 c2,rv=.agg (bR.cells ((ny l o).1))/\St w0 (aC q #[.slice ad2 (((ny l o).2).length) c2] 144::Sl ad2 c2 132 2 aH.cells ((ny l o).2)::L) w':=by
 refine cL Tryz.func163 Tryz.ntmps163 (En (Ls (Lg [0,1] (Dz (hG (cB.cells o) hs λb1 w2 d5=>Lo (Dz (eN #[.int .i64 0,.string aR] d5 λb4 w5 b0=>Lo (Ld (Lt (Ls (Ls (Dz (bX [1] (fE 0 1 0 6 (cB.cells o) b0 Hz) (eE (Er o  b0) λw9 a6=>Lz (Dz (cZ (t:=!(kC o)) (λd=>?_) (λd=>?_)))))))))))))))))
 ·refine En (Ls (Lg [1] (Lw (Zu 0 0 #[.int .i64 1,.string aR] a6 λh1 b2=>Lo (Ld (Lt (Le (Ly (Dz (mJ 0 b2 ?_))))))))))
  have hr:ny l o=((⟨1,aR⟩:bR),l):=by rw [ny,if_pos d]
  have b3:=b2.dr 2
  exact⟨ad,c,(by first|rfl|(rw [hr];done)|(rw [hr];rfl)),(by first|exact b3|(rw [hr];exact b3))⟩
 ·refine Zk (Zt (Zs (bX [3] (Hl 2 1 1 a6 Hz) (eE (xv l o.key zc ((a6.pl 3).pl 3)) λh3 b=>Lz (Ls (Ls (Dz (cS (Hl 1 3 0 b Hz) (Zt (cZ (t:=(o.kind:Int) == 2) (λe=>?_) (λe=>?_)))))))))))
  ·refine Zs (Zs (bH.join (T:=Unit) (E:=λ_=>[(33,.bool ((!((eL l o.key).2)) && (decide ((l.length:Int) >= 64)))),(6,.bool ((eL l o.key).2)),(5,.string ((eL l o.key).1)),(4,zP b4 0),(3,zP b1 0),(0,zP q 0)]) (F:=λ_ w=>St w0 (aC q #[.slice ad l.length c] 144::Sl ad c 132 2 aH.cells l::aC b4 #[.int .i64 0,.string aR] 65::aC b1 (cB.cells o) 43::L) w) ?_ ?_))
   ·refine Zg [] (Zr 0 3 [] (dB 26 (!((eL l o.key).2)) (λz=>?_) (λz=>?_)))
    ·exact lD (Hl 6 0 0 b Hz) (gB [33,6,5,4,3,0] () (decide ((l.length:Int) >= 64)) (by first|rfl|simp [Hb,z,jV z]) b)
    ·exact En (bO (Dz (gB [33,6,5,4,3,0] () false (by first|rfl|simp [Hb,z,jN z]) b)))
   intro _ h4 a4
   refine Zt (cZ (t:=(!((eL l o.key).2)) && (decide ((l.length:Int) >= 64))) (λa0=>?_) (λa0=>?_))
   ·have d9:=(Bool.and_eq_true_iff.1 a0).1
    have e0:(decide ((l.length:Int) >= 64))=true:=(Bool.and_eq_true_iff.1 a0).2
    refine En (Ls (Lg [1] (Lw (Zu 2 0 #[.int .i64 7,.string aR] a4 λh7 b5=>Lo (Ld (Lt (Le (Ly (Ly (Dz (mJ 2 b5 ?_)))))))))))
    have hr:ny l o=((⟨7,aR⟩:bR),l):=by rw [ny,nI d,if_pos e,if_pos a0]
    have e1:=(((b5.pl 1).pl 1).pl 3).pl 3
    have b6:=e1.dr 2
    exact⟨ad,c,(by first|rfl|(rw [hr];done)|(rw [hr];rfl)),(by first|exact b6|(rw [hr];exact b6))⟩
   ·refine Zk (Zt (Zs (bX [5] (Hl 2 3 1 a4 (Hl 4 3 2 a4 Hz)) (Zc (rK l o.key o.value zc a4) ?_))))
    rintro h8 h9 ⟨e2,e3,rfl,e4⟩
    refine Lo (Ld (Lt (Ls (Lg [1] (Lw (Zu 2 0 #[.int .i64 0,.string aR] e4 λi0 b7=>Lo (Ld (Lt (Le (Ly (Dz (mJ 2 b7 ?_))))))))))))
    have hr:ny l o=((⟨0,aR⟩:bR),oq l o.key o.value):=by rw [ny,nI d,if_pos e,nI a0]
    have e5:=(((b7.pl 1).pl 1).pl 3).pl 3
    have b8:=e5.dr 2
    exact⟨e2,e3,(by first|rfl|(rw [hr];done)|(rw [hr];rfl)),(by first|exact b8|(rw [hr];exact b8))⟩
  ·refine En (Lk (Lt (Ls (Lq (Dz (cZ (t:=!((eL l o.key).2)) (λf=>?_) (λf=>?_)))))))
   ·refine En (Ls (Lg [1] (Lw (Zu 2 0 #[.int .i64 4,.string aR] b λi1 c0=>Lo (Ld (Lt (Le (Ly (Dz (mJ 2 c0 ?_))))))))))
    have hr:ny l o=((⟨4,aR⟩:bR),l):=by rw [ny,nI d,nI e,if_pos f]
    have e6:=(((c0.pl 1).pl 1).pl 3).pl 3
    have c1:=e6.dr 2
    exact⟨ad,c,(by first|rfl|(rw [hr];done)|(rw [hr];rfl)),(by first|exact c1|(rw [hr];exact c1))⟩
   ·have b9:=jN f
    have hlt:=qX ((CK l o.key).symm.trans b9)
    refine Zk (Zt (Zs (Zs (cS (Hl 1 3 0 b Hz) (En (Lt (Lb (Lq (Dz (cZ (t:=(o.kind:Int) == 3) (λi=>?_) (λi=>?_)))))))))))
    ·refine Zs (bX [3] (Hl 2 3 1 b Hz) (Zc (find_spec l o.key zc b) ?_))
     rintro i2 i3 ⟨rfl,i4,e8⟩
     refine Lz (Lq (Dz (ZD (eR [0,1,2,3,4,5,6,7,9,10,11,12,13,14,15] (.ef 8 (.ef 16 (eR [17,18] (.ef 19 .done))))) e8 λi5 a1 i6=>?_)))
     have i7:=Sl.cap (a1.at_ 1 rfl)
     have i8:=Sl.cap (a1.at_ 1 rfl)
     refine Zj (Hl 5 0 0 a1 (Hg 7 (.eJ (.slice ad ((l.take (dC l o.key)).length) c) (.sub 0 (dC l o.key))) [.prop (((dC l o.key:Nat):Int)=((dC l o.key):Int)),.prop (((none:Option Operand)=none->(0:Nat)=0)/\(some (Operand.tmp 62)=none->((dC l o.key):Nat)=l.length)/\(0:Nat)<=(dC l o.key)/\((dC l o.key):Nat)<=c),.prop (Value.slice (if c=0 then ad else (ad:Option Addr).map (λa=>a.add (0*2))) ((dC l o.key)-0) (c-0)=Value.slice ad ((l.take (dC l o.key)).length) c)] (aL za (aL ⟨(by first|(intro _;rfl)|(intro hc;cases hc)),(by first|(intro _;rfl)|(intro hc;cases hc)),za,za⟩ (aL (so zw) aO))) (Hl 12 0 0 a1 (dW 14 ((dC l o.key:Nat)+1) (Hg 15 (.eJ (.slice (eA ad c ((dC l o.key)+1) 2) ((l.drop ((dC l o.key)+1)).length) (c-((dC l o.key)+1))) (.sub ((dC l o.key)+1) l.length)) [.prop (((dC l o.key:Nat)+1:Int)=(((dC l o.key)+1:Nat):Int)),.prop ((some (Operand.tmp 70)=none->((dC l o.key)+1:Nat)=0)/\((none:Option Operand)=none->(l.length:Nat)=l.length)/\((dC l o.key)+1:Nat)<=l.length/\(l.length:Nat)<=c),.prop (Value.slice (if c=((dC l o.key)+1) then ad else (ad:Option Addr).map (λa=>a.add (((dC l o.key)+1)*2))) (l.length-((dC l o.key)+1)) (c-((dC l o.key)+1))=Value.slice (eA ad c ((dC l o.key)+1) 2) ((l.drop ((dC l o.key)+1)).length) (c-((dC l o.key)+1)))] (aL za (aL ⟨(by first|(intro _;rfl)|(intro hc;cases hc)),(by first|(intro _;rfl)|(intro hc;cases hc)),za,za⟩ (aL (rT zw) aO))) Hz))))) ?_
     have a8:=St.bJ a1 132 2 aH.cells
     refine aU.append rfl zk lM gG (ad:=none) (c:=0) (xs:=([]:List aH)) (ys:=l.take (dC l o.key)) (adx:=ad) (cx:=c) aT zk a8 (aB.tc (a8.rows 2 rfl gG.size aT) _ za) (a8.dI 2 rfl) zp zp λe9 f0 i9 a5=>⟨fM (n:=[.prop (((dC l o.key:Nat)+1:Int)=(((dC l o.key)+1:Nat):Int)),.prop ((some (Operand.tmp 70)=none->((dC l o.key)+1:Nat)=0)/\((none:Option Operand)=none->(l.length:Nat)=l.length)/\((dC l o.key)+1:Nat)<=l.length/\(l.length:Nat)<=c),.prop (Value.slice (if c=((dC l o.key)+1) then ad else (ad:Option Addr).map (λa=>a.add (((dC l o.key)+1)*2))) (l.length-((dC l o.key)+1)) (c-((dC l o.key)+1))=Value.slice (eA ad c ((dC l o.key)+1) 2) ((l.drop ((dC l o.key)+1)).length) (c-((dC l o.key)+1))),.prop (Value.int .i64 (IntKind.i64.wrap ((dC l o.key:Nat)+1))=Value.int .i64 ((dC l o.key:Nat)+1)),.cell ⟨q,0,none⟩ (.slice ad l.length c)]) zk (aL za (aL ⟨(by first|(intro _;rfl)|(intro hc;cases hc)),(by first|(intro _;rfl)|(intro hc;cases hc)),za,za⟩ (aL (rT zw) (aL (kF za za) (bP (a5.cell 1 rfl zk) aO))))),(aU.append rfl zk lM gG (ad:=e9) (c:=f0) (xs:=l.take (dC l o.key)) (ys:=l.drop ((dC l o.key)+1)) (adx:=eA ad c ((dC l o.key)+1) 2) (cx:=(c-((dC l o.key)+1))) aT zk a5 (aB.yr (a5.rows 2 rfl gG.size aT) za za) (sq (a5.dI 2 rfl)) zp zp λc3 c4 j0 f1=>Lo (Lw (Zu 1 0 #[.slice c3 (((l.take (dC l o.key))++(l.drop ((dC l o.key)+1))).length) c4] f1 λj1 f2=>Lo (Ld (Lm (Lt (Ls (Lg [2] (Lw (Zu 3 0 #[.int .i64 0,.string ((eL l o.key).1)] f2 λj2 c5=>Lo (Ld (Lt (Le (Dz (mJ 3 c5 ?_)))))))))))))))⟩
     have hr:ny l o=((⟨0,(eL l o.key).1⟩:bR),(l.take (dC l o.key))++(l.drop ((dC l o.key)+1))):=by rw [ny,nI d,nI e,nI f,if_pos i]
     have f3:=((((c5.pl 0).pl 1).pl 4).pl 4).pl 4
     have c6:=f3.dr 3
     exact⟨c3,c4,(by first|rfl|(rw [hr];done)|(rw [hr];rfl)),(by first|exact c6|(rw [hr];exact c6))⟩
    ·refine En (Lq (Dz (cZ (t:=(o.kind:Int) == 4) (λu=>?_) (λu=>?_))))
     ·refine Zs (Zs (cS (Hl 2 3 3 b (Hg 3 (.eJ (.bool (!(decide (((eL l o.key).1)=o.jK)))) (.gen [])) [.prop (Value.bool (!(((eL l o.key).1).toList == o.jK.toList))=Value.bool (!(decide (((eL l o.key).1)=o.jK))))] (aL (LY _ _) aO) Hz)) (Zt (cZ (t:=!(decide (((eL l o.key).1)=o.jK))) (λa2=>?_) (λa2=>?_)))))
      ·have a9:=jV a2
       refine En (Ls (Lg [2] (Lw (Zu 2 0 #[.int .i64 15,.string ((eL l o.key).1)] b λj3 c7=>Lo (Ld (Lt (Le (Ly (Ll (Ly (Dz (mJ 2 c7 ?_))))))))))))
       have hr:ny l o=((⟨15,(eL l o.key).1⟩:bR),l):=by rw [ny,nI d,nI e,nI f,nI i,if_pos u,if_pos a2]
       have f5:=(((c7.pl 1).pl 1).pl 3).pl 3
       have c8:=f5.dr 2
       exact⟨ad,c,(by first|rfl|(rw [hr];done)|(rw [hr];rfl)),(by first|exact c8|(rw [hr];exact c8))⟩
      ·have a9:=jN a2
       refine Zk (Zt (Zs (bX [5] (Hl 2 3 1 b (Hl 4 3 2 b Hz)) (Zc (rK l o.key o.value zc b) ?_))))
       rintro j4 j5 ⟨f6,f7,rfl,f8⟩
       refine Lo (Ld (Lt (Ls (Lg [1] (Lw (Zu 2 0 #[.int .i64 0,.string aR] f8 λj6 c9=>Lo (Ld (Lt (Le (Ll (Ly (Dz (mJ 2 c9 ?_)))))))))))))
       have hr:ny l o=((⟨0,aR⟩:bR),oq l o.key o.value):=by rw [ny,nI d,nI e,nI f,nI i,if_pos u,nI a2]
       have f9:=(((c9.pl 1).pl 1).pl 3).pl 3
       have d0:=f9.dr 2
       exact⟨f6,f7,(by first|rfl|(rw [hr];done)|(rw [hr];rfl)),(by first|exact d0|(rw [hr];exact d0))⟩
     ·refine En (Lq (Dz (cZ (t:=(o.kind:Int) == 5) (λa3=>?_) (λa3=>?_))))
      ·refine Zs (bX [3,4] (fE 1 3 0 6 (cB.cells o) b Hz) (Zc (Et l o ((eL l o.key).1) zc hsv ha (zU hsv) b) ?_))
       rintro j7 j8 ⟨g5,g7,rfl,g8⟩
       refine Lo (Dz (Zu 2 0 (bR.cells ((ln l o ((eL l o.key).1)).1)) g8 λj9 d1=>Lo (Ld (Lt (Le (Ll (Ly (Dz (mJ 2 d1 ?_)))))))))
       have hr:ny l o=((ln l o ((eL l o.key).1)).1,(ln l o ((eL l o.key).1)).2):=by rw [ny,nI d,nI e,nI f,nI i,nI u,if_pos a3]
       have g9:=(((d1.pl 1).pl 1).pl 3).pl 3
       have d2:=g9.dr 2
       exact⟨g5,g7,(by first|rfl|(rw [hr];done)|(rw [hr];rfl)),(by first|exact d2|(rw [hr];exact d2))⟩
      ·refine En (Lk (Lm (Lt (Ls (Lg [2] (Lw (Zu 2 0 #[.int .i64 0,.string ((eL l o.key).1)] b λk0 d3=>Lo (Ld (Lt (Le (Dz (mJ 2 d3 ?_))))))))))))
       have hr:ny l o=((⟨0,(eL l o.key).1⟩:bR),l):=by rw [ny,nI d,nI e,nI f,nI i,nI u,nI a3]
       have h0:=(((d3.pl 1).pl 1).pl 3).pl 3
       have d4:=h0.dr 2
       exact⟨ad,c,(by first|rfl|(rw [hr];done)|(rw [hr];rfl)),(by first|exact d4|(rw [hr];exact d4))⟩
theorem vJ (s:ByteArray):vA s=keyed s:=by
 rw [Bool.eq_iff_iff,nP]
 unfold vA
 simp only [Bool.and_eq_true,decide_eq_true_eq]
 omega
theorem uz (s:ByteArray):rvalue s=dT s:=by
 rw [Bool.eq_iff_iff,oc]
 unfold rvalue
 simp only [decide_eq_true_eq]
 omega
end
abbrev lO (l:List aH):Prop:=l.Pairwise λx y=>slt x.key y.key=true
theorem lO.keys {l:List aH}(h:lO l):(l.map (·.key)).Nodup:=by
 rw [List.Nodup,List.pairwise_map]
 exact h.imp λ{a b} hs e=>by rw [e,iR] at hs;cases hs
theorem G1 {a b:ByteArray}(h:slt a b=true):slt b a=false:=by
 cases d:slt b a with
 | false=>rfl
 | true=>have:=iF h d;rw [iR] at this;cases this
theorem lO.sorted {l:List aH}(h:lO l):l.Pairwise λx y=>slt y.key x.key=false:=h.imp λh=>G1 h
theorem lO.ext {l l':List aH}(h:lO l) (h':lO l') (hm:∀ x,x∈l↔x∈l'):l=l':=El h.keys h'.keys h.sorted h'.sorted hm
section
variable {l : List aH} {k v : ByteArray}
theorem Bl (l:List aH) (k:ByteArray):∀ x∈l.take (dC l k),slt x.key k=true:=by
 have:l.take (dC l k)=l.takeWhile λx=>slt x.key k:=by
  unfold dC
  exact(List.prefix_iff_eq_take.1 (List.takeWhile_prefix _)).symm
 rw [this]
 induction l with
 | nil=>intro x hx;simp at hx
 | cons y l ih =>
  intro x hx
  rw [List.takeWhile_cons] at hx
  split at hx
  ·rename_i hy
   rcases List.mem_cons.1 hx with rfl|hx
   ·exact hy
   ·exact ih (by unfold dC;exact(List.prefix_iff_eq_take.1 (List.takeWhile_prefix _)).symm) x hx
  ·cases hx
theorem LJ (h:dC l k<l.length):slt (l.getD (dC l k) aT).key k=false:=by
 cases hs:slt (l.getD (dC l k) aT).key k with
 | false=>rfl
 | true =>
  exfalso
  have hd:∀ l:List aH,∀ h:dC l k<l.length,slt (l[dC l k]'h).key k=false:=by
   intro l
   induction l with
   | nil=>intro h;simp at h
   | cons y l ih =>
    intro h
    by_cases hy:slt y.key k=true
    ·have e:dC (y::l) k=dC l k+1:=by simp [dC,List.takeWhile_cons,hy]
     simp only [e,List.getElem_cons_succ]
     exact ih (by rw [e] at h;simpa using h)
    ·have e:dC (y::l) k=0:=by simp [dC,List.takeWhile_cons,hy]
     simp only [e,List.getElem_cons_zero]
     simpa using hy
  have:=hd l h
  rw [List.getD_eq_getElem?_getD,List.getElem?_eq_getElem h,Option.getD_some,this] at hs
  cases hs
theorem KG (hr:lO l):∀ x∈l.drop (dC l k),slt x.key k=false:=by
 intro x hx
 rcases Nat.lt_or_ge (dC l k) l.length with h|h
 ·rw [iD (d:=aT) h] at hx
  have a:=LJ (l:=l) (k:=k) h
  rcases List.mem_cons.1 hx with rfl|hx
  ·exact a
  ·have hp:lO (l.drop (dC l k)):=hr.sublist (List.drop_sublist ..)
   rw [iD (d:=aT) h] at hp
   have b:=(List.pairwise_cons.1 hp).1 x hx
   cases hs:slt x.key k with
   | false=>rfl
   | true=>have:=iF b hs;rw [a] at this;cases this
 ·rw [List.drop_eq_nil_of_le h] at hx;cases hx
theorem rL (hr:lO l):∀ x∈l.drop (if xu l k=true then dC l k+1 else dC l k),slt k x.key=true:=by
 intro x hx
 split at hx
 ·rename_i hf
  have hlt:=qX hf
  have hp:lO (l.drop (dC l k)):=hr.sublist (List.drop_sublist ..)
  rw [iD (d:=aT) hlt] at hp
  have:=(List.pairwise_cons.1 hp).1 x hx
  rw [vI hf] at this
  exact this
 ·rename_i hf
  have b:=KG hr x hx
  cases hs:slt k x.key with
  | true=>rfl
  | false =>
   exfalso
   have he:x.key=k:=lk b hs
   rcases Nat.lt_or_ge (dC l k) l.length with h|h
   ·have hp:lO (l.drop (dC l k)):=hr.sublist (List.drop_sublist ..)
    rw [iD (d:=aT) h] at hp hx
    rcases List.mem_cons.1 hx with rfl|hx
    ·exact hf (by rw [xu,decide_eq_true h,decide_eq_true he];rfl)
    ·have a:=(List.pairwise_cons.1 hp).1 x hx
     rw [he,LJ h] at a;cases a
   ·rw [List.drop_eq_nil_of_le h] at hx;cases hx
theorem uA (hr:lO l) (x:aH):x∈l.take (dC l k)\/x∈l.drop (if xu l k=true then dC l k+1 else dC l k)↔x∈l/\x.key≠k:=by
 constructor
 ·rintro(h|h)
  ·refine⟨List.mem_of_mem_take h,λe=>?_⟩
   have:=Bl l k x h
   rw [e,iR] at this;cases this
  ·refine⟨List.mem_of_mem_drop h,λe=>?_⟩
   have:=rL hr x h
   rw [e,iR] at this;cases this
 ·rintro⟨h,hne⟩
  rw [<- List.take_append_drop (dC l k) l] at h
  rcases List.mem_append.1 h with h|h
  ·exact .inl h
  ·right
   split
   ·rename_i hf
    rw [iD (d:=aT) (qX hf)] at h
    rcases List.mem_cons.1 h with rfl|h
    ·exact absurd (vI hf) hne
    ·exact h
   ·exact h
theorem zV (l:List aH) (k v:ByteArray):oq l k v=l.take (dC l k)++(⟨k,v⟩::l.drop (if xu l k=true then dC l k+1 else dC l k)):=by
 unfold oq
 split<;>simp
theorem Eu (hr:lO l):lO (oq l k v):=by
 rw [zV]
 refine List.pairwise_append.2 ⟨hr.sublist (List.take_sublist ..),List.pairwise_cons.2 ⟨λx hx=>rL hr x hx,hr.sublist (List.drop_sublist ..)⟩,λx hx y hy=>?_⟩
 have a:=Bl l k x hx
 rcases List.mem_cons.1 hy with rfl|hy
 ·exact a
 ·exact iF a (rL hr y hy)
theorem Jh (hr:lO l) (x:aH):x∈oq l k v↔x=⟨k,v⟩\/(x∈l/\x.key≠k):=by
 rw [zV,List.mem_append,List.mem_cons,<- uA hr x]
 constructor
 ·rintro(h|h|h)
  ·exact .inr (.inl h)
  ·exact .inl h
  ·exact .inr (.inr h)
 ·rintro(h|h|h)
  ·exact .inr (.inl h)
  ·exact .inl h
  ·exact .inr (.inr h)
end
section
variable {m : hX} {k v : ByteArray}
theorem tI (hi:Bb m):oq (cU m) k v=cU (eB m k v):=by
 refine(Eu (mD hi)).ext (mD (kM k v m hi)) λx=>?_
 rw [Jh (mD hi),iS hi,iS (kM k v m hi),y3]
 by_cases hk:k=x.key
 ·rw [if_pos hk]
  constructor
  ·rintro(h|⟨_,h⟩)
   ·rw [h]
   ·exact absurd hk.symm h
  ·intro h
   left
   obtain⟨a,b⟩:=x
   simp only [Option.some.injEq] at h hk
   rw [hk,h]
 ·rw [if_neg hk]
  constructor
  ·rintro(h|⟨h,_⟩)
   ·rw [h] at hk;exact absurd rfl hk
   ·exact h
  ·intro h;exact .inr ⟨h,λe=>hk e.symm⟩
theorem Bm (hi:Bb m):xu (cU m) k=(bD m k).isSome:=by
 cases hg:bD m k with
 | some v =>
  cases hf:xu (cU m) k with
  | true=>rfl
  | false =>
   exfalso
   have hm:(⟨k,v⟩:aH)∈cU m:=(iS hi).2 hg
   have a:=mt (uA (k:=k) (mD hi) ⟨k,v⟩).1 (λh=>h.2 rfl)
   rw [hf] at a
   simp only [Bool.false_eq_true,if_false,not_or] at a
   rw [<- List.take_append_drop (dC (cU m) k) (cU m)] at hm
   rcases List.mem_append.1 hm with h|h
   ·exact a.1 h
   ·exact a.2 h
 | none =>
  cases hf:xu (cU m) k with
  | false=>rfl
  | true =>
   exfalso
   have a:=(iS hi).1 (bC (d:=aT) (qX hf))
   rw [vI hf,hg] at a;cases a
theorem CM (hi:Bb m):eL (cU m) k=((bD m k).getD ⟨#[]⟩,(bD m k).isSome):=by
 have b:(eL (cU m) k).2=(bD m k).isSome:=by rw [CK,Bm hi]
 have a:(eL (cU m) k).1=(bD m k).getD ⟨#[]⟩:=by
  rw [CL]
  have hf:=Bm (k:=k) hi
  cases hg:bD m k with
  | none=>rw [hg] at hf;rw [hf];rfl
  | some v =>
   rw [hg] at hf
   simp only [Option.isSome_some] at hf
   rw [if_pos hf]
   have a:=(iS hi).1 (bC (d:=aT) (qX hf))
   rw [vI hf,hg] at a
   simp only [Option.some.injEq] at a
   rw [a];rfl
 rw [<- a,<- b]
theorem Ji (hi:Bb m) (h:(bD m k).isSome=true):(cU m).take (dC (cU m) k)++(cU m).drop (dC (cU m) k+1)=cU (mK m k):=by
 have hf:xu (cU m) k=true:=by rw [Bm hi];exact h
 have hr:=mD hi
 have hb:=rL (k:=k) hr
 rw [if_pos hf] at hb
 have hR:lO ((cU m).take (dC (cU m) k)++(cU m).drop (dC (cU m) k+1)) :=
  List.pairwise_append.2 ⟨hr.sublist (List.take_sublist ..),hr.sublist (List.drop_sublist ..),λx hx y hy=>iF (Bl (cU m) k x hx) (hb y hy)⟩
 refine hR.ext (mD (uw hi)) λx=>?_
 have hs:=uA (k:=k) hr x
 rw [if_pos hf] at hs
 rw [List.mem_append,hs,iS hi,iS (uw hi),GS hi]
 by_cases hk:k=x.key
 ·rw [if_pos hk]
  constructor
  ·rintro⟨_,h⟩;exact absurd hk.symm h
  ·intro h;cases h
 ·rw [if_neg hk]
  exact⟨λh=>h.1,λh=>⟨h,λe=>hk e.symm⟩⟩
end
theorem KH (o:cB):kC o=may o:=by
 have a:dT aR=true:=zf
 rw [Bool.eq_iff_iff]
 obtain⟨kd,ky,vl,ol,ds,am⟩:=o
 unfold kC may
 simp only [vJ,uz]
 by_cases b:kd=1
 ·subst b;simp
  constructor
  ·rintro⟨h,rfl,rfl,rfl,rfl⟩;exact⟨⟨rfl,rfl,rfl,rfl⟩,h,a,a⟩
  ·rintro⟨⟨rfl,rfl,rfl,rfl⟩,h,_,_⟩;exact⟨h,rfl,rfl,rfl,rfl⟩
 by_cases d:kd=3
 ·subst d;simp
  constructor
  ·rintro⟨h,rfl,rfl,rfl,rfl⟩;exact⟨⟨rfl,rfl,rfl,rfl⟩,h,a,a⟩
  ·rintro⟨⟨rfl,rfl,rfl,rfl⟩,h,_,_⟩;exact⟨h,rfl,rfl,rfl,rfl⟩
 by_cases e:kd=4
 ·subst e;simp;constructor<;>simp_all
 by_cases f:kd=2
 ·subst f;simp
  constructor<;>(intro h;simp_all)
 by_cases i:kd=5
 ·subst i;simp
  constructor<;>(intro h;simp_all<;>omega)
 ·simp [b,f,d,e,i]
theorem G2 {m:hX}{o:cB}{v:ByteArray}(hi:Inv m) (hm:may o=true) (hk:o.kind=5) (hg:bD m o.key=some v):ln (cU m) o v=((kK m o).1,cU (kK m o).2):=by
 obtain⟨_,_,_,hmv⟩:=pn hm
 have hmv:1<=o.aY/\o.aY<=1125899906842624:=by
  rcases hmv with h|h|h|h|h
  ·omega
  ·omega
  ·omega
  ·omega
  ·exact h.2.2.2
 have hL:=oa m
 rw [tH hm hk]
 simp only [hg]
 unfold ln
 simp only [CM hi.keys]
 cases f:(number v).2 with
 | false =>
  have nv:(num v).2=false:=by rw [Bd,f]
  rw [if_pos (by rw [nv];rfl),if_pos (.inl rfl)]
 | true =>
  have nv:=oS f
  by_cases a:∃ w,bD m o.dest=some w/\(number w).2=false
  ·obtain⟨w,hw,i⟩:=a
   have nw:(num w).2=false:=by rw [Bd,i]
   rw [if_pos (by rw [hw];simp [nw]),if_pos (.inr ⟨w,hw,i⟩)]
  ·have q:¬ ((!((num v).2)) || (((bD m o.dest).isSome) && (!((num ((bD m o.dest).getD ⟨#[]⟩)).2))))=true:=by
    rw [nv]
    cases hd:bD m o.dest with
    | none=>simp
    | some w =>
     have:(num w).2=true:=by
      rw [Bd]
      cases hq:(number w).2 with
      | true=>rfl
      | false=>exact absurd ⟨w,hd,hq⟩ a
     simp [this]
   have u:¬ (true=false\/∃ w,bD m o.dest=some w/\(number w).2=false):=by
    rintro(h|h)
    ·cases h
    ·exact a h
   obtain⟨z,t2⟩:=vh a
   have ht:(num ((bD m o.dest).getD ⟨#[]⟩)).1=nx m o.dest:=by
    unfold nx
    cases hd:bD m o.dest with
    | none=>simp only [Option.getD_none];rw [GV,sE]
    | some w =>
     simp only [Option.getD_some]
     refine Kz ?_
     cases hq:(number w).2 with
     | true=>rfl
     | false=>exact absurd ⟨w,hd,hq⟩ a
   have hw:IntKind.u64.wrap (nx m o.dest+o.aY)=nx m o.dest+o.aY:=HD za za
   rw [if_neg q,if_neg u,ht,hw,nv]
   simp only
   by_cases b:(number v).1<o.aY
   ·rw [if_pos (decide_eq_true b),if_pos b]
   ·rw [if_neg (by rw [decide_eq_false b];decide),if_neg b]
    by_cases d:1125899906842624<nx m o.dest+o.aY
    ·rw [if_pos (decide_eq_true d),if_pos d]
    ·rw [if_neg (by rw [decide_eq_false d];decide),if_neg d]
     by_cases e:full m o.dest=true
     ·obtain⟨x,c6⟩:=po.1 e
      rw [if_pos (by rw [x,hL];simp;omega),if_pos e]
     ·rw [if_neg ?_,if_neg e]
      ·rw [tI hi.keys,tI (kM _ _ _ hi.keys)]
      ·intro hc
       simp only [Bool.and_eq_true,Bool.not_eq_true',decide_eq_true_eq] at hc
       refine e (po.2 ⟨by simpa using hc.1,?_⟩)
       have:=hc.2
       omega
theorem KI {m:hX}(hi:Inv m) (o:cB):ny (cU m) o=((kK m o).1,cU (kK m o).2):=by
 have hL:=oa m
 unfold ny
 rw [KH]
 cases hm:may o with
 | false=>rw [Bh hm];rfl
 | true =>
  have F:=pn hm
  rw [if_neg zf]
  simp only [CM hi.keys]
  rcases F.kind with hk|hk|hk|hk|hk
  ·rw [Bi hm hk,hk]
   cases hg:bD m o.key<;>simp
  ·rw [Bj hm hk,hk]
   by_cases a:full m o.key=true
   ·obtain⟨b,d⟩:=po.1 a
    rw [if_pos zf,if_pos (by rw [b,hL];simp;omega),if_pos a]
   ·rw [if_pos zf,if_neg ?_,if_neg a]
    ·rw [tI hi.keys]
    ·intro hc
     simp only [Bool.and_eq_true,Bool.not_eq_true',decide_eq_true_eq] at hc
     refine a (po.2 ⟨by simpa using hc.1,?_⟩)
     have:=hc.2
     omega
  ·rw [Bk hm hk,hk]
   cases hg:bD m o.key with
   | none=>simp
   | some v=>simp;exact Ji hi.keys (by rw [hg];rfl)
  ·rw [xt hm hk,hk]
   cases hg:bD m o.key with
   | none=>simp
   | some v =>
    by_cases hv:v=o.jK
    ·simp [hv];exact tI hi.keys
    ·simp [hv]
  ·obtain⟨hk,-⟩:=hk
   cases hg:bD m o.key with
   | none=>rw [tH hm hk,hk,hg];simp
   | some v =>
    have h:=G2 hi hm hk hg
    rw [hk]
    simp [h]
section
variable {w0 w : World} {L : List cA} {ad : Option Addr} {c : Nat}
def eK:ByteArray->List aH->Bool
 | _,[]=>true
 | was,x::l=>keyed x.key && dT x.value && !(slt x.key was || decide (x.key=was)) && eK x.key l
def cP (l:List aH):List (ByteArray×ByteArray):=l.map λx=>(x.key,x.value)
theorem CN {α β:Type} [DecidableEq α]:∀ {m:List (α×β)}{k:α}{v:β},bD m k=none->eB m k v=m++[(k,v)]
 | [],_,_,_=>rfl
 | x::m,k,v,h=>by
  rw [iG] at h
  split at h
  ·cases h
  ·rename_i hne
   rw [eB,if_neg hne,CN h]
   rfl
theorem G3 {l:List aH}{was key:ByteArray}(h:∀ x∈l,slt was x.key=false) (hk:(slt key was || decide (key=was))=false):bD (cP l) key=none:=by
 refine tG λx hx e=>?_
 obtain⟨y,hy,rfl⟩:=List.mem_map.1 hx
 have a:=h y hy
 simp only at e
 rw [Bool.or_eq_false_iff] at hk
 have b:slt key was=false:=hk.1
 rw [e] at a
 exact(of_decide_eq_false hk.2) (lk b a)
theorem Ev {l:List aH}{d:aH}{k:Nat}(hk:k<l.length) (h:bD (cP (l.take k)) (l.getD k d).key=none):eB (cP (l.take k)) (l.getD k d).key (l.getD k d).value=cP (l.take (k+1)):=by
 rw [CN h,bA (d:=d) hk,cP,cP,List.map_append]
 rfl
theorem G4 {l:List aH}{d:aH}{k:Nat}{was:ByteArray}(hk:k<l.length) (h:∀ x∈l.take k,slt was x.key=false) (h2:(slt (l.getD k d).key was || decide ((l.getD k d).key=was))=false):∀ x∈l.take (k+1),slt (l.getD k d).key x.key=false:=by
 intro x hx
 rw [bA (d:=d) hk] at hx
 rcases List.mem_append.1 hx with hx|hx
 ·cases hs:slt (l.getD k d).key x.key with
  | false=>rfl
  | true =>
   rw [Bool.or_eq_false_iff] at h2
   have b:=h x hx
   cases a:slt was (l.getD k d).key with
   | false=>exact absurd (lk h2.1 a) (of_decide_eq_false h2.2)
   | true=>have:=iF a hs;rw [b] at this;cases this
 ·rw [List.mem_singleton.1 hx];exact iR _
def od (l:List aH):Bool:=eK ⟨#[]⟩ l && decide (l.length<=64)
def iM (l:List aH):Int:=if eK ⟨#[]⟩ l=true then 6 else 1
theorem CO (l:List aH) (hll:l.length<=1000000000000) (hr:Rw w0 L aH.cells 2 aT ad l) (hs:St w0 L w):Cs Tryz.prog 104 #[.slice ad l.length c] w λrv w'=>(∃ p r,rv=.tuple #[zP p 0,.int .i64 0]/\(od l)=true/\St w0 (aC p #[.map (some r)] 181::cI Value.string Value.string r (cP l)::L) w')\/(rv=.tuple #[.pointer none,.int .i64 (iM l)]/\(od l)=false/\St w0 L w'):=by
 refine cL Tryz.func104 Tryz.ntmps104 (En (Lq (Ls (Lg [0] (Dz (Zc (CA hs) ?_))))))
 rintro v4 w5 ⟨o,r2,rfl,a8⟩
 refine Lz (Lq (Ls (Lq (Lb (Dz (bH.loop (T:=Nat×ByteArray) (λgg=>[(0,.slice ad l.length c),(4,zP o 0),(5,.string gg.2),(9,.slice ad l.length c),(10,.int .i64 (l.length:Nat)),(11,.int .i64 (gg.1:Nat))]) (λgg w=>(gg.1<=l.length/\eK ⟨#[]⟩ l=eK gg.2 (l.drop gg.1)/\∀ x∈l.take gg.1,slt gg.2 x.key=false)/\St w0 (aC o #[.map (some r2)] 181::cI Value.string Value.string r2 (cP (l.take gg.1))::L) w) (λgg=>l.length-gg.1) (0,⟨#[]⟩) [0,4,5,9,10,11] zk ⟨⟨Nat.zero_le _,rfl,λx hx=>by simp at hx⟩,a8⟩ ?_))))))
 rintro⟨k,was⟩ w6 ⟨hp,a⟩
 dsimp only at hp a
 refine En (Lq (Ls (Dz (Zi ((k:Int)<(l.length:Nat)) (λa9=>?_) (λa9=>?_)))))
 ·have hk:k<l.length:=za
  obtain⟨a4,a5,rfl⟩:=aB.isSome (hr _ (a.drop 2)) za
  refine Zk (Zt (Zs (Zb (Zs (bX [2,3] (Hx 0 (k:Int) (l.length:Int) a4 a5 2 (Hg 1 (.agg (aH.cells (l.getD k aT))) [.prop (Array.size (aH.cells (l.getD k aT))=2),.cells ⟨a4,a5+(k*2),none⟩ (aH.cells (l.getD k aT))] (aL zk (eM (aB.iJ (hr _ (a.drop 2)) zo (Nat.le_of_ble_eq_true zk) zk) aO)) Hz)) (eN #[.string aR,.string aR] a λc0 c1 b0=>Lo (Dz (Zu 0 0 (aH.cells (l.getD k aT)) b0 λc2 a6=>Lo (Ld (Lt (Ls (Ls (Dz (bX [2,7] (Hl 1 0 0 a6 Hz) (dE (f:=144) (args:=#[.string ((l.getD k aT).key)]) Tryz.call144 (kR ((l.getD k aT).key)  a6) ?_)))))))))))))))
  rintro c3 c4 ⟨rfl,a1⟩
  refine Lo (Dz (Zr 3 2 [] (dB 19 (!(keyed ((l.getD k aT).key))) (λa2=>?_) (λa2=>?_))))
  ·have e:=jV a2
   refine En (Lw (gH (En (bO (Lt (LT (Lq (Le (Ly (Ll (Ly (sT (Ll (Ly (Dz (om (v:=.pointer none) (v':=.int .i64 1) ?_))))))))))))))))
   have hbad:eK ⟨#[]⟩ l=false:=by rw [hp.2.1,iD (d:=aT) hk,eK];simp only [e,Bool.and_false,Bool.false_and,Bool.not_true,Bool.true_and,Bool.not_false]
   exact .inr (⟨(by rw [show iM l=1 by rw [iM,nI hbad]]),(by rw [od,hbad];rfl),a1.dr 3⟩)
  ·have e:=jN a2
   refine Zj (Hl 6 0 1 a1 Hz) (dE (f:=145) (args:=#[.string ((l.getD k aT).value)]) Tryz.call145 (fQ ((l.getD k aT).value)  a1) ?_)
   rintro c5 c6 ⟨rfl,q⟩
   refine Lo (Dz (Zr 8 3 [] (dB 25 (!(dT ((l.getD k aT).value))) (λa3=>?_) (λa3=>?_))))
   ·have u:=jV a3
    refine En (bO (Lt (LT (Lq (Le (Ly (Ll (Ly (sT (Ll (Ly (Dz (om (v:=.pointer none) (v':=.int .i64 1) ?_)))))))))))))
    have hbad:eK ⟨#[]⟩ l=false:=by rw [hp.2.1,iD (d:=aT) hk,eK];simp only [e,u,Bool.and_false,Bool.false_and,Bool.not_true,Bool.true_and,Bool.not_false]
    exact .inr (⟨(by rw [show iM l=1 by rw [iM,nI hbad]]),(by rw [od,hbad];rfl),q.dr 3⟩)
   ·have u:=jN a3
    refine lD (Hl 12 0 0 q (Hg 14 (.eJ (.bool (slt ((l.getD k aT).key) was || decide (((l.getD k aT).key)=was))) (.gen [])) [.prop (Value.bool (Op.bytesLess ((l.getD k aT).key).toList was.toList || (((l.getD k aT).key).toList == was.toList))=Value.bool (slt ((l.getD k aT).key) was || decide (((l.getD k aT).key)=was)))] (aL (sle _ _) aO) Hz)) (Zt (cZ (t:=slt ((l.getD k aT).key) was || decide (((l.getD k aT).key)=was)) (λb=>?_) (λb=>?_)))
    ·refine En (Lq (Le (Ly (Ll (Ly (sT (Ll (Ly (Dz (om (v:=.pointer none) (v':=.int .i64 1) ?_))))))))))
     have hbad:eK ⟨#[]⟩ l=false:=by rw [hp.2.1,iD (d:=aT) hk,eK];simp only [e,u,b,Bool.and_false,Bool.false_and,Bool.not_true,Bool.true_and,Bool.not_false]
     exact .inr (⟨(by rw [show iM l=1 by rw [iM,nI hbad]]),(by rw [od,hbad];rfl),q.dr 3⟩)
    ·have b4:(decide (((l.getD k aT).key)=was))=false:=(Bool.or_eq_false_iff.1 b).2
     refine Zk (Zt (ZD (eR [0,1,2,3,4,5,6,7,8,9] (.ef 10 (.rd 11 (.ef 12 (.rd 13 .done))))) q λc9 i d0=>Zj (Hl 3 1 0 i (Hl 5 0 0 i (Hl 7 0 1 i (Hl 9 0 0 i Hz)))) (aU.mapEntry rfl zk pS (z:=aR) zk (r:=r2) (k:=(l.getD k aT).key) zk i 2 rfl λb5 d1 a7=>⟨lF a7 1 rfl [0,1],En (Lw (aU.entryStore (ek:=Value.string) (ev:=Value.string) rfl zk (r:=r2) (s:=b5) (k:=(l.getD k aT).key) (v:=(l.getD k aT).value) zk a7 0 rfl λd2 a0=>?_))⟩)))
     rw [rl] at a0
     refine⟨lF a0 1 rfl [0],En (bO (Lm (Lt (Dz (cS (dW 0 ((k:Nat)+1) Hz) ?_)))))⟩
     rw [Ev hk (G3 hp.2.2 b)] at a0
     have b6:=((a0.pl 0).pl 2).pl 2
     exact aN.back (k+1,(l.getD k aT).key) [0,4,5,9,10,11] zk (by show l.length-(k+1)<l.length-k;omega) ⟨⟨za,by rw [hp.2.1,iD (d:=aT) hk,eK];simp only [e,u,b,Bool.and_true,Bool.true_and,Bool.not_false],G4 hk hp.2.2 b⟩,b6.dr 1⟩
 ·have hall:l.take k=l:=List.take_of_length_le za
  have hok:eK ⟨#[]⟩ l=true:=by rw [hp.2.1,List.drop_eq_nil_of_le za];rfl
  rw [hall] at a
  refine En (Lx (kD (kE (Lh (Lt (Ls (Lq (Dz (Zi ((l.length:Int)>64) (λb8=>?_) (λb8=>?_))))))))))
  ·exact En (Lq (Le (Ly (Dz (om (v:=.pointer none) (v':=.int .i64 6) (.inr (⟨(by rw [show iM l=6 by rw [iM,if_pos hok]]),(by rw [od,hok,decide_eq_false za];rfl),a.dr 2⟩)))))))
  ·exact En (Lk (Lt (Lq (Le (Dz (om (v:=zP o 0) (v':=.int .i64 0) (.inl ⟨o,r2,rfl,(by rw [od,hok,decide_eq_true za];rfl),a⟩)))))))
def qY (l:List aH) (k:Nat):ByteArray:=if k=0 then ⟨#[]⟩ else (l.getD (k-1) aT).key
theorem Ew (l:List aH) (k:Nat):qY l (k+1)=(l.getD k aT).key:=by
 rw [qY,if_neg za,Nat.add_sub_cancel]
theorem KJ {s:ByteArray}(h:1<=s.size):slt ⟨#[]⟩ s=true:=by
 have:s.data.toList≠[]:=λe=>by
  have:=pk s
  rw [e] at this;simp at this;omega
 unfold slt
 cases hs:s.data.toList with
 | nil=>exact absurd hs this
 | cons c r=>rw [ByteArray.toList_eq,ByteArray.toList_eq];simp [Op.bytesLess,hs]
theorem Bn (a b:ByteArray):(slt a b || decide (a=b))=!slt b a:=by
 cases d:slt b a with
 | true =>
  have f:slt a b=false:=by
   cases h:slt a b with
   | false=>rfl
   | true=>have:=iF h d;rw [iR] at this;cases this
  have i:¬ a=b:=λe=>by rw [e,iR] at d;cases d
  rw [f,decide_eq_false i];rfl
 | false =>
  cases f:slt a b with
  | true=>rfl
  | false=>rw [decide_eq_true (lk f d)];rfl
theorem LK {l:List aH}{k:Nat}(hk:k<l.length) (h1:vA (l.getD k aT).key=true) (h2:rvalue (l.getD k aT).value=true) (h3:k=0\/slt (qY l k) (l.getD k aT).key=true) :
 eK (qY l k) (l.drop k)=eK (qY l (k+1)) (l.drop (k+1)):=by
 have a:slt (qY l k) (l.getD k aT).key=true:=by
  rcases h3 with rfl|h3
  ·rw [vJ,nP] at h1
   exact KJ h1.1
  ·exact h3
 rw [iD (d:=aT) hk,eK,<- vJ,<- uz,h1,h2,Bn,a,Ew]
 rfl
theorem Ex {l:List aH}{k:Nat}(hk:k<l.length) (h:vA (l.getD k aT).key=false\/rvalue (l.getD k aT).value=false\/slt (qY l k) (l.getD k aT).key=false):eK (qY l k) (l.drop k)=false:=by
 rw [iD (d:=aT) hk,eK,<- vJ,<- uz,Bn]
 rcases h with h|h|h<;>rw [h]<;>simp
theorem zW (l:List aH) (hll:l.length<=1000000000000) (hnc:ad=none->c=0) (hr:Rw w0 L aH.cells 2 aT ad l) (hs:St w0 L w):Cs Tryz.prog 109 #[.slice ad l.length c] w λrv w'=>(∃ q ad2 c2,rv=.tuple #[zP q 0,.int .i64 0]/\(od l)=true/\St w0 (aC q #[.slice ad2 l.length c2] 144::Sl ad2 c2 132 2 aH.cells l::L) w')\/(rv=.tuple #[.pointer none,.int .i64 (iM l)]/\(od l)=false/\St w0 L w'):=by
 refine cL Tryz.func109 Tryz.ntmps109 (En (Lq (Ls (Lq (Lb (Dz (bH.loop (T:=Nat) (λgg=>[(0,.slice ad l.length c),(4,.int .i64 (gg:Nat))]) (λgg w=>(gg<=l.length/\eK ⟨#[]⟩ l=eK (qY l gg) (l.drop gg))/\St w0 L w) (λgg=>l.length-gg) 0 [0,4] zk ⟨⟨Nat.zero_le _,rfl⟩,hs⟩ ?_)))))))
 rintro k w1 ⟨hp,e⟩
 refine En (Ls (Lq (Dz (Zi ((k:Int)<(l.length:Nat)) (λa7=>?_) (λa7=>?_)))))
 ·have hk:k<l.length:=za
  obtain⟨a,b,rfl⟩:=aB.isSome (hr _ (e.drop 0)) za
  refine Zk (Zt (Zs (Zb (Zs (ZD (eR [0,1,2,3,4] (.ef 5 (eR [6,7,8,9,10,11,12] (.ef 13 (eR [14,15,16,17,18,19,20,21,22,23,24,25,26,27,28,29,30,31,32,33] .done))))) e λw7 a2 b3=>Zj (Hx 2 (k:Int) (l.length:Int) a b 2 (Hg 4 (.gen [.string ((l.getD k aT).key)]) [.cell ⟨a,b+(k*2),none⟩ (.string ((l.getD k aT).key))] (bP (aB.dX (hr _ (a2.drop 0)) (k:=k) zo (j:=0) zf zk) aO) Hz)) (dE (f:=150) (args:=#[.string ((l.getD k aT).key)]) Tryz.call150 (uy ((l.getD k aT).key)  a2) ?_))))))
  rintro b4 b5 ⟨rfl,u⟩
  refine Lo (Dz (Zr 6 2 [] (dB 18 (!(vA ((l.getD k aT).key))) (λx=>?_) (λx=>?_))))
  ·have i:=jV x
   refine En (Lw (gH (En (bO (Lt (LT (Lq (Le (Ll (Ly (sT (Ll (Ly (Dz (om (v:=.pointer none) (v':=.int .i64 1) ?_)))))))))))))))
   have hbad:eK ⟨#[]⟩ l=false:=by rw [hp.2];exact Ex hk (.inl i)
   exact .inr (⟨(by rw [show iM l=1 by rw [iM,nI hbad]]),(by rw [od,hbad];rfl),u⟩)
  ·have i:=jN x
   refine Zj (Hx 10 (k:Int) (l.length:Int) a b 2 (Hg 12 (.gen [.string ((l.getD k aT).value)]) [.cell ⟨a,b+(k*2)+1,none⟩ (.string ((l.getD k aT).value))] (bP (aB.dX (hr _ (u.drop 0)) (k:=k) zo (j:=1) zf zk) aO) Hz)) (dE (f:=151) (args:=#[.string ((l.getD k aT).value)]) Tryz.call151 (oF ((l.getD k aT).value)  u) ?_)
   rintro b6 b7 ⟨rfl,d⟩
   refine Lo (Dz (Zr 14 3 [] (dB 27 (!(rvalue ((l.getD k aT).value))) (λz=>?_) (λz=>?_))))
   ·have o:=jV z
    refine En (bO (Lt (LT (Lq (Le (Ll (Ly (sT (Ll (Ly (Dz (om (v:=.pointer none) (v':=.int .i64 1) ?_))))))))))))
    have hbad:eK ⟨#[]⟩ l=false:=by rw [hp.2];exact Ex hk (.inr (.inl o))
    exact .inr (⟨(by rw [show iM l=1 by rw [iM,nI hbad]]),(by rw [od,hbad];rfl),d⟩)
   ·have o:=jN z
    refine Zr 17 3 [] (C9 30 ((k:Int)>0) (λa8=>?_) (λa8=>?_))
    ·refine lD (Hg 22 (.eJ (.int .i64 (k-1:Nat)) (.gen [])) [.prop (Value.int .i64 (IntKind.i64.wrap ((k:Nat)-1))=Value.int .i64 (k-1:Nat))] (aL (gV za za za) aO) (Hx 23 ((k-1:Nat):Int) (l.length:Int) a b 2 (Hg 25 (.gen [.string ((l.getD (k-1) aT).key)]) [.cell ⟨a,b+((k-1)*2),none⟩ (.string ((l.getD (k-1) aT).key))] (bP (aB.dX (hr _ (d.drop 0)) (k:=(k-1)) zo (j:=0) zf zk) aO) (Hx 28 (k:Int) (l.length:Int) a b 2 (Hg 30 (.gen [.string ((l.getD k aT).key)]) [.cell ⟨a,b+(k*2),none⟩ (.string ((l.getD k aT).key))] (bP (aB.dX (hr _ (d.drop 0)) (k:=k) zo (j:=0) zf zk) aO) (Hg 31 (.eJ (.bool (!(slt ((l.getD (k-1) aT).key) ((l.getD k aT).key)))) (.gen [])) [.prop (Value.bool (!(Op.bytesLess ((l.getD (k-1) aT).key).toList ((l.getD k aT).key).toList))=Value.bool (!(slt ((l.getD (k-1) aT).key) ((l.getD k aT).key))))] (aL rfl aO) Hz)))))) (Zt (cZ (t:=!(slt ((l.getD (k-1) aT).key) ((l.getD k aT).key))) (λa0=>?_) (λa0=>?_)))
     ·have a1:=jV a0
      refine En (Lq (Le (Ll (Ly (sT (Ll (Ly (Dz (om (v:=.pointer none) (v':=.int .i64 1) ?_)))))))))
      have hbad:eK ⟨#[]⟩ l=false:=by rw [hp.2];exact Ex hk (.inr (.inr (by rw [qY,if_neg za];exact a1)))
      exact .inr (⟨(by rw [show iM l=1 by rw [iM,nI hbad]]),(by rw [od,hbad];rfl),d⟩)
     ·exact Zk (Zm (Zt (cS (dW 1 ((k:Nat)+1) Hz) (aN.back (k+1) [0,4] zk (by show l.length-(k+1)<l.length-k;omega) ⟨⟨za,hp.2.trans (LK hk i o (.inr (by rw [qY,if_neg za];exact(jN a0))))⟩,d⟩))))
    ·exact En (bO (Lt (LF (Lk (Lm (Lt (Dz (cS (dW 1 ((k:Nat)+1) Hz) (aN.back (k+1) [0,4] zk (by show l.length-(k+1)<l.length-k;omega) ⟨⟨za,hp.2.trans (LK hk i o (.inl za))⟩,d⟩)))))))))
 ·have hok:eK ⟨#[]⟩ l=true:=by rw [hp.2,List.drop_eq_nil_of_le za];rfl
  refine En (Lx (kD (kE (Lh (Lt (Ls (Lq (Dz (Zi ((l.length:Int)>64) (λa9=>?_) (λa9=>?_))))))))))
  ·exact En (Lq (Le (Ly (Dz (om (v:=.pointer none) (v':=.int .i64 6) (.inr (⟨(by rw [show iM l=6 by rw [iM,if_pos hok]]),(by rw [od,hok,decide_eq_false za];rfl),e⟩)))))))
  ·exact En (Lk (Lt (Ls (Lg [0,2,4] (Dz (Aw lM gG e λb0 b8 a3=>Lo (Lw (aU.append rfl zk lM gG (ad:=some ⟨b0,0,none⟩) (c:=0) (xs:=([]:List aH)) (ys:=l) (adx:=ad) (cx:=c) aT zk a3 (hr _ (a3.drop 1)) hnc zp zp λa4 a5 b9 b1=>Lo (Lw (hG #[.slice a4 l.length a5] b1 λa6 c0 b2=>Lz (Le (Dz (om (v:=zP a6 0) (v':=.int .i64 0) (.inl ⟨a6,a4,a5,rfl,(by rw [od,hok,decide_eq_true za];rfl),b2⟩))))))))))))))
end
section
variable {w0 w : World} {L : List cA} {ad : Option Addr} {c : Nat}
theorem Bo:jZ Tryz.prog 136 101 3 32:=⟨zk,⟨Tryz.t101,.agg #[.int .u64 0,.int .i64 0,.string ⟨#[]⟩],zk,zk,zk,zk,zk⟩,zf⟩
def fH (x:aG):Bool :=
 if ((x.time:Int) == 0)=true then
  (!(decide (x=(⟨0,⟨0,aR⟩⟩:aG))))
 else
  false
theorem Bp (x:aG) (hs:St w0 L w):Cs Tryz.prog 143 #[.agg (aG.cells x)] w λrv w'=>rv=.bool (fH x)/\St w0 L w':=by
 refine cL Tryz.func143 Tryz.ntmps143 (En (Ls (Lg [0] (Dz (hG (aG.cells x) hs λe i d=>Lz (Ls (Lg [] (Dz (gS 0 4 (Hl 1 0 0 d Hz) (dB 6 ((x.time:Int) == 0) (λa=>?_) (λa=>?_)))))))))))
 ·refine Zp 4 2 [(4,.agg (aG.cells x))] [(4,[.prop (Array.size (aG.cells x)=3),.cells ⟨e,0,none⟩ (aG.cells x)])] (ak (aL zk (eM (d.cells 0 0 rfl zk) aO)) gQ) (aU.jO rfl zk (b:=false) (t:=101) (xs:=aG.cells x) (ys:=aG.cells (⟨0,⟨0,aR⟩⟩:aG)) (m:=3) zk zk zf zk (r:=!(decide (x=(⟨0,⟨0,aR⟩⟩:aG)))) (EW  (Mf x (⟨0,⟨0,aR⟩⟩:aG))) (En (bO (Lt (Le (Dz (bL (v:=.bool (!(decide (x=(⟨0,⟨0,aR⟩⟩:aG))))) ?_)))))))
  have hr:fH x=(!(decide (x=(⟨0,⟨0,aR⟩⟩:aG)))):=by rw [fH,if_pos a]
  exact⟨by first|(rw [hr];done)|(rw [hr];rfl),d.drop 1⟩
 ·refine En (bO (Lt (Le (Dz (bL (v:=.bool false) ?_)))))
  have hr:fH x=false:=by rw [fH,nI a]
  exact⟨by first|(rw [hr];done)|(rw [hr];rfl),d.drop 1⟩
theorem Jj (l:List aG) (hll:l.length<=1000000000000) (hr:Rw w0 L aG.cells 3 aM ad l) (hs:St w0 L w):Cs Tryz.prog 186 #[.slice ad l.length c,.func (.func 143) #[] #[]] w λrv w'=>(∃ k,rv=.int .i64 (k:Nat)/\(l.any fH)=true/\St w0 L w')\/(rv=.int .i64 (-1)/\(l.any fH)=false/\St w0 L w'):=by
 refine cL Tryz.func186 Tryz.ntmps186 (En (Lq (Ls (Lq (Lb (Dz (bH.loop (T:=Nat) (λgg=>[(0,.slice ad l.length c),(1,.func (.func 143) #[] #[]),(7,.int .i64 (l.length:Nat)),(8,.int .i64 (gg:Nat))]) (λgg w=>(gg<=l.length/\∀ y∈l.take gg,fH y=false)/\St w0 L w) (λgg=>l.length-gg) 0 [0,1,7,8] zk ⟨⟨Nat.zero_le _,λy hy=>by simp at hy⟩,hs⟩ ?_)))))))
 rintro k q ⟨hp,a⟩
 refine En (Lq (Ls (Dz (Zi ((k:Int)<(l.length:Nat)) (λo=>?_) (λo=>?_)))))
 ·have hk:k<l.length:=za
  obtain⟨e,f,rfl⟩:=aB.isSome (hr _ (a.drop 0)) za
  refine En (Lk (Lt (Ls (Lb (Lq (Ls (Dz (bX [5] (Hx 3 (k:Int) (l.length:Int) e f 3 (Hg 4 (.agg (aG.cells (l.getD k aM))) [.prop (Array.size (aG.cells (l.getD k aM))=3),.cells ⟨e,f+(k*3),none⟩ (aG.cells (l.getD k aM))] (aL zk (eM (aB.iJ (hr _ (a.drop 0)) zo (Nat.le_of_ble_eq_true zk) zk) aO)) Hz)) (eE (Bp (l.getD k aM)  a) λx i=>Lo (Ld (Lt (Dz (cZ (t:=fH (l.getD k aM)) (λb=>?_) (λb=>?_))))))))))))))
  ·exact En (Lq (Le (Ll (Ly (sT (Ll (Ly (Dz (bL (v:=.int .i64 (k:Nat)) (.inl ⟨k,rfl,(by rw [List.any_eq_true];exact⟨_,bC (d:=aM) hk,b⟩),i⟩))))))))))
  ·exact Zk (Zm (Zt (cS (dW 0 ((k:Nat)+1) Hz) (aN.back (k+1) [0,1,7,8] zk (by show l.length-(k+1)<l.length-k;omega) ⟨⟨za,λy hy=>by rw [bA (d:=aM) hk] at hy;exact(List.mem_append.1 hy).elim (hp.2 y) (λh=>by rw [List.mem_singleton.1 h];exact b)⟩,i⟩))))
 ·exact En (Lx (kD (kE (Lh (Lt (Lq (Le (Dz (bL (v:=.int .i64 (-1)) (.inr (⟨rfl,(by rw [List.any_eq_false];intro y hy;rw [hp.2 y (by rw [List.take_of_length_le za];exact hy)];decide),a⟩)))))))))))
theorem KK (l:List aG) (hll:l.length<=1000000000000) (hr:Rw w0 L aG.cells 3 aM ad l) (hs:St w0 L w):Cs Tryz.prog 142 #[.slice ad l.length c,.func (.func 143) #[] #[]] w λrv w'=>rv=.bool (l.any fH)/\St w0 L w':=by
 refine cL Tryz.func142 Tryz.ntmps142 (En (Lq (Ls (Lg [2] (Lw (dE (f:=186) (args:=#[.slice ad l.length c,.func (.func 143) #[] #[]]) Tryz.call186 (Jj l zc (λw h=>hr _ (h.drop 0)) hs) ?_))))))
 rintro o q (⟨d,rfl,a,e⟩|⟨rfl,b,i⟩)
 ·exact Lz (Le (Dz (bL (v:=.bool (decide ((d:Int) >= 0))) ⟨(by first|exact congrArg Value.bool ((decide_eq_true za).trans a.symm)|exact congrArg Value.bool a.symm),e⟩)))
 ·exact Lz (Le (Dz (bL (v:=.bool false) ⟨(by first|exact congrArg Value.bool ((decide_eq_true za).trans b.symm)|exact congrArg Value.bool b.symm),i⟩)))
def oe (l:List aG):Bool:=decide (l.length=8) && !l.any fH
theorem Jk (l:List aG) (hll:l.length<=1000000000000) (hnc:ad=none->c=0) (hr:Rw w0 L aG.cells 3 aM ad l) (hs:St w0 L w):Cs Tryz.prog 103 #[.slice ad l.length c] w λrv w'=>(∃ p,rv=.tuple #[zP p 0,.int .i64 0]/\(oe l)=true/\St w0 (aC p (af aG.cells l) 183::L) w')\/(rv=.tuple #[.pointer none,.int .i64 1]/\(oe l)=false/\St w0 L w'):=by
 refine cL Tryz.func103 Tryz.ntmps103 (En (Lq (Ls (Ls (Lg [5] (Dz (Zr 0 4 [] (dB 8 ((l.length:Int) != 8) (λd=>?_) (λd=>?_)))))))))
 ·have o:=tU d
  exact En (Lw (gH (En (bO (Lt (LT (Lq (Le (Ly (Dz (om (v:=.pointer none) (v':=.int .i64 1) (.inr (⟨rfl,(by first|(rw [oe,decide_eq_false za];rfl)|(rw [oe,show l.any fH=true by assumption,Bool.not_true,Bool.and_false])),hs⟩)))))))))))))
 ·have o:=sR d
  refine En (Lw (dE (f:=142) (args:=#[.slice ad l.length c,.func (.func 143) #[] #[]]) Tryz.call142 (KK l zc (λw h=>hr _ (h.drop 0)) hs) ?_))
  rintro x z ⟨rfl,e⟩
  refine Lz (Dz (cZ (t:=l.any fH) (λq=>?_) (λq=>?_)))
  ·exact En (Lq (Le (Ly (Dz (om (v:=.pointer none) (v':=.int .i64 1) (.inr (⟨rfl,(by first|(rw [oe,decide_eq_false za];rfl)|(rw [oe,show l.any fH=true by assumption,Bool.not_true,Bool.and_false])),e⟩)))))))
  ·refine En (Lk (Lt (Ls (Lg [0] (Dz (Zc (vg e) ?_))))))
   rintro v8 w9 ⟨a,rfl,i⟩
   refine Lz (Ls (Dz (bX [5] (Hg 3 (.eJ (zL a 0 8 8) (.sub 0 8)) [.prop (((none:Option Operand)=none->(0:Nat)=0)/\((none:Option Operand)=none->(8:Nat)=8)/\(0:Nat)<=8/\(8:Nat)<=8),.prop (Value.slice (some (if 8=0 then Addr.mk a 0 none else (Addr.mk a 0 none).add (0*3))) (8-0) (8-0)=Value.slice (some ⟨a,0,none⟩) 8 8)] (aL ⟨(by first|(intro _;rfl)|(intro hc;cases hc)),(by first|(intro _;rfl)|(intro hc;cases hc)),za,za⟩ (aL (dM _ _ _ _ _ zf) aO)) Hz) (aU.copy rfl zk Bo dG (b:=a) (off:=0) (dLen:=8) (dCap:=8) (ys:=l) (adx:=ad) (cx:=c) aM zk i (hr _ (i.drop 1)) (by rw [eO dG.size];simp only [Nat.zero_add];refine Nat.mul_le_mul_right _ ?_;first|omega|(simp only [List.length_replicate];omega)) (cs':=af aG.cells l) (HM dG.size (by first|omega|simp) za) ?_))))
   intro a0 u
   exact Lo (Ld (Lt (Lq (Le (Dz (om (v:=zP a 0) (v':=.int .i64 0) (.inl ⟨a,rfl,(by rw [oe,show l.any fH=false by assumption,decide_eq_true za];rfl),u⟩)))))))
end
def mE (tl:List aG) (l:List aH) (r:bE):(bR×Bool)×List aG×List aH :=
 if (((decide ((r.aQ:Int)<1)) || (decide ((r.aQ:Int)>8))) || ((r.time:Int) == 0))=true then
  (((⟨1,aR⟩:bR),false),tl,l)
 else
  if (decide ((r.time:Int)<((tl.getD (Int.toNat (r.aQ-1)) aM).time)))=true then
   (((⟨13,aR⟩:bR),false),tl,l)
  else
   if ((r.time:Int) == ((tl.getD (Int.toNat (r.aQ-1)) aM).time))=true then
    (((tl.getD (Int.toNat (r.aQ-1)) aM).cQ,false),tl,l)
   else
    (((ny l r.op).1,true),tl.set (Int.toNat (r.aQ-1)) (⟨r.time,⟨((ny l r.op).1).err,((ny l r.op).1).value⟩⟩:aG),(ny l r.op).2)
theorem G6 {w0 w:World}{L:List cA}{p:Nat}{q:Nat}{ad:Option Addr}{c:Nat}(tl:List aG) (l:List aH) (r:bE) (cnt:Int) (h8:tl.length=8) (hl:l.length<=10000000) (hsv:∀ x∈l,x.value.size<=281474976710656) (ha:0<=r.op.aY) (hs:St w0 (aC p (eI #[zP q 0] aG.cells tl #[.int .u64 cnt]) 105::aC q #[.slice ad l.length c] 144::Sl ad c 132 2 aH.cells l::L) w):Calls Tryz.prog 128 #[zP p 1,zP q 0,.agg (bE.cells r)] w (pE λrv w'=>∃ (ad2:Option Addr) (c2:Nat),rv=.tuple #[.agg (bR.cells ((mE tl l r).1.1)),.bool ((mE tl l r).1.2)]/\St w0 (aC p (eI #[zP q 0] aG.cells ((mE tl l r).2.1) #[.int .u64 cnt]) 105::aC q #[.slice ad2 (((mE tl l r).2.2).length) c2] 144::Sl ad2 c2 132 2 aH.cells ((mE tl l r).2.2)::L) w'):=by
 refine cL Tryz.func128 Tryz.ntmps128 ?_
 refine En (Ls (Lg [0,1] (Dz ?_)))
 refine aU.box rfl rfl zk (v:=.agg (bE.cells r)) zk hs (cs:=bE.cells r) zk ?_
 intro b1 w2 hs3
 refine Lo (Dz ?_)
 refine aU.alloc rfl rfl zk (z:=.agg #[.int .i64 0,.string aR]) zk hs3 (cs:=#[.int .i64 0,.string aR]) zk ?_
 intro b4 w5 hs6
 refine Lo (bO (Lt (Ls (Ls (Dz ?_)))))
 refine bH.join (T:=Unit) (E:=λ_=>[(22,.bool (((decide ((r.aQ:Int)<1)) || (decide ((r.aQ:Int)>8))) || ((r.time:Int) == 0))),(7,.bool false),(6,zP b4 0),(5,zP b1 0),(0,zP p 1),(1,zP q 0)]) (F:=λ_ w=>St w0 (aC b4 #[.int .i64 0,.string aR] 65::aC b1 (bE.cells r) 46::aC p (eI #[zP q 0] aG.cells tl #[.int .u64 cnt]) 105::aC q #[.slice ad l.length c] 144::Sl ad c 132 2 aH.cells l::L) w) ?_ ?_
 ·refine Zg [] ?_
  refine Zp 0 4 [(1,.gen [.int .i64 r.aQ])] [(1,[.cell ⟨b1,0,none⟩ (.int .i64 r.aQ)])] (ak (bP (hs6.cell 1 rfl zk) aO) gQ) ?_
  rcases Bool.eq_false_or_eq_true (decide ((r.aQ:Int)<1)) with h7|h7
  ·refine py 13 true h7 ?_
   have h7':(r.aQ:Int)<1:=of_decide_eq_true h7
   refine En (bO (Dz ?_))
   refine aN.pick [22,7,6,5,0,1] (S':=[(22,.bool true),(7,.bool false),(6,zP b4 0),(5,zP b1 0),(0,zP p 1),(1,zP q 0)]) zk ?_
   exact aN.eZ () (by first|rfl|(simp only [h7,Bool.not_true,Bool.not_false,Bool.true_or,Bool.false_or,Bool.true_and,Bool.false_and,Bool.or_true,Bool.or_false,Bool.and_true,Bool.and_false];done)|(simp [h7];done)) hs6
  ·refine py 13 false h7 ?_
   have h7':¬ ((r.aQ:Int)<1):=of_decide_eq_false h7
   refine Zp 4 5 [(5,.gen [.int .i64 r.aQ])] [(5,[.cell ⟨b1,0,none⟩ (.int .i64 r.aQ)])] (ak (bP (hs6.cell 1 rfl zk) aO) gQ) ?_
   rcases Bool.eq_false_or_eq_true (decide ((r.aQ:Int)>8)) with h8|h8
   ·refine py 18 true h8 ?_
    have h8':(r.aQ:Int)>8:=of_decide_eq_true h8
    refine En (bO (Dz ?_))
    refine aN.pick [22,7,6,5,0,1] (S':=[(22,.bool true),(7,.bool false),(6,zP b4 0),(5,zP b1 0),(0,zP p 1),(1,zP q 0)]) zk ?_
    exact aN.eZ () (by first|rfl|(simp only [h7,h8,Bool.not_true,Bool.not_false,Bool.true_or,Bool.false_or,Bool.true_and,Bool.false_and,Bool.or_true,Bool.or_false,Bool.and_true,Bool.and_false];done)|(simp [h7,h8];done)) hs6
   ·refine py 18 false h8 ?_
    have h8':¬ ((r.aQ:Int)>8):=of_decide_eq_false h8
    refine lD (Hl 10 1 1 hs6 Hz) ?_
    refine aN.pick [22,7,6,5,0,1] (S':=[(22,.bool ((r.time:Int) == 0)),(7,.bool false),(6,zP b4 0),(5,zP b1 0),(0,zP p 1),(1,zP q 0)]) zk ?_
    exact aN.eZ () (by first|rfl|(simp only [h7,h8,Bool.not_true,Bool.not_false,Bool.true_or,Bool.false_or,Bool.true_and,Bool.false_and,Bool.or_true,Bool.or_false,Bool.and_true,Bool.and_false];done)|(simp [h7,h8];done)) hs6
 intro _ w9 hs10
 refine Zt (?_)
 refine cZ (t:=((decide ((r.aQ:Int)<1)) || (decide ((r.aQ:Int)>8))) || ((r.time:Int) == 0)) (λh11=>?_) (λh11=>?_)
 ·refine En (Ls (Lg [1] (Lu (Dz ?_))))
  refine Zv (b:=b4) (off:=0) (v:=.agg #[.int .i64 1,.string aR]) (ti:=Tryz.t65) zk hs10 0 (cs':=#[.int .i64 1,.string aR]) ?_
  intro w12 hs13
  refine Lo (bO (Lt (Le (Ly (Dz ?_)))))
  refine aN.done (.inl rfl) (v:=.tuple #[.agg #[.int .i64 1,.string aR],.bool false]) (λa hf=>lT rfl zk zk (ti:=Tryz.t65) zk zk (vs:=#[.int .i64 1,.string aR]) zk (hs13.cells 0 0 rfl zk) a hf) ?_
  have hr:mE tl l r=(((⟨1,aR⟩:bR),false),tl,l):=by rw [mE,if_pos h11]
  have hs14:=hs13.dr 2
  exact⟨ad,c,(by first|rfl|(rw [hr];done)|(rw [hr];rfl)),(by first|exact hs14|(rw [hr];exact hs14))⟩
 ·have h11a:((decide ((r.aQ:Int)<1)) || (decide ((r.aQ:Int)>8)))=false:=(Bool.or_eq_false_iff.1 h11).1
  have h11aa:(decide ((r.aQ:Int)<1))=false:=(Bool.or_eq_false_iff.1 h11a).1
  have h11aa':¬ ((r.aQ:Int)<1):=of_decide_eq_false h11aa
  have h11ab:(decide ((r.aQ:Int)>8))=false:=(Bool.or_eq_false_iff.1 h11a).2
  have h11ab':¬ ((r.aQ:Int)>8):=of_decide_eq_false h11ab
  have h11b:((r.time:Int) == 0)=false:=(Bool.or_eq_false_iff.1 h11).2
  have h11b':¬ ((r.time:Int)=0):=jC h11b
  refine Zk (Zt (Zs (?_)))
  refine bH.vr [0,0,2,6,1,31,63,0,255] (.rd 0 (.rd 1 (.rd 2 (.rd 3 (.rd 4 (.rd 5 (.rd 6 (.ef 7 (.ef 8 .done))))))))) zk zk fX zk hs10 ?_
  intro w15 hs16 hw17
  refine Zj (Hl 2 1 0 hs16 (dW 3 (r.aQ-1) (Hx 5 ((r.aQ-1):Int) (8:Int) p 1 3 (Hg 6 (.agg (aG.cells (tl.getD (Int.toNat (r.aQ-1)) aM))) [.prop (Array.size (aG.cells (tl.getD (Int.toNat (r.aQ-1)) aM))=3),.cells ⟨p,1+((Int.toNat (r.aQ-1))*3),none⟩ (aG.cells (tl.getD (Int.toNat (r.aQ-1)) aM))] (aL zk (eM (aB.iJ (pr hs16 2 rfl (n:=1) rfl dG.size aM) zo (Nat.le_of_ble_eq_true zk) zk) aO)) Hz)))) ?_
  refine aU.alloc rfl rfl zk (z:=.agg LU) zk hs16 (cs:=LU) zk ?_
  intro b18 w19 hs20
  refine⟨fM (n:=[.prop (Array.size (aG.cells (tl.getD (Int.toNat (r.aQ-1)) aM))=3),.cells ⟨p,1+((Int.toNat (r.aQ-1))*3),none⟩ (aG.cells (tl.getD (Int.toNat (r.aQ-1)) aM)),.prop (0<=((r.aQ-1):Int)/\((r.aQ-1):Int)<(8:Int)),.prop (Value.pointer (some (Addr.add ⟨p,1,none⟩ (Int.toNat (r.aQ-1)*3)))=Value.pointer (some ⟨p,1+((Int.toNat (r.aQ-1))*3),none⟩)),.prop (Value.int .i64 (IntKind.i64.wrap (r.aQ-1))=Value.int .i64 (r.aQ-1)),.cell ⟨b1,0,none⟩ (.int .i64 r.aQ)]) zk (aL zk (eM (aB.iJ (pr hs20 3 rfl (n:=1) rfl dG.size aM) zo (Nat.le_of_ble_eq_true zk) zk) (aL za (aL (bK _ _ _) (aL (kF za za) (bP (hs20.cell 2 rfl zk) aO)))))),?_⟩
  refine Zv (b:=b18) (off:=0) (v:=.agg (aG.cells (tl.getD (Int.toNat (r.aQ-1)) aM))) (ti:=Tryz.t101) zk hs20 0 (cs':=aG.cells (tl.getD (Int.toNat (r.aQ-1)) aM)) ?_
  intro w21 hs22
  refine Lo (Ld (Lt (Ls (Ls (Dz ?_)))))
  refine cS (Hl 1 2 1 hs22 (Hl 3 0 0 hs22 Hz)) ?_
  refine Zt (?_)
  refine Zi ((r.time:Int)<((tl.getD (Int.toNat (r.aQ-1)) aM).time)) (λh23'=>?_) (λh23'=>?_)
  ·refine En (Ls (Lg [1] (Lu (Dz ?_))))
   refine Zv (b:=b4) (off:=0) (v:=.agg #[.int .i64 13,.string aR]) (ti:=Tryz.t65) zk hs22 1 (cs':=#[.int .i64 13,.string aR]) ?_
   intro w24 hs25
   refine Lo (bO (Lt (Le (Ly (Dz ?_)))))
   refine aN.done (.inl rfl) (v:=.tuple #[.agg #[.int .i64 13,.string aR],.bool false]) (λa hf=>lT rfl zk zk (ti:=Tryz.t65) zk zk (vs:=#[.int .i64 13,.string aR]) zk (hs25.cells 1 0 rfl zk) a hf) ?_
   have hr:mE tl l r=(((⟨13,aR⟩:bR),false),tl,l):=by rw [mE,if_neg (ne_true_of_eq_false h11),if_pos (decide_eq_true h23')]
   have hs26:=hs25.dr 3
   exact⟨ad,c,(by first|rfl|(rw [hr];done)|(rw [hr];rfl)),(by first|exact hs26|(rw [hr];exact hs26))⟩
  ·refine Zk (Zt (Zs (Zs (?_))))
   refine cS (Hl 1 2 1 hs22 (Hl 3 0 0 hs22 Hz)) ?_
   refine Zt (?_)
   refine cZ (t:=(r.time:Int) == ((tl.getD (Int.toNat (r.aQ-1)) aM).time)) (λh27=>?_) (λh27=>?_)
   ·have h27':(r.time:Int)=((tl.getD (Int.toNat (r.aQ-1)) aM).time):=iV h27
    refine Zs (?_)
    refine bX [2] (fE 1 0 1 2 (bR.cells ((tl.getD (Int.toNat (r.aQ-1)) aM).cQ)) hs22 Hz) ?_
    refine Zv (b:=b4) (off:=0) (v:=.agg (bR.cells ((tl.getD (Int.toNat (r.aQ-1)) aM).cQ))) (ti:=Tryz.t65) zk hs22 1 (cs':=bR.cells ((tl.getD (Int.toNat (r.aQ-1)) aM).cQ)) ?_
    intro w28 hs29
    refine Lo (bO (Lt (Le (Ly (Dz ?_)))))
    refine aN.done (.inl rfl) (v:=.tuple #[.agg (bR.cells ((tl.getD (Int.toNat (r.aQ-1)) aM).cQ)),.bool false]) (λa hf=>lT rfl zk zk (ti:=Tryz.t65) zk zk (vs:=bR.cells ((tl.getD (Int.toNat (r.aQ-1)) aM).cQ)) zk (hs29.cells 1 0 rfl zk) a hf) ?_
    have hr:mE tl l r=(((tl.getD (Int.toNat (r.aQ-1)) aM).cQ,false),tl,l):=by rw [mE,if_neg (ne_true_of_eq_false h11),if_neg (ne_true_of_eq_false (decide_eq_false h23')),if_pos h27]
    have hs30:=hs29.dr 3
    exact⟨ad,c,(by first|rfl|(rw [hr];done)|(rw [hr];rfl)),(by first|exact hs30|(rw [hr];exact hs30))⟩
   ·have h27':¬ ((r.time:Int)=((tl.getD (Int.toNat (r.aQ-1)) aM).time)):=jC h27
    refine Zk (Zt (Zs (?_)))
    refine bX [3,4,5] (fE 2 2 2 6 (cB.cells r.op) hs22 Hz) ?_
    have hs31:=(hs22.pl 5).pl 5
    refine dE Tryz.call163 (Jg l r.op hl hsv ha hs31) ?_
    rintro v35 w36 ⟨ad32,c33,rfl,hs34⟩
    refine Lo (Dz ?_)
    refine aU.alloc rfl rfl zk (z:=.agg #[.int .i64 0,.string aR]) zk hs34 (cs:=#[.int .i64 0,.string aR]) zk ?_
    intro b37 w38 hs39
    refine Lo (Dz ?_)
    refine Zv (b:=b37) (off:=0) (v:=.agg (bR.cells ((ny l r.op).1))) (ti:=Tryz.t65) zk hs39 0 (cs':=bR.cells ((ny l r.op).1)) ?_
    intro w40 hs41
    refine Lo (Ld (Lt (Ls (Dz ?_))))
    refine bH.vr [0,0,2,6,0,16,0,112,1,511,1023] (.rd 0 (.rd 1 (.rd 2 (.rd 3 (.rd 4 (.rd 5 (.rd 6 (.rd 7 (.rd 8 (.rd 9 (.ef 10 .done))))))))))) zk zk fX zk hs41 ?_
    intro w42 hs43 hw44
    refine Zj (Hl 2 5 0 hs43 (dW 3 (r.aQ-1) (Hl 5 5 1 hs43 (fE 6 0 0 2 (bR.cells ((ny l r.op).1)) hs43 (Hx 9 ((r.aQ-1):Int) (8:Int) p 1 3 Hz))))) ?_
    refine aU.store rfl rfl zk (b:=p) (off:=1+((Int.toNat (r.aQ-1))*3)) (v:=.agg #[.int .u64 r.time,.int .i64 (((ny l r.op).1).err),.string (((ny l r.op).1).value)]) zk zk (ti:=Tryz.t101) zk hs43 6 rfl zk zk (G5 (l:=tl) (k:=Int.toNat (r.aQ-1)) dG.size (n:=1) rfl za) (cs':=eI #[zP q 0] aG.cells (tl.set (Int.toNat (r.aQ-1)) (⟨r.time,⟨((ny l r.op).1).err,((ny l r.op).1).value⟩⟩:aG)) #[.int .u64 cnt]) (L':=(aC b37 (bR.cells ((ny l r.op).1)) 65)::aC q #[.slice ad32 (((ny l r.op).2).length) c33] 144::Sl ad32 c33 132 2 aH.cells ((ny l r.op).2)::aC b18 (aG.cells (tl.getD (Int.toNat (r.aQ-1)) aM)) 101::aC b4 #[.int .i64 0,.string aR] 65::aC b1 (bE.cells r) 46::aC p (eI #[zP q 0] aG.cells (tl.set (Int.toNat (r.aQ-1)) (⟨r.time,⟨((ny l r.op).1).err,((ny l r.op).1).value⟩⟩:aG)) #[.int .u64 cnt]) 105::L) (Jl (l:=tl) (k:=Int.toNat (r.aQ-1)) dG.size (n:=1) rfl za (⟨r.time,⟨((ny l r.op).1).err,((ny l r.op).1).value⟩⟩:aG)) rfl ?_
    intro w45 hs46
    refine Lo (Ld (Lt (Ls (Dz ?_))))
    refine bX [1] (fE 0 0 0 2 (bR.cells ((ny l r.op).1)) hs46 Hz) ?_
    refine Zv (b:=b4) (off:=0) (v:=.agg (bR.cells ((ny l r.op).1))) (ti:=Tryz.t65) zk hs46 4 (cs':=bR.cells ((ny l r.op).1)) ?_
    intro w47 hs48
    refine Lo (bO (Lt (Le (Dz ?_))))
    refine aN.done (.inl rfl) (v:=.tuple #[.agg (bR.cells ((ny l r.op).1)),.bool true]) (λa hf=>lT rfl zk zk (ti:=Tryz.t65) zk zk (vs:=bR.cells ((ny l r.op).1)) zk (hs48.cells 4 0 rfl zk) a hf) ?_
    have hr:mE tl l r=(((ny l r.op).1,true),tl.set (Int.toNat (r.aQ-1)) (⟨r.time,⟨((ny l r.op).1).err,((ny l r.op).1).value⟩⟩:aG),(ny l r.op).2):=by rw [mE,if_neg (ne_true_of_eq_false h11),if_neg (ne_true_of_eq_false (decide_eq_false h23')),if_neg (ne_true_of_eq_false h27)]
    have hs49:=((((((hs48.pl 2).pl 2).pl 6).pl 6).pl 6).pl 6).pl 6
    have hs50:=hs49.dr 4
    exact⟨ad32,c33,(by first|rfl|(rw [hr];done)|(rw [hr];rfl)),(by first|exact hs50|(rw [hr];exact hs50))⟩
theorem vi {w0 w:World}{L:List cA}(hs:St w0 L w):Calls Tryz.prog 80 #[] w (pE λrv w'=>∃ (p:Nat) (q:Nat) (ad:Option Addr) (c:Nat),rv=zP p 0/\St w0 (aC p (eI #[zP q 0] aG.cells (List.replicate 8 aM) #[.int .u64 0]) 105::aC q #[.slice ad (([]:List aH).length) c] 144::Sl ad c 132 2 aH.cells ([]:List aH)::L) w'):=by
 refine cL Tryz.func80 Tryz.ntmps80 ?_
 refine En (Ls (La (Lt (Ls (Lg [1,3] (Lu (Dz ?_)))))))
 refine aU.box rfl rfl zk (v:=.agg #[.slice none 0 0]) zk hs (cs:=#[.slice none 0 0]) zk ?_
 intro b1 w2 hs3
 refine Lo (Lu (Dz ?_))
 refine aU.box rfl rfl zk (v:=.agg #[zP b1 0,.int .u64 0,.int .i64 0,.string aR,.int .u64 0,.int .i64 0,.string aR,.int .u64 0,.int .i64 0,.string aR,.int .u64 0,.int .i64 0,.string aR,.int .u64 0,.int .i64 0,.string aR,.int .u64 0,.int .i64 0,.string aR,.int .u64 0,.int .i64 0,.string aR,.int .u64 0,.int .i64 0,.string aR,.int .u64 0]) zk hs3 (cs:=#[zP b1 0,.int .u64 0,.int .i64 0,.string aR,.int .u64 0,.int .i64 0,.string aR,.int .u64 0,.int .i64 0,.string aR,.int .u64 0,.int .i64 0,.string aR,.int .u64 0,.int .i64 0,.string aR,.int .u64 0,.int .i64 0,.string aR,.int .u64 0,.int .i64 0,.string aR,.int .u64 0,.int .i64 0,.string aR,.int .u64 0]) zk ?_
 intro b4 w5 hs6
 refine Lo (bO (Lt (Le (Dz ?_))))
 refine bL (v:=zP b4 0) ?_
 have hs7:St w0 (aC b4 (eI #[zP b1 0] aG.cells (List.replicate 8 aM) #[.int .u64 0]) 105::aC b1 #[.slice none 0 0] 144::L) w5:=Eq.mp zk hs6
 have hs8:=St.bJ hs7 132 2 aH.cells
 have hs9:=((hs8.pl 0).pl 2).pl 2
 exact⟨b4,b1,none,0,rfl,hs9⟩
theorem Ey {w0 w:World}{L:List cA}{p:Nat}{q:Nat}{ad:Option Addr}{c:Nat}(tl:List aG) (l:List aH) (r:bE) (cnt:Int) (h8:tl.length=8) (hl:l.length<=10000000) (hsv:∀ x∈l,x.value.size<=281474976710656) (ha:0<=r.op.aY) (hc:0<=cnt/\cnt<=1000000) (hs:St w0 (aC p (eI #[zP q 0] aG.cells tl #[.int .u64 cnt]) 105::aC q #[.slice ad l.length c] 144::Sl ad c 132 2 aH.cells l::L) w):Calls Tryz.prog 81 #[zP p 0,.agg (bE.cells r)] w (pE λrv w'=>∃ (ad2:Option Addr) (c2:Nat),rv=.tuple #[.agg (bR.cells ((mE tl l r).1.1)),.bool ((mE tl l r).1.2)]/\St w0 (aC p (eI #[zP q 0] aG.cells ((mE tl l r).2.1) #[.int .u64 (cnt+1)]) 105::aC q #[.slice ad2 (((mE tl l r).2.2).length) c2] 144::Sl ad2 c2 132 2 aH.cells ((mE tl l r).2.2)::L) w'):=by
 refine cL Tryz.func81 Tryz.ntmps81 ?_
 refine En (Ls (Lg [0,1] (Dz ?_)))
 refine aU.box rfl rfl zk (v:=.agg (bE.cells r)) zk hs (cs:=bE.cells r) zk ?_
 intro b1 w2 hs3
 refine Lo (Dz ?_)
 refine aU.alloc rfl rfl zk (z:=.agg #[.int .i64 0,.string aR]) zk hs3 (cs:=#[.int .i64 0,.string aR]) zk ?_
 intro b4 w5 hs6
 refine Lo (bO (Lt (Ls (Dz ?_))))
 refine bX [7] (Hg 3 (.gen [.int .u64 cnt]) [.cell ⟨p,25,none⟩ (.int .u64 cnt)] (bP (hs6.cell 2 rfl (xw dG.size (show(tl).length=8 by first|assumption|omega|simp) (q:=0) rfl zk)) aO) (tP 4 (cnt+1) Hz)) ?_
 refine aU.store rfl rfl zk (b:=p) (off:=25) (v:=.int .u64 (cnt+1)) zk zk (ti:=Tryz.t29) zk hs6 2 rfl zk zk (xy dG.size (show(tl).length=8 by first|assumption|omega|simp) (q:=0) (k:=1) rfl (Nat.le_of_ble_eq_true zk)) (cs':=eI #[zP q 0] aG.cells tl #[.int .u64 (cnt+1)]) (L':=(aC b4 #[.int .i64 0,.string aR] 65)::aC b1 (bE.cells r) 46::aC p (eI #[zP q 0] aG.cells tl #[.int .u64 (cnt+1)]) 105::aC q #[.slice ad l.length c] 144::Sl ad c 132 2 aH.cells l::L) (zX dG.size (show(tl).length=8 by first|assumption|omega|simp) (q:=0) rfl zk) rfl ?_
 intro w7 hs8
 refine Lo (Ld (Lt (Ls (Dz ?_))))
 refine bH.vr [0,1,3,0,8,24,56,0,255,511,511,2047,4095] (.rd 0 (.rd 1 (.rd 2 (.rd 3 (.rd 4 (.rd 5 (.rd 6 (.rd 7 (.ef 8 (.rd 9 (.rd 10 (.ef 11 (.rd 12 .done))))))))))))) zk zk fX zk hs8 ?_
 intro w9 hs10 hw11
 refine Zj (Hg 6 (.gen [zP q 0]) [.cell ⟨p,0,none⟩ (zP q 0)] (bP (hs10.cell 2 rfl (pq zk)) aO) (fE 7 1 0 40 (bE.cells r) hs10 Hz)) ?_
 have hs12:=((hs10.pl 4).pl 4).pl 4
 refine dE Tryz.call128 (G6 tl l r (cnt+1) h8 hl hsv ha hs12) ?_
 rintro v16 w17 ⟨ad13,c14,rfl,hs15⟩
 refine Lo (Lu (Dz ?_))
 refine Zv (b:=b4) (off:=0) (v:=.agg (bR.cells ((mE tl l r).1.1))) (ti:=Tryz.t65) zk hs15 3 (cs':=bR.cells ((mE tl l r).1.1)) ?_
 intro w18 hs19
 refine Lo (bO (Lt (Le (Dz ?_))))
 refine aN.done (.inl rfl) (v:=.tuple #[.agg (bR.cells ((mE tl l r).1.1)),.bool ((mE tl l r).1.2)]) (λa hf=>lT rfl zk zk (ti:=Tryz.t65) zk zk (vs:=bR.cells ((mE tl l r).1.1)) zk (hs19.cells 3 0 rfl zk) a hf) ?_
 have hs20:=((((hs19.pl 2).pl 2).pl 2).pl 4).pl 4
 have hs21:=hs20.dr 2
 exact⟨ad13,c14,rfl,hs21⟩
section
variable {w0 w : World} {L : List cA} {ad : Option Addr} {c : Nat}
theorem zY {x:aG}(h0:((x.time:Int) == 0)=true):fH x=!(decide (x.cQ=(⟨0,aR⟩:bR))):=by
 unfold fH
 rw [if_pos h0]
 obtain⟨t,r⟩:=x
 have ht:t=0:=by simpa using h0
 subst ht
 congr 1
 apply decide_eq_decide.2
 exact⟨λh=>by injection h,λh=>by rw [show r=_ from h]⟩
theorem Jn {x:aG}(h0:((x.time:Int) == 0)=false):fH x=false:=by
 unfold fH
 rw [nI h0]
theorem CP {l:List aG}{k:Nat}(hk:k<l.length) (h8:l.length=8):(l.take k++List.replicate (8-k) aM).set k (l.getD k aM)=l.take (k+1)++List.replicate (8-(k+1)) aM:=by
 rw [bA (d:=aM) hk,List.set_append,if_neg zK,List.append_assoc]
 congr 1
 have a:k-(l.take k).length=0:=by rw [List.length_take];omega
 have b:8-k=(8-(k+1))+1:=za
 rw [a,b,List.replicate_succ]
 rfl
theorem G7 (l:List aG) (hll:l.length<=1000000000000) (hr:Rw w0 L aG.cells 3 aM ad l) (hs:St w0 L w):Cs Tryz.prog 108 #[.slice ad l.length c] w λrv w'=>(rv=.tuple #[.agg (af aG.cells l),.int .i64 0]/\(oe l)=true/\St w0 L w')\/(rv=.tuple #[.agg (af aG.cells (List.replicate 8 aM)),.int .i64 1]/\(oe l)=false/\St w0 L w'):=by
 refine cL Tryz.func108 Tryz.ntmps108 (En (Ls (Lg [0] (Dz (eN Ht hs λu w2 a5=>Lz (Ls (Lg [0] (Dz (eN Ht a5 λo w5 a0=>Lo (Ld (Lt (Ls (Lq (Dz (cZ (t:=(l.length:Int) != 8) (λh7=>?_) (λh7=>?_))))))))))))))))
 ·have a6:=tU h7
  exact Zs (bX [1] (fE 0 0 0 24 Ht a0 Hz) (Zu 1 0 Ht a0 λw8 a2=>Lz (Le (Ly (Dz (mZ 1 (.int .i64 1) a2 (.inr (⟨zk,(by rw [oe,decide_eq_false za];rfl),a2.dr 2⟩))))))))
 ·have a6:=sR h7
  refine En (Lk (Lt (Ls (Lq (Lb (Dz ?_))))))
  have a8:St w0 (aC o (af aG.cells (List.replicate 8 aM)) 103::aC u Ht 103::L) w5:=Eq.mp zk a0
  have h8:l.length=8:=za
  refine bH.loop (T:=Nat×(List aG)) (λgg=>[(0,.slice ad l.length c),(2,zP u 0),(4,zP o 0),(5,.int .i64 (gg.1:Nat))]) (λgg w=>(gg.1<=l.length/\gg.2=l.take gg.1++List.replicate (8-gg.1) aM/\∀ y∈l.take gg.1,fH y=false)/\St w0 (aC o (af aG.cells gg.2) 103::aC u Ht 103::L) w) (λgg=>l.length-gg.1) (0,(List.replicate 8 aM)) [0,2,4,5] zk ⟨⟨Nat.zero_le _,rfl,λy hy=>by simp at hy⟩,a8⟩ ?_
  rintro⟨k,tb⟩ b7 ⟨hp,q⟩
  dsimp only at hp q
  have htl:tb.length=8:=by rw [hp.2.1];simp only [List.length_append,List.length_take,List.length_replicate];omega
  refine En (Ls (Lq (Dz (Zi ((k:Int)<(l.length:Nat)) (λa9=>?_) (λa9=>?_)))))
  ·have hk:k<l.length:=za
   obtain⟨e,i,rfl⟩:=aB.isSome (hr _ (q.drop 2)) za
   refine En (Lk (Lt (Ls (Lb (Ls (Ls (Lg [] (Dz (Zp 0 7 [(2,.eJ (zP e (i+(k*3))) .at_),(4,.gen [.int .u64 ((l.getD k aM).time)])] [(2,[.prop (0<=(k:Int)/\(k:Int)<(l.length:Int)),.prop (Value.pointer (some (Addr.add ⟨e,i,none⟩ (Int.toNat (k:Nat)*3)))=Value.pointer (some ⟨e,i+(k*3),none⟩))]),(4,[.cell ⟨e,i+(k*3),none⟩ (.int .u64 ((l.getD k aM).time))])] (ak (aL za (aL (bK _ _ _) aO)) (ak (bP (aB.dX (hr _ (q.drop 2)) (k:=k) zo (j:=0) zf zk) aO) gQ)) (dB 22 ((((l.getD k aM).time):Int) == 0) (λx=>?_) (λx=>?_)))))))))))
   ·refine Zp 7 6 [(9,.eJ (zP e (i+(k*3))) .at_),(11,.agg (bR.cells ((l.getD k aM).cQ)))] [(9,[.prop (0<=(k:Int)/\(k:Int)<(l.length:Int)),.prop (Value.pointer (some (Addr.add ⟨e,i,none⟩ (Int.toNat (k:Nat)*3)))=Value.pointer (some ⟨e,i+(k*3),none⟩))]),(11,[.prop (Array.size (bR.cells ((l.getD k aM).cQ))=2),.cells ⟨e,i+(k*3)+1,none⟩ (bR.cells ((l.getD k aM).cQ))])] (ak (aL za (aL (bK _ _ _) aO)) (ak (aL zk (eM (aB.all (hr _ (q.drop 2)) zo (Nat.le_of_ble_eq_true zk) zk) aO)) gQ)) (aU.jO rfl zk (b:=false) (t:=65) (xs:=bR.cells ((l.getD k aM).cQ)) (ys:=bR.cells (⟨0,aR⟩:bR)) (m:=2) zk zk zf zk (r:=!(decide ((l.getD k aM).cQ=(⟨0,aR⟩:bR)))) (EW  (MX ((l.getD k aM).cQ) (⟨0,aR⟩:bR))) (En (bO (Lt (Dz (cZ (t:=!(decide ((l.getD k aM).cQ=(⟨0,aR⟩:bR)))) (λz=>?_) (λz=>?_)))))))
    ·have a1:=jV z
     exact En (Ls (Lg [1] (Lw (Zu 1 0 Ht q λb8 a3=>Lz (Le (Ly (Ll (Ly (sT (Ll (Ly (Dz (mZ 1 (.int .i64 1) a3 (.inr (⟨zk,(by rw [oe,show l.any fH=true from List.any_eq_true.2 ⟨_,bC (d:=aM) hk,(zY x).trans z⟩,Bool.not_true,Bool.and_false]),a3.dr 2⟩)))))))))))))))
    ·have a1:=jN z
     exact Zk (Zt (bX [6] (Hx 3 (k:Int) (l.length:Int) e i 3 (Hg 4 (.agg (aG.cells (l.getD k aM))) [.prop (Array.size (aG.cells (l.getD k aM))=3),.cells ⟨e,i+(k*3),none⟩ (aG.cells (l.getD k aM))] (aL zk (eM (aB.iJ (hr _ (q.drop 2)) zo (Nat.le_of_ble_eq_true zk) zk) aO)) (Hx 5 (k:Int) (8:Int) o 0 3 Hz))) (aU.store rfl rfl zk (b:=o) (off:=0+(k*3)) (v:=.agg (aG.cells (l.getD k aM))) zk zk (ti:=Tryz.t101) zk q 0 rfl zk zk (by rw [Nat.zero_add];exact fN (f:=aG.cells) (size:=3) (l:=tb) (k:=k) dG.size zo) (cs':=af aG.cells (tb.set k (l.getD k aM))) (L':=(aC o (af aG.cells (tb.set k (l.getD k aM))) 103)::aC u Ht 103::L) (by rw [Nat.zero_add];exact eT (f:=aG.cells) (size:=3) (l:=tb) (k:=k) dG.size zo (l.getD k aM)) rfl λb9 b3=>Lo (Ld (Lm (Lt (Dz (cS (dW 1 ((k:Nat)+1) Hz) (aN.back (k+1,tb.set k (l.getD k aM)) [0,2,4,5] zk (by show l.length-(k+1)<l.length-k;omega) ⟨⟨za,by rw [hp.2.1];exact CP hk h8,λy hy=>by rw [bA (d:=aM) hk] at hy;exact(List.mem_append.1 hy).elim (hp.2.2 y) (λh=>by rw [List.mem_singleton.1 h];exact((zY x).trans z))⟩,b3⟩)))))))))
   ·exact En (bO (Lt (LF (Lk (Lt (Dz (bX [6] (Hx 3 (k:Int) (l.length:Int) e i 3 (Hg 4 (.agg (aG.cells (l.getD k aM))) [.prop (Array.size (aG.cells (l.getD k aM))=3),.cells ⟨e,i+(k*3),none⟩ (aG.cells (l.getD k aM))] (aL zk (eM (aB.iJ (hr _ (q.drop 2)) zo (Nat.le_of_ble_eq_true zk) zk) aO)) (Hx 5 (k:Int) (8:Int) o 0 3 Hz))) (aU.store rfl rfl zk (b:=o) (off:=0+(k*3)) (v:=.agg (aG.cells (l.getD k aM))) zk zk (ti:=Tryz.t101) zk q 0 rfl zk zk (by rw [Nat.zero_add];exact fN (f:=aG.cells) (size:=3) (l:=tb) (k:=k) dG.size zo) (cs':=af aG.cells (tb.set k (l.getD k aM))) (L':=(aC o (af aG.cells (tb.set k (l.getD k aM))) 103)::aC u Ht 103::L) (by rw [Nat.zero_add];exact eT (f:=aG.cells) (size:=3) (l:=tb) (k:=k) dG.size zo (l.getD k aM)) rfl λc0 b5=>Lo (Ld (Lm (Lt (Dz (cS (dW 1 ((k:Nat)+1) Hz) (aN.back (k+1,tb.set k (l.getD k aM)) [0,2,4,5] zk (by show l.length-(k+1)<l.length-k;omega) ⟨⟨za,by rw [hp.2.1];exact CP hk h8,λy hy=>by rw [bA (d:=aM) hk] at hy;exact(List.mem_append.1 hy).elim (hp.2.2 y) (λh=>by rw [List.mem_singleton.1 h];exact(Jn x))⟩,b5⟩))))))))))))))
  ·have htb:tb=l:=by rw [hp.2.1,List.take_of_length_le za,show 8-k=0 by omega];simp
   have hno:l.any fH=false:=by rw [List.any_eq_false];intro y hy;rw [hp.2.2 y (by rw [List.take_of_length_le za];exact hy)];decide
   exact Zx (aN.cJ (aN.fJ (aN.iT (Zt (Zs (bX [1] (Hg 0 (.agg (af aG.cells tb)) [.prop (Array.size (af aG.cells tb)=24),.cells ⟨o,0,none⟩ (af aG.cells tb)] (aL (bQ dG (show(tb).length=8 from zA) rfl) (eM (q.cells 0 0 rfl zG) aO)) Hz) (aU.store rfl rfl zk (b:=u) (off:=0) (v:=.agg (af aG.cells tb)) zk zk (ti:=Tryz.t103) zk q 1 rfl (cK dG (show(tb).length=8 from zA) zk) (eQ dG) (eF dG (show(tb).length=8 from zA) zk) (cs':=af aG.cells tb) (L':=(aC o (af aG.cells tb) 103)::aC u (af aG.cells tb) 103::L) (eX dG (show(tb).length=8 from zA) zk) rfl λc1 a4=>Lz (Le (Dz (aN.done (.inl rfl) (v:=.tuple #[.agg (af aG.cells tb),.int .i64 0]) (λa hf=>lT rfl zk zk (ti:=Tryz.t103) zk zk (vs:=af aG.cells tb) (bQ dG (show(tb).length=8 from zA) zk) (a4.cells 1 0 rfl zG) a hf) (.inl ⟨(by rw [htb]),(by rw [oe,hno,decide_eq_true h8];rfl),a4.dr 2⟩)))))))))))
end
section
variable {w0 w : World} {L : List cA}
theorem xz (hs:St w0 L w):Cs Tryz.prog 18 #[] w λrv w'=>∃ s p q g,rv=zP s 0/\St w0 (aC s #[zP q 0,zP p 0,.int .u64 0] 123::aC p (af aG.cells (List.replicate 8 aM)) 183::aC q #[.map (some g)] 181::cI Value.string Value.string g ([]:List (ByteArray×ByteArray))::L) w':=by
 refine cL Tryz.func18 Tryz.ntmps18 (En (Lq (Ls (Lg [0,1,3] (Dz (Zc (CA hs) ?_))))))
 rintro o u ⟨a,r2,rfl,e⟩
 refine Lo (Dz (Zc (vg e) ?_))
 rintro x z ⟨b,rfl,f⟩
 exact Lo (Lw (hG #[zP a 0,zP b 0,.int .u64 0] f λd a0 i=>Lz (Le (Dz (bL (v:=zP d 0) ⟨d,b,a,r2,rfl,i⟩)))))
theorem zZ {s:Nat}{p:Nat}{q:Nat}{g:Nat}(tl:List aG) (m:List (ByteArray×ByteArray)) (r:bE) cnt (hl:tl.length=8) (hm:xj m) (hL:∀ w,St w0 L w->Laid w) (ha:0<=r.op.aY) (hc:0<=cnt/\cnt<=1000000) (hs:St w0 (aC s #[zP q 0,zP p 0,.int .u64 cnt] 123::aC p (af aG.cells tl) 183::aC q #[.map (some g)] 181::cI Value.string Value.string g m::L) w):Cs Tryz.prog 20 #[zP s 0,.agg (bE.cells r)] w λrv w'=>rv=.tuple #[.agg (bR.cells ((qU tl m r).1.1)),.bool ((qU tl m r).1.2)]/\St w0 (aC s #[zP q 0,zP p 0,.int .u64 (cnt+1)] 123::aC p (af aG.cells ((qU tl m r).2.1)) 183::aC q #[.map (some g)] 181::cI Value.string Value.string g ((qU tl m r).2.2)::L) w':=by
 refine cL Tryz.func20 Tryz.ntmps20 (En (Ls (Lg [0,1] (Dz (hG (bE.cells r) hs λz w2 e=>Lo (Dz (eN #[.int .i64 0,.string aR] e λb4 w5 b=>Lz (Ls (Lq (LF (Lk (Lt (Ls (Dz (bX [7] (Hl 3 2 2 b (tP 4 (cnt+1) Hz)) (Zu 2 2 #[zP q 0,zP p 0,.int .u64 (cnt+1)] b λw7 f=>Lo (Ld (Lt (Ls (Dz (ZD (eR [0,1,2,3,4,5,6,7,8] (.ef 9 (eR [10,11] (.ef 12 (.rd 13 .done))))) f λw9 a a0=>Zj (Hl 3 2 1 a (Hl 7 2 0 a (fE 8 1 0 40 (bE.cells r) a Hz))) (eE (I9 tl m r zc zc (λw h=>hL w (h.drop 3)) zc (((a.pl 5).pl 5).pl 5)) λa2 o=>Lo (Lw (Zu 3 0 (bR.cells ((qU tl m r).1.1)) o λa3 d=>Lz (Le (Dz (mZ 3 (.bool ((qU tl m r).1.2)) d ?_)))))))))))))))))))))))))))
 have u:=(((((d.pl 2).pl 2).pl 2).pl 5).pl 5).pl 5
 exact⟨rfl,u.dr 2⟩
theorem nG {s:Nat}{p:Nat}{q:Nat}{g:Nat}(tl:List aG) (m:List (ByteArray×ByteArray)) cnt (hs:St w0 (aC s #[zP q 0,zP p 0,.int .u64 cnt] 123::aC p (af aG.cells tl) 183::aC q #[.map (some g)] 181::cI Value.string Value.string g m::L) w):Cs Tryz.prog 31 #[zP s 0] w λrv w'=>rv=.int .u64 cnt/\St w0 (aC s #[zP q 0,zP p 0,.int .u64 cnt] 123::aC p (af aG.cells tl) 183::aC q #[.map (some g)] 181::cI Value.string Value.string g m::L) w':=by
 exact cL Tryz.func31 Tryz.ntmps31 (En (Lq (Ls (Lq (LF (Lk (Lt (Ls (Dz (cS (Hl 3 0 2 hs Hz) (Zt (Ze (bL (v:=.int .u64 cnt) ⟨rfl,hs⟩)))))))))))))
end
section
variable {w0 w : World} {L : List cA} {ad : Option Addr} {c : Nat}
def jT (s:ByteArray):List Int:=wd (s.size:Nat)++cV s
theorem cM (s:ByteArray):(jT s).length=8+s.size:=by simp only [jT,List.length_append,aZ,bY]
theorem oh {bb:Nat}l n (hl:l.length<=900000) (hn:0<=n/\n<=18446744073709551615) (hs:St w0 (aC bb #[.slice ad l.length c] 25::Sl ad c 5 1 aA l::L) w):Cs Tryz.prog 82 #[.int .u64 n,zP bb 0] w λrv w'=>∃ ao co,rv=.tuple #[]/\St w0 (aC bb #[.slice ao ((l++wd n).length) co] 25::Sl ao co 5 1 aA (l++wd n)::L) w':=by
 refine cL Tryz.func82 Tryz.ntmps82 (bX [2,3] (Hl 0 0 0 hs Hz) (dE (f:=38) (args:=#[.slice ad l.length c,.int .u64 n]) Tryz.call38 (eU l n zg za (hs.pl 1)) ?_))
 rintro u x ⟨b,d,rfl,i⟩
 exact Lo (Dz (Zu 1 0 #[.slice b ((l++wd n).length) d] i λz o=>Lo (Ld (Dz (aN.done (.inr rfl) (λa hf=>results0 rfl a hf) ⟨b,d,rfl,(o.pl 0).pl 1⟩)))))
theorem xA {bb:Nat}{nb:Nat}l x (hl:l.length<=800000) (hx:x.size<=40000) (hs:St w0 (aC nb #[.func (.func 82) #[] #[zP bb 0]] 134::aC bb #[.slice ad l.length c] 25::Sl ad c 5 1 aA l::L) w):Cs Tryz.prog 83 #[.string x,zP nb 0,zP bb 0] w λrv w'=>∃ ao co,rv=.tuple #[]/\St w0 (aC nb #[.func (.func 82) #[] #[zP bb 0]] 134::aC bb #[.slice ao ((l++jT x).length) co] 25::Sl ao co 5 1 aA (l++jT x)::L) w':=by
 refine cL Tryz.func83 Tryz.ntmps83 (Zs (bX [4] (Hl 0 0 0 hs (tP 3 (x.size:Nat) Hz)) (Zc (oh l (x.size:Nat) (by first|omega|(simp only [List.length_append,aZ,bY,cM,List.length_cons,List.length_nil] at *;omega)) zc ((hs.pl 2).pl 2)) ?_)))
 rintro v5 w6 ⟨o,q,rfl,b⟩
 exact Lo (Ld (Lt (Dz (bX [2,3] (Hl 0 0 0 b Hz) (aU.rr rfl zk aP (u:=9) zk (f:=aA) rfl (ad:=o) (c:=q) (xs:=l++wd (x.size:Nat)) (s:=x) zk (b.pl 1) (by first|omega|(simp only [List.length_append,aZ,bY,cM,List.length_cons,List.length_nil] at *;omega)) λd e w7 a0=>Lo (Dz (Zu 1 0 #[.slice d (((l++wd (x.size:Nat))++cV x).length) e] a0 λa3 a1=>Lo (Ld (Dz (aN.done (.inr rfl) (λa hf=>results0 rfl a hf) ⟨d,e,rfl,by rw [show l++jT x=(l++wd (x.size:Nat))++cV x from(List.append_assoc _ _ _).symm];exact(((a1.pl 0).pl 1).pl 2)⟩))))))))))
end
section
variable {w0 w : World} {L : List cA}
def qi (x:aG):List Int:=wd x.time++wd x.cQ.err++jT x.cQ.value
def oH (x:aH):List Int:=jT x.key++jT x.value
def cE (tl:List aG) (l:List aH):List Int:=tl.flatMap qi++wd (l.length:Nat)++l.flatMap oH
theorem Aa {α:Type}(F:α->List Int){l:List α}(d:α){k:Nat}(hk:k<l.length):(l.take (k+1)).flatMap F=(l.take k).flatMap F++F (l.getD k d):=by
 rw [bA (d:=d) hk,List.flatMap_append]
 simp
theorem CQ {α:Type}(F:α->List Int){l:List α}{k:Nat}(h:k<=l.length) (hk:¬ k<l.length):(l.take k).flatMap F=l.flatMap F:=by
 rw [List.take_of_length_le za]
def Ab (x:aG):Prop:=(0<=x.time/\x.time<=18446744073709551615)/\(0<=x.cQ.err/\x.cQ.err<=2147483647)/\x.cQ.value.size<=40000
def vj (x:aH):Prop:=x.key.size<=128/\x.value.size<=128
theorem sF {s:Nat}{p:Nat}{q:Nat}{g:Nat}(tl:List aG) (m:List (ByteArray×ByteArray)) cnt (hl:tl.length=8) (hm:m.length<=4294967296) (hT:∀ x∈tl,Ab x) (hln:(cU m).length<=64) (iT:∀ x∈cU m,vj x) (hc:0<=cnt/\cnt<=18446744073709551615) (hs:St w0 (aC s #[zP q 0,zP p 0,.int .u64 cnt] 123::aC p (af aG.cells tl) 183::aC q #[.map (some g)] 181::cI Value.string Value.string g m::L) w):Cs Tryz.prog 29 #[zP s 0] w λrv w'=>∃ ad c,rv=.slice ad ((wd cnt++cE tl (cU m)).length) c/\St w0 (Sl ad c 5 1 aA (wd cnt++cE tl (cU m))::aC s #[zP q 0,zP p 0,.int .u64 cnt] 123::aC p (af aG.cells tl) 183::aC q #[.map (some g)] 181::cI Value.string Value.string g m::L) w':=by
 refine cL Tryz.func29 Tryz.ntmps29 (En (Ls (Lg [0] (Dz (My (.slice none 0 0) #[.slice none 0 0] hs λf w2 c1=>Lo (Ld (Lt (Ls (Lq (LF (Lk (Lt (Ls (Lg [1,2] (Lw (My .nilFunc #[.nilFunc] c1 λz w5 c3=>Lo (Dz (Zu 0 0 #[.func (.func 82) #[] #[zP f 0]] c3 λw7 c4=>Lo (Ld (Lt (Lq (Ls (Dz (ZD (eR [0,1,2,3,4] (.ef 5 .done)) c4 λw9 a2 f7=>Zj (Hl 0 0 0 a2 (Hl 4 2 2 a2 Hz)) ?_))))))))))))))))))))))))
 have c5:=St.bJ a2 5 1 aA
 refine Zc (oh ([]:List Int) cnt (by first|omega|(simp only [List.length_append,aZ,bY,cM,List.length_cons,List.length_nil] at *;omega)) zc ((c5.pl 0).pl 2)) ?_
 rintro f8 f9 ⟨c7,c8,rfl,a8⟩
 refine Lo (Ld (Lt (Ls (Ls (Dz (bX [4] (Hl 3 3 1 a8 Hz) (Zc (Bf tl zc (a8.pl 4)) ?_)))))))
 rintro g0 g5 ⟨a3,a4,rfl,d0⟩
 refine Lz (Lb (Dz (bH.loop (T:=Nat×(List Int)×(Option Addr)×Nat) (λgg=>[(0,zP s 0),(2,zP f 0),(3,zP z 0),(4,.func (.func 83) #[] #[zP z 0,zP f 0]),(24,.slice a3 tl.length a4),(25,.int .i64 (tl.length:Nat)),(26,.int .i64 (gg.1:Nat))]) (λgg w=>(gg.1<=tl.length/\gg.2.1=(([]:List Int)++wd cnt)++(tl.take gg.1).flatMap qi/\gg.2.1.length<=2000+41000*gg.1)/\St w0 (Sl a3 a4 101 3 aG.cells tl::aC p (af aG.cells tl) 183::aC f #[.slice gg.2.2.1 gg.2.1.length gg.2.2.2] 25::Sl gg.2.2.1 gg.2.2.2 5 1 aA gg.2.1::aC z #[.func (.func 82) #[] #[zP f 0]] 134::aC s #[zP q 0,zP p 0,.int .u64 cnt] 123::aC q #[.map (some g)] 181::cI Value.string Value.string g m::L) w) (λgg=>tl.length-gg.1) (0,(([]:List Int)++wd cnt),c7,c8) [0,2,3,4,24,25,26] zk ⟨⟨Nat.zero_le _,by simp,by simp only [List.length_append,aZ,List.length_nil] at *;omega⟩,d0⟩ ?_)))
 rintro⟨k,qb,ad,c⟩ g7 ⟨hp,i⟩
 dsimp only at hp i
 refine En (Lq (Ls (Dz (Zi ((k:Int)<(tl.length:Nat)) (λd1=>?_) (λd1=>?_)))))
 ·have hk:k<tl.length:=za
  have hx:=hT _ (bC (d:=aM) hk)
  have d2:=hx.1
  have d3:=hx.2.1
  have g8:=hx.2.2
  obtain⟨a9,rfl⟩:=Sl.isSome (i.at_ 0 rfl) za
  refine Zk (Zt (Zs (Zb (Zs (bX [2,3] (Hx 0 (k:Int) (tl.length:Int) a9 0 3 (Hg 1 (.agg (aG.cells (tl.getD k aM))) [.prop (Array.size (aG.cells (tl.getD k aM))=3),.cells ⟨a9,0+(k*3),none⟩ (aG.cells (tl.getD k aM))] (aL zk (eM (aB.iJ (i.rows 0 rfl dG.size aM) zo (Nat.le_of_ble_eq_true zk) zk) aO)) Hz)) (eN LU i λg9 h0 d4=>Lo (Dz (Zu 0 0 (aG.cells (tl.getD k aM)) d4 λh1 a5=>Lo (Ld (Lt (Ls (Dz (bX [3] (Hl 0 5 0 a5 (Hl 2 0 0 a5 Hz)) (Zc (oh qb ((tl.getD k aM).time) (by first|omega|(simp only [List.length_append,aZ,bY,cM,List.length_cons,List.length_nil] at *;omega)) zc ((a5.pl 4).pl 4)) ?_))))))))))))))
  rintro h2 h3 ⟨h4,h5,rfl,a6⟩
  refine Lo (Ld (Lt (Ls (Dz (bX [5] (Hl 0 5 0 a6 (Hl 3 2 1 a6 (tP 4 (((tl.getD k aM).cQ).err) Hz))) (Zc (oh (qb++wd ((tl.getD k aM).time)) (((tl.getD k aM).cQ).err) (by first|omega|(simp only [List.length_append,aZ,bY,cM,List.length_cons,List.length_nil] at *;omega)) zc a6) ?_))))))
  rintro h6 h7 ⟨h8,h9,rfl,b0⟩
  refine Lo (Ld (Lt (Dz (bX [4] (Hl 3 2 2 b0 Hz) (Zc (xA ((qb++wd ((tl.getD k aM).time))++wd (((tl.getD k aM).cQ).err)) (((tl.getD k aM).cQ).value) (by first|omega|(simp only [List.length_append,aZ,bY,cM,List.length_cons,List.length_nil] at *;omega)) zc (((b0.pl 1).pl 1).pl 5)) ?_)))))
  rintro i0 i1 ⟨d7,d8,rfl,d9⟩
  refine Lo (Ld (Lm (Lt (Dz (cS (dW 0 ((k:Nat)+1) Hz) ?_)))))
  have e0:=((((((((d9.pl 8).pl 8).pl 8).pl 3).pl 5).pl 5).pl 8).pl 8).pl 8
  exact aN.back (k+1,((qb++wd ((tl.getD k aM).time))++wd (((tl.getD k aM).cQ).err))++jT (((tl.getD k aM).cQ).value),d7,d8) [0,2,3,4,24,25,26] zk (by show tl.length-(k+1)<tl.length-k;omega) ⟨(by refine⟨za,?_,?_⟩;(rw [Aa qi aM hk,hp.2.1];simp only [qi,List.append_assoc]);(have e2:=hp.2.2;simp only [List.length_append,aZ,cM] at *;omega)),e0.dr 1⟩
 ·have hk:¬ k<tl.length:=za
  refine Zx (aN.cJ (aN.fJ (aN.iT (Zt (Zs (bX [4] (Hl 3 5 0 i Hz) (Zc (yZ m zc ((i.pl 7).pl 7)) ?_)))))))
  rintro i2 i3 ⟨b2,b3,rfl,b5⟩
  refine Lz (Ls (Dz (bX [4] (Hl 0 7 0 b5 (tP 3 ((cU m).length:Nat) Hz)) (Zc (oh qb ((cU m).length:Nat) (by first|omega|(simp only [List.length_append,aZ,bY,cM,List.length_cons,List.length_nil] at *;omega)) zc ((b5.pl 6).pl 6)) ?_))))
  rintro i4 i5 ⟨e5,e6,rfl,e7⟩
  refine Lo (Ld (Lt (Ls (Lq (Lb (Dz (bH.loop (T:=Nat×(List Int)×(Option Addr)×Nat) (λgg=>[(2,zP f 0),(4,.func (.func 83) #[] #[zP z 0,zP f 0]),(56,.slice b2 ((cU m).length) b3),(57,.int .i64 ((cU m).length:Nat)),(58,.int .i64 (gg.1:Nat))]) (λgg w=>(gg.1<=(cU m).length/\gg.2.1=(qb++wd ((cU m).length:Nat))++((cU m).take gg.1).flatMap oH/\gg.2.1.length<=350000+400*gg.1)/\St w0 (aC f #[.slice gg.2.2.1 gg.2.1.length gg.2.2.2] 25::Sl gg.2.2.1 gg.2.2.2 5 1 aA gg.2.1::Sl b2 b3 132 2 aH.cells (cU m)::aC q #[.map (some g)] 181::cI Value.string Value.string g m::Sl a3 a4 101 3 aG.cells tl::aC p (af aG.cells tl) 183::aC z #[.func (.func 82) #[] #[zP f 0]] 134::aC s #[zP q 0,zP p 0,.int .u64 cnt] 123::L) w) (λgg=>(cU m).length-gg.1) (0,(qb++wd ((cU m).length:Nat)),e5,e6) [2,4,56,57,58] zk ⟨⟨Nat.zero_le _,by simp,by simp only [List.length_append,aZ,List.length_nil] at *;omega⟩,e7⟩ ?_)))))))
  rintro⟨e,o,a7,c2⟩ i6 ⟨a0,u⟩
  dsimp only at a0 u
  refine En (Lq (Ls (Dz (Zi ((e:Int)<((cU m).length:Nat)) (λe8=>?_) (λe8=>?_)))))
  ·have a1:e<(cU m).length:=za
   have hx:=iT _ (bC (d:=aT) a1)
   have d2:=hx.1
   have d3:=hx.2
   obtain⟨b6,rfl⟩:=Sl.isSome (u.at_ 2 rfl) za
   refine Zk (Zt (Zs (Zb (Zs (bX [2,3] (Hx 0 (e:Int) ((cU m).length:Int) b6 0 2 (Hg 1 (.agg (aH.cells ((cU m).getD e aT))) [.prop (Array.size (aH.cells ((cU m).getD e aT))=2),.cells ⟨b6,0+(e*2),none⟩ (aH.cells ((cU m).getD e aT))] (aL zk (eM (aB.iJ (u.rows 2 rfl gG.size aT) zo (Nat.le_of_ble_eq_true zk) zk) aO)) Hz)) (eN #[.string aR,.string aR] u λi7 i8 e9=>Lo (Dz (Zu 0 0 (aH.cells ((cU m).getD e aT)) e9 λi9 b7=>Lo (Ld (Lt (Ls (Dz (bX [3] (Hl 2 0 0 b7 Hz) (Zc (xA o (((cU m).getD e aT).key) (by first|omega|(simp only [List.length_append,aZ,bY,cM,List.length_cons,List.length_nil] at *;omega)) zc (((b7.pl 2).pl 2).pl 8)) ?_))))))))))))))
   rintro j0 j1 ⟨j2,j3,rfl,b8⟩
   refine Lo (Ld (Lt (Dz (bX [3] (Hl 2 3 1 b8 Hz) (Zc (xA (o++jT (((cU m).getD e aT).key)) (((cU m).getD e aT).value) (by first|omega|(simp only [List.length_append,aZ,bY,cM,List.length_cons,List.length_nil] at *;omega)) zc b8) ?_)))))
   rintro j4 j5 ⟨f1,f2,rfl,f3⟩
   refine Lo (Ld (Lm (Lt (Dz (cS (dW 0 ((e:Nat)+1) Hz) ?_)))))
   have f4:=(((((((((f3.pl 9).pl 1).pl 9).pl 9).pl 9).pl 9).pl 9).pl 8).pl 8).pl 9
   exact aN.back (e+1,(o++jT (((cU m).getD e aT).key))++jT (((cU m).getD e aT).value),f1,f2) [2,4,56,57,58] zk (by show(cU m).length-(e+1)<(cU m).length-e;omega) ⟨(by refine⟨za,?_,?_⟩;(rw [Aa oH aT a1,a0.2.1];simp only [oH,List.append_assoc]);(have e2:=a0.2.2;simp only [List.length_append,aZ,cM] at *;omega)),f4.dr 1⟩
  ·have a1:¬ e<(cU m).length:=za
   refine Zx (aN.cJ (aN.fJ (aN.iT (Zt (Zs (bX [1] (Hl 0 0 0 u Hz) (Zu 0 0 #[.slice a7 o.length c2] u λj6 b9=>Lo (Ld (Lt (Le (Dz (aN.done (.inl rfl) (v:=.slice a7 o.length c2) (λa hf=>HK (b:=f) (off:=0) rfl zk zk zk (b9.cell 0 rfl zk) a hf) ?_))))))))))))
   have hq:o=wd cnt++cE tl (cU m):=by
    rw [a0.2.1,hp.2.1,CQ _ hp.1 hk,CQ _ a0.1 a1]
    simp only [cE,List.append_assoc,List.nil_append]
   have f6:=((((((((b9.pl 4).pl 4).pl 6).pl 8).pl 5).pl 8).pl 8).pl 8).pl 8
   have c0:=f6.dr 4
   exact⟨a7,c2,by first|rfl|(rw [<- hq]),by first|exact c0|(rw [<- hq];exact c0)⟩
end
end Go.Proofs.YtkmhmeldgfpfeaaGreatDoor
namespace Go.Proofs.YtkmhmeldgfpfeaaGreatDoor
open Go.RowKit Go.Sx
set_option linter.unusedVariables false
set_option linter.unusedSimpArgs false
set_option maxRecDepth 100000
def yf (l:List Int):Prop:=∀ x∈l,0<=x/\x<256
theorem yf.app {l m:List Int}(h:yf l) (h2:yf m):yf (l++m):=λx hx=>(List.mem_append.1 hx).elim (h x) (h2 x)
theorem uC (n:Int):yf (wd n):=by
 intro x hx
 obtain⟨k,-,rfl⟩:=List.mem_map.1 hx
 exact iW _
theorem KL (s:ByteArray):yf (cV s):=by
 intro x hx
 obtain⟨b,-,rfl⟩:=List.mem_map.1 hx
 have:=b.toNat_lt
 omega
theorem Bq (s:ByteArray):yf (jT s):=(uC _).app (KL s)
theorem CR {α:Type}{F:α->List Int}(h:∀ x,yf (F x)) (l:List α):yf (l.flatMap F):=by
 intro x hx
 obtain⟨y,-,hy⟩:=List.mem_flatMap.1 hx
 exact h y x hy
theorem CT (tl:List aG) (l:List aH):yf (cE tl l) :=
 ((CR (λx=>((uC _).app (uC _)).app (Bq _)) tl).app (uC _)).app (CR (λx=>(Bq _).app (Bq _)) l)
theorem ux.CU {s:TS}(h:ux s):∀ x∈s.1,Ab x:=λx hx=>⟨(h.all x hx).time,⟨(h.all x hx).rep.err.1,Int.le_trans (h.all x hx).rep.err.2 zf⟩,Nat.le_trans (h.all x hx).rep.value zf⟩
theorem ux.xB {s:TS}(h:ux s):∀ x∈cU s.2,vj x:=λx hx=>by
 have h1:=Bc.1 hx
 have h2:=(h.inv.key _ h1).2
 exact⟨by simp only at h2;omega,h.inv.val _ h1⟩
theorem ux.BI {s:TS}(h:ux s):(cU s.2).length<=64:=by rw [oa];exact h.inv.len
theorem G8:cU ([]:List (ByteArray×ByteArray))=[]:=List.eq_nil_of_length_eq_zero (by rw [oa];rfl)
theorem CV {t:List aG}{m:hX}(h:ux (t,m)) (r:bE):mE t (cU m) r=((qU t m r).1,(qU t m r).2.1,cU (qU t m r).2.2):=by
 rw [CJ h.len]
 unfold mE
 by_cases hv:Valid r
 ·have c0:¬ (((decide ((r.aQ:Int)<1)) || (decide ((r.aQ:Int)>8))) || ((r.time:Int) == 0))=true:=by
   have h1:=hv.1
   have h2:=hv.2.1
   have h3:=hv.2.2
   simp
   refine⟨⟨za,za⟩,h3⟩
  rw [if_neg c0,if_pos hv]
  show(if decide (r.time<(t.getD (ix r) aM).time)=true then _ else if (r.time == (t.getD (ix r) aM).time)=true then _ else _)=_
  by_cases h1:r.time<(t.getD (ix r) aM).time
  ·rw [if_pos (decide_eq_true h1),if_pos h1]
  ·rw [if_neg (λhc=>h1 (of_decide_eq_true hc)),if_neg h1]
   by_cases h2:r.time=(t.getD (ix r) aM).time
   ·rw [if_pos (beq_iff_eq.2 h2),if_pos h2]
    rfl
   ·rw [if_neg (λhc=>h2 (beq_iff_eq.1 hc)),if_neg h2,KI h.inv]
    rfl
 ·have c0:(((decide ((r.aQ:Int)<1)) || (decide ((r.aQ:Int)>8))) || ((r.time:Int) == 0))=true:=by
   simp only [Bool.or_eq_true,decide_eq_true_eq,beq_iff_eq]
   unfold Valid at hv
   omega
  rw [if_pos c0,if_neg hv]
def gE (l:List bE):Prop:=∀ r∈l,(0<=r.time/\r.time<=18446744073709551615)/\0<=r.op.aY
def qZ (s:TS) (l:List bE):TS:=l.foldl (λs r=>(qU s.1 s.2 r).2) s
def bB (l:List bE):TS:=qZ (List.replicate 8 aM,[]) l
theorem G9 {s:TS}(l:List bE) (hl:gE l) (h:ux s):ux (qZ s l):=by
 induction l generalizing s with
 | nil=>exact h
 | cons r l ih=>exact ih (λx hx=>hl x (List.mem_cons_of_mem _ hx)) (KF r h (hl r (List.mem_cons_self ..)).1)
theorem gE.take {l:List bE}(h:gE l) (k:Nat):gE (l.take k):=λr hr=>h r (List.mem_of_mem_take hr)
theorem iZ {l:List bE}(h:gE l):ux (bB l):=G9 l h Mg
theorem xC {s:TS}{l:List bE}{d:bE}{k:Nat}(hk:k<l.length):qZ s (l.take (k+1))=(qU (qZ s (l.take k)).1 (qZ s (l.take k)).2 (l.getD k d)).2:=by
 rw [bA (d:=d) hk,qZ,List.foldl_append]
 rfl
theorem CW {l:List bE}{d:bE}{k:Nat}(hk:k<l.length):(bB (l.take (k+1))).1=(qU (bB (l.take k)).1 (bB (l.take k)).2 (l.getD k d)).2.1:=by
 rw [bB,xC (d:=d) hk];rfl
theorem CX {l:List bE}{d:bE}{k:Nat}(hk:k<l.length):(bB (l.take (k+1))).2=(qU (bB (l.take k)).1 (bB (l.take k)).2 (l.getD k d)).2.2:=by
 rw [bB,xC (d:=d) hk];rfl
theorem Jo {l:List bE}(hl:gE l){d:bE}{k:Nat}(hk:k<l.length):(mE (bB (l.take k)).1 (cU (bB (l.take k)).2) (l.getD k d)).2.1=(bB (l.take (k+1))).1:=by
 rw [CV (t:=(bB (l.take k)).1) (m:=(bB (l.take k)).2) (iZ (hl.take k)),CW (d:=d) hk]
theorem Jp {l:List bE}(hl:gE l){d:bE}{k:Nat}(hk:k<l.length):(mE (bB (l.take k)).1 (cU (bB (l.take k)).2) (l.getD k d)).2.2=cU (bB (l.take (k+1))).2:=by
 rw [CV (t:=(bB (l.take k)).1) (m:=(bB (l.take k)).2) (iZ (hl.take k)),CX (d:=d) hk]
end Go.Proofs.YtkmhmeldgfpfeaaGreatDoor
