/- Part S1 of the proof: see the last text of the claim. No condition of its own. -/
import Derived.Shelf.Strings.Builder1
import Derived.Shelf.Strings.Builder2
import Derived.Shelf.Strings.OnBuilder
import Derived.Shelf.Small.Utf8
import Derived.Shelf.Small.Strs
import Derived.Shelf.Strings.BuilderF
import Derived.Shelf.Strings.Builder2Cap
import Derived.Shelf.Strconv.Itoa0
import Derived.Shelf.Strconv.Itoa1
import Derived.Shelf.LaysM
import Derived.Shelf.Strconv.Itoa2
import Derived.Shelf.Strconv.Itoa3
import Derived.Shelf.Strings.Search1
import Derived.Shelf.Strings.Search2
import Derived.Shelf.Strings.Search3
import Derived.Shelf.Strings.Cut
import Derived.Shelf.Strings.Shaped
import Derived.Shelf.Strings.LastIndex
import Derived.Shelf.Strings.Prefix
import Derived.Shelf.Unicode.Decode
import Derived.Shelf.Strings.Runes
import Derived.Shelf.Strings.IndexAny
import Derived.Shelf.Strings.AsciiSet
import Derived.Shelf.Strings.IndexAnyAll
import Derived.Shelf.Unicode.DecodeSlow
import Derived.Shelf.Unicode.DecodeAny
import Derived.Shelf.Unicode.DecodeLast
import Derived.Ground.Names2Prog
import Derived.Shelf.Slices.Clone
import Derived.Ground.SlgnProg
import Derived.Shelf.SlicesE.Clone
import Derived.Test.YtddagflhafkbnaaGreatDoorProg
import Derived.Shelf.Lays2
import Derived.Shelf.RegionOpenPlain
import Derived.WalkKit
import Derived.Lib.Walk
import Derived.Lib.SliceRun
import Derived.Lib.JoinLaws
import Derived.Lib.AppendZeros
import Derived.Lib.Overlaps
import Derived.Laws.Externs
import Derived.Laws.IdiomCopy
import Derived.Lib.AppendZerosOnto
import Derived.Laws.NewBlocks
import Derived.Shelf.Spec.SlicesInsertGrow
import Derived.KernelRfl
import Derived.Handy
import Derived.Maps.OwnSet
import Derived.Deep.RegionLaw
import Derived.Shelf.Spec.SlicesInsert
set_option linter.all false
set_option autoImplicit false
namespace Go.Proofs
open Go.Shelf
def Tryz.lays156_ren:Go.Shelf.Ren:=⟨fun | 156=> 137 | 165=> 195 | 166=> 196 | 169=> 197 | 240=> 242 | 241=> 243 | 276=> 272 | 277=> 273 | n=> n,fun | 31=> 126 | 9=> 9 | 3=> 3 | 4=> 4 | 0=> 0 | 20=> 20 | 72=> 269 | 76=> 273 | 70=> 267 | 37=> 115 | 75=> 272 | 127=> 307 | 164=> 326 | 5=> 5 | 80=> 275 | n=> n,fun | n=> n⟩
theorem Tryz.lays156:Go.Proofs.Lays.n156 Tryz.prog Tryz.lays156_ren:={
 mixed:=by kernel_rfl
 f156:=Tryz.func137.trans (congrArg some (by kernel_rfl))
 f165:=Tryz.func195.trans (congrArg some (by kernel_rfl))
 f166:=Tryz.func196.trans (congrArg some (by kernel_rfl))
 f169:=Tryz.func197.trans (congrArg some (by kernel_rfl))
 f240:=Tryz.func242.trans (congrArg some (by kernel_rfl))
 f241:=Tryz.func243.trans (congrArg some (by kernel_rfl))
 f276:=Tryz.func272.trans (congrArg some (by kernel_rfl))
 f277:=Tryz.func273.trans (congrArg some (by kernel_rfl))
 t0:=Tryz.underlying0
 a0:=Tryz.isAgg0
 z0:=Tryz.sizeOf0
 v0:=Tryz.zeroValue0
 t3:=Tryz.underlying3
 a3:=Tryz.isAgg3
 z3:=Tryz.sizeOf3
 v3:=Tryz.zeroValue3
 t4:=Tryz.underlying4
 a4:=Tryz.isAgg4
 z4:=Tryz.sizeOf4
 v4:=Tryz.zeroValue4
 t9:=Tryz.underlying9
 a9:=Tryz.isAgg9
 z9:=Tryz.sizeOf9
 v9:=Tryz.zeroValue9
 t20:=Tryz.underlying20
 a20:=Tryz.isAgg20
 z20:=Tryz.sizeOf20
 v20:=Tryz.zeroValue20
 t31:=Tryz.underlying126
 a31:=Tryz.isAgg126
 z31:=Tryz.sizeOf126
 v31:=Tryz.zeroValue126
 t37:=Tryz.underlying115
 a37:=Tryz.isAgg115
 z37:=Tryz.sizeOf115
 v37:=Tryz.zeroValue115
 t70:=Tryz.underlying267
 a70:=Tryz.isAgg267
 z70:=Tryz.sizeOf267
 v70:=Tryz.zeroValue267
 t72:=Tryz.underlying269
 a72:=Tryz.isAgg269
 z72:=Tryz.sizeOf269
 v72:=Tryz.zeroValue269
 t75:=Tryz.underlying272
 a75:=Tryz.isAgg272
 z75:=Tryz.sizeOf272
 v75:=Tryz.zeroValue272
 t76:=Tryz.underlying273
 a76:=Tryz.isAgg273
 z76:=Tryz.sizeOf273
 v76:=Tryz.zeroValue273
 t127:=Tryz.underlying307
 a127:=Tryz.isAgg307
 z127:=Tryz.sizeOf307
 v127:=Tryz.zeroValue307
 t164:=Tryz.underlying326
 a164:=Tryz.isAgg326
 z164:=Tryz.sizeOf326
 v164:=Tryz.zeroValue326 }
theorem Tryz.Builder_Extra_156:Builder.Extra Tryz.prog Tryz.lays156_ren:={
 sizeBuilder:=by kernel_rfl
 liesBuilder:=by kernel_rfl
 t5:=Tryz.underlying5
 a5:=Tryz.isAgg5
 z5:=Tryz.sizeOf5
 v5:=Tryz.zeroValue5
 infoByte:=by kernel_rfl
 cellsByte:=by kernel_rfl
 sizeByte:=by kernel_rfl
 neB5:=by decide }
open Go.RowKit in
theorem Tryz.strings_Join_none (a:Option Addr) (c:Nat) (sep:ByteArray) (w:World):
  Calls Tryz.prog 137 #[.slice a 0 c,.string sep] w fun e w'=> e=.returned (.string ⟨#[]⟩)/\w'=w:=Any.strings_Join_none Tryz.lays156 Tryz.Builder_Extra_156 a c sep w
open Go.RowKit in
theorem Tryz.strings_Join (bk o c:Nat) (xs:List ByteArray) (sep:ByteArray) (w:World) (hcells:∀ (j:Nat) x,xs[j]? =some x->w.cell? ⟨bk,o+j,none⟩=some (.string x)) (hbk:bk < w.heap.size) (hN:xs.length<=140737488355328) (hcap:xs.length<=c) (hlen:(Lib.join (xs.map (·.data.toList)) sep.data.toList).length<=140737488355328):
  Calls Tryz.prog 137 #[.slice (some ⟨bk,o,none⟩) xs.length c,.string sep] w fun e w'=> e=.returned (.string ⟨(Lib.join (xs.map (·.data.toList)) sep.data.toList).toArray⟩)/\Below w.heap.size w w':=Any.strings_Join Tryz.lays156 Tryz.Builder_Extra_156 bk o c xs sep w hcells hbk hN hcap hlen
def Tryz.lays137_ren:Go.Shelf.Ren:=⟨fun | 137=> 126 | 217=> 181 | 266=> 226 | n=> n,fun | 9=> 9 | 5=> 5 | 3=> 3 | n=> n,fun | n=> n⟩
theorem Tryz.lays137:Go.Proofs.Lays.n137 Tryz.prog Tryz.lays137_ren:={
 mixed:=by kernel_rfl
 f137:=Tryz.func126.trans (congrArg some (by kernel_rfl))
 f217:=Tryz.func181.trans (congrArg some (by kernel_rfl))
 f266:=Tryz.func226.trans (congrArg some (by kernel_rfl))
 t3:=Tryz.underlying3
 a3:=Tryz.isAgg3
 z3:=Tryz.sizeOf3
 v3:=Tryz.zeroValue3
 t5:=Tryz.underlying5
 a5:=Tryz.isAgg5
 z5:=Tryz.sizeOf5
 v5:=Tryz.zeroValue5
 t9:=Tryz.underlying9
 a9:=Tryz.isAgg9
 z9:=Tryz.sizeOf9
 v9:=Tryz.zeroValue9 }
open Go.RowKit in
theorem Tryz.strings_IndexByte (s:ByteArray) (c:Int) (w:World):
  Calls Tryz.prog 126 #[.string s,.int .u8 c] w fun e w'=> e=.returned (.int .i64 (Lib.indexByte s.data.toList c.toNat.toUInt8))/\w'=w:=Any.strings_IndexByte Tryz.lays137 s c w
def Tryz.laysM243_ren:Go.Shelf.Ren:=⟨fun | 243=> 227 | 246=> 261 | 283=> 262 | 284=> 263 | 285=> 264 | 286=> 265 | 129=> 285 | 317=> 284 | 318=> 286 | 319=> 287 | 320=> 288 | 337=> 295 | 338=> 296 | n=> n,fun | 3=> 3 | 9=> 9 | 2=> 2 | 4=> 4 | 171=> 317 | 0=> 0 | 53=> 260 | 37=> 115 | 5=> 5 | 173=> 320 | 212=> 337 | 51=> 32 | 20=> 20 | 213=> 338 | 46=> 133 | 232=> 348 | 233=> 349 | n=> n,fun | 17=> 1 | 18=> 4 | 19=> 5 | n=> n⟩
theorem Tryz.laysM243:Go.Proofs.LaysM.n243 Tryz.prog Tryz.laysM243_ren:={
 mixed:=by kernel_rfl
 f129:=Tryz.func285.trans (congrArg some (by kernel_rfl))
 f243:=Tryz.func227.trans (congrArg some (by kernel_rfl))
 f246:=Tryz.func261.trans (congrArg some (by kernel_rfl))
 f283:=Tryz.func262.trans (congrArg some (by kernel_rfl))
 f284:=Tryz.func263.trans (congrArg some (by kernel_rfl))
 f285:=Tryz.func264.trans (congrArg some (by kernel_rfl))
 f286:=Tryz.func265.trans (congrArg some (by kernel_rfl))
 f317:=Tryz.func284.trans (congrArg some (by kernel_rfl))
 f318:=Tryz.func286.trans (congrArg some (by kernel_rfl))
 f319:=Tryz.func287.trans (congrArg some (by kernel_rfl))
 f320:=Tryz.func288.trans (congrArg some (by kernel_rfl))
 f337:=Tryz.func295.trans (congrArg some (by kernel_rfl))
 f338:=Tryz.func296.trans (congrArg some (by kernel_rfl))
 t0:=Tryz.underlying0
 a0:=Tryz.isAgg0
 z0:=Tryz.sizeOf0
 v0:=Tryz.zeroValue0
 t2:=Tryz.underlying2
 a2:=Tryz.isAgg2
 z2:=Tryz.sizeOf2
 v2:=Tryz.zeroValue2
 t3:=Tryz.underlying3
 a3:=Tryz.isAgg3
 z3:=Tryz.sizeOf3
 v3:=Tryz.zeroValue3
 t4:=Tryz.underlying4
 a4:=Tryz.isAgg4
 z4:=Tryz.sizeOf4
 v4:=Tryz.zeroValue4
 t5:=Tryz.underlying5
 a5:=Tryz.isAgg5
 z5:=Tryz.sizeOf5
 v5:=Tryz.zeroValue5
 t9:=Tryz.underlying9
 a9:=Tryz.isAgg9
 z9:=Tryz.sizeOf9
 v9:=Tryz.zeroValue9
 t20:=Tryz.underlying20
 a20:=Tryz.isAgg20
 z20:=Tryz.sizeOf20
 v20:=Tryz.zeroValue20
 t37:=Tryz.underlying115
 a37:=Tryz.isAgg115
 z37:=Tryz.sizeOf115
 v37:=Tryz.zeroValue115
 t46:=Tryz.underlying133
 a46:=Tryz.isAgg133
 z46:=Tryz.sizeOf133
 v46:=Tryz.zeroValue133
 t51:=Tryz.underlying32
 a51:=Tryz.isAgg32
 z51:=Tryz.sizeOf32
 v51:=Tryz.zeroValue32
 t53:=Tryz.underlying260
 a53:=Tryz.isAgg260
 z53:=Tryz.sizeOf260
 v53:=Tryz.zeroValue260
 t171:=Tryz.underlying317
 a171:=Tryz.isAgg317
 z171:=Tryz.sizeOf317
 v171:=Tryz.zeroValue317
 t173:=Tryz.underlying320
 a173:=Tryz.isAgg320
 z173:=Tryz.sizeOf320
 v173:=Tryz.zeroValue320
 t212:=Tryz.underlying337
 a212:=Tryz.isAgg337
 z212:=Tryz.sizeOf337
 v212:=Tryz.zeroValue337
 t213:=Tryz.underlying338
 a213:=Tryz.isAgg338
 z213:=Tryz.sizeOf338
 t232:=Tryz.underlying348
 a232:=Tryz.isAgg348
 z232:=Tryz.sizeOf348
 v232:=Tryz.zeroValue348
 t233:=Tryz.underlying349
 a233:=Tryz.isAgg349
 z233:=Tryz.sizeOf349
 v233:=Tryz.zeroValue349
 g17:=by kernel_rfl
 g18:=by kernel_rfl
 g19:=by kernel_rfl
 i0:=by kernel_rfl
 i2:=by kernel_rfl
 i3:=by kernel_rfl
 i4:=by kernel_rfl
 i5:=by kernel_rfl
 i9:=by kernel_rfl
 i20:=by kernel_rfl
 i37:=by kernel_rfl
 i46:=by kernel_rfl
 i51:=by kernel_rfl
 i53:=by kernel_rfl
 i171:=by kernel_rfl
 i173:=by kernel_rfl
 i212:=by kernel_rfl
 i232:=by kernel_rfl
 i233:=by kernel_rfl
 m17:=by kernel_rfl
 m18:=by kernel_rfl
 m19:=by kernel_rfl }
open Go.RowKit Go.Sort Go.Lib in
theorem Tryz.internal_strconv_Itoa (n : Int) (h0 : -9223372036854775808 ≤ n) (h1 : n ≤ 9223372036854775807) (w : World) (htab : Lib.TabIs Tryz.prog w "internal/strconv.uint64pow10" .u64 Lib.pow10Tab) :
  Calls Tryz.prog 227 #[.int .i64 n] w fun e w'=> e=.returned (.string ⟨(Lib.itoa n).toArray⟩)/\∃ k os,w'=grow (w.drewN k) os:=Any.internal_strconv_Itoa Tryz.laysM243 n h0 h1 w htab
def Tryz.lays219_ren:Go.Shelf.Ren:=⟨fun | 219=> 213 | 217=> 181 | 225=> 252 | 224=> 253 | 267=> 254 | 266=> 226 | 314=> 281 | n=> n,fun | 9=> 9 | 3=> 3 | 4=> 4 | 5=> 5 | 46=> 133 | 146=> 332 | 51=> 32 | n=> n,fun | 1=> 0 | n=> n⟩
theorem Tryz.lays219:Go.Proofs.Lays.n219 Tryz.prog Tryz.lays219_ren:={
 mixed:=by kernel_rfl
 f217:=Tryz.func181.trans (congrArg some (by kernel_rfl))
 f219:=Tryz.func213.trans (congrArg some (by kernel_rfl))
 f224:=Tryz.func253.trans (congrArg some (by kernel_rfl))
 f225:=Tryz.func252.trans (congrArg some (by kernel_rfl))
 f266:=Tryz.func226.trans (congrArg some (by kernel_rfl))
 f267:=Tryz.func254.trans (congrArg some (by kernel_rfl))
 f314:=Tryz.func281.trans (congrArg some (by kernel_rfl))
 t3:=Tryz.underlying3
 a3:=Tryz.isAgg3
 z3:=Tryz.sizeOf3
 v3:=Tryz.zeroValue3
 t4:=Tryz.underlying4
 a4:=Tryz.isAgg4
 z4:=Tryz.sizeOf4
 v4:=Tryz.zeroValue4
 t5:=Tryz.underlying5
 a5:=Tryz.isAgg5
 z5:=Tryz.sizeOf5
 v5:=Tryz.zeroValue5
 t9:=Tryz.underlying9
 a9:=Tryz.isAgg9
 z9:=Tryz.sizeOf9
 v9:=Tryz.zeroValue9
 t46:=Tryz.underlying133
 a46:=Tryz.isAgg133
 z46:=Tryz.sizeOf133
 v46:=Tryz.zeroValue133
 t51:=Tryz.underlying32
 a51:=Tryz.isAgg32
 z51:=Tryz.sizeOf32
 v51:=Tryz.zeroValue32
 t146:=Tryz.underlying332
 a146:=Tryz.isAgg332
 z146:=Tryz.sizeOf332
 v146:=Tryz.zeroValue332
 g1:=by kernel_rfl }
open Go.RowKit Go.Lib in
theorem Tryz.stringslite_Index (s sub:ByteArray) (m:Int) (w:World) (hs:s.size < 4294967281) (hm:w.cell? ⟨0,0,none⟩=some (.int .i64 m)):
  Calls Tryz.prog 213 #[.string s,.string sub] w fun e w'=> e=.returned (.int .i64 (Lib.index s.data.toList sub.data.toList))/\w'=w:=Any.stringslite_Index Tryz.lays219 s sub m w hs hm
def Tryz.lays143_ren:Go.Shelf.Ren:=⟨fun | 143=> 214 | 219=> 213 | 217=> 181 | 225=> 252 | 224=> 253 | 267=> 254 | 266=> 226 | 314=> 281 | n=> n,fun | 9=> 9 | 3=> 3 | 4=> 4 | 5=> 5 | 46=> 133 | 146=> 332 | 51=> 32 | n=> n,fun | 1=> 0 | n=> n⟩
theorem Tryz.lays143:Go.Proofs.Lays.n143 Tryz.prog Tryz.lays143_ren:={
 mixed:=by kernel_rfl
 f143:=Tryz.func214.trans (congrArg some (by kernel_rfl))
 f217:=Tryz.func181.trans (congrArg some (by kernel_rfl))
 f219:=Tryz.func213.trans (congrArg some (by kernel_rfl))
 f224:=Tryz.func253.trans (congrArg some (by kernel_rfl))
 f225:=Tryz.func252.trans (congrArg some (by kernel_rfl))
 f266:=Tryz.func226.trans (congrArg some (by kernel_rfl))
 f267:=Tryz.func254.trans (congrArg some (by kernel_rfl))
 f314:=Tryz.func281.trans (congrArg some (by kernel_rfl))
 t3:=Tryz.underlying3
 a3:=Tryz.isAgg3
 z3:=Tryz.sizeOf3
 v3:=Tryz.zeroValue3
 t4:=Tryz.underlying4
 a4:=Tryz.isAgg4
 z4:=Tryz.sizeOf4
 v4:=Tryz.zeroValue4
 t5:=Tryz.underlying5
 a5:=Tryz.isAgg5
 z5:=Tryz.sizeOf5
 v5:=Tryz.zeroValue5
 t9:=Tryz.underlying9
 a9:=Tryz.isAgg9
 z9:=Tryz.sizeOf9
 v9:=Tryz.zeroValue9
 t46:=Tryz.underlying133
 a46:=Tryz.isAgg133
 z46:=Tryz.sizeOf133
 v46:=Tryz.zeroValue133
 t51:=Tryz.underlying32
 a51:=Tryz.isAgg32
 z51:=Tryz.sizeOf32
 v51:=Tryz.zeroValue32
 t146:=Tryz.underlying332
 a146:=Tryz.isAgg332
 z146:=Tryz.sizeOf332
 v146:=Tryz.zeroValue332
 g1:=by kernel_rfl }
open Go.RowKit Go.Lib in
theorem Tryz.strings_Index (s sub:ByteArray) (m:Int) (w:World) (hs:s.size < 4294967281) (hm:w.cell? ⟨0,0,none⟩=some (.int .i64 m)):
  Calls Tryz.prog 214 #[.string s,.string sub] w fun e w'=> e=.returned (.int .i64 (Lib.index s.data.toList sub.data.toList))/\w'=w:=Any.strings_Index Tryz.lays143 s sub m w hs hm
def Tryz.lays271_ren:Go.Shelf.Ren:=⟨fun | 271=> 215 | 120=> 255 | 197=> 238 | 260=> 269 | n=> n,fun | 9=> 9 | 21=> 21 | 3=> 3 | 4=> 4 | 5=> 5 | 105=> 286 | 119=> 341 | 0=> 0 | 46=> 133 | 139=> 344 | 138=> 343 | n=> n,fun | 3=> 2 | 4=> 3 | n=> n⟩
theorem Tryz.lays271:Go.Proofs.Lays.n271 Tryz.prog Tryz.lays271_ren:={
 mixed:=by kernel_rfl
 f120:=Tryz.func255.trans (congrArg some (by kernel_rfl))
 f197:=Tryz.func238.trans (congrArg some (by kernel_rfl))
 f260:=Tryz.func269.trans (congrArg some (by kernel_rfl))
 f271:=Tryz.func215.trans (congrArg some (by kernel_rfl))
 t0:=Tryz.underlying0
 a0:=Tryz.isAgg0
 z0:=Tryz.sizeOf0
 v0:=Tryz.zeroValue0
 t3:=Tryz.underlying3
 a3:=Tryz.isAgg3
 z3:=Tryz.sizeOf3
 v3:=Tryz.zeroValue3
 t4:=Tryz.underlying4
 a4:=Tryz.isAgg4
 z4:=Tryz.sizeOf4
 v4:=Tryz.zeroValue4
 t5:=Tryz.underlying5
 a5:=Tryz.isAgg5
 z5:=Tryz.sizeOf5
 v5:=Tryz.zeroValue5
 t9:=Tryz.underlying9
 a9:=Tryz.isAgg9
 z9:=Tryz.sizeOf9
 v9:=Tryz.zeroValue9
 t21:=Tryz.underlying21
 a21:=Tryz.isAgg21
 z21:=Tryz.sizeOf21
 v21:=Tryz.zeroValue21
 t46:=Tryz.underlying133
 a46:=Tryz.isAgg133
 z46:=Tryz.sizeOf133
 v46:=Tryz.zeroValue133
 t105:=Tryz.underlying286
 a105:=Tryz.isAgg286
 z105:=Tryz.sizeOf286
 v105:=Tryz.zeroValue286
 t119:=Tryz.underlying341
 a119:=Tryz.isAgg341
 z119:=Tryz.sizeOf341
 t138:=Tryz.underlying343
 a138:=Tryz.isAgg343
 z138:=Tryz.sizeOf343
 v138:=Tryz.zeroValue343
 t139:=Tryz.underlying344
 a139:=Tryz.isAgg344
 z139:=Tryz.sizeOf344
 v139:=Tryz.zeroValue344
 g3:=by kernel_rfl
 g4:=by kernel_rfl }
open Go.RowKit Go.Lib in
theorem Tryz.utf8_DecodeLastRuneInString (s:ByteArray) (w:World) (hs:s.size<=9223372036854775807) (hT:Lib.Utf8Tabs 2 3 w):
  Calls Tryz.prog 215 #[.string s] w fun e w'=> e=.returned (.tuple #[.int .i32 (Lib.decodeLastL s.data.toList).1,.int .i64 (Lib.decodeLastL s.data.toList).2])/\Below w.heap.size w w':=Any.utf8_DecodeLastRuneInString Tryz.lays271 s w hs hT
end Go.Proofs
namespace Go.Proofs
open Go.Shelf
def Tryz.lays197_ren:Go.Shelf.Ren:=⟨fun | 197=> 238 | 260=> 269 | n=> n,fun | 9=> 9 | 21=> 21 | 3=> 3 | 4=> 4 | 5=> 5 | 105=> 286 | 119=> 341 | 0=> 0 | 46=> 133 | 139=> 344 | 138=> 343 | n=> n,fun | 3=> 2 | 4=> 3 | n=> n⟩
theorem Tryz.lays197:Go.Proofs.Lays.n197 Tryz.prog Tryz.lays197_ren:={
 mixed:=by kernel_rfl
 f197:=Tryz.func238.trans (congrArg some (by kernel_rfl))
 f260:=Tryz.func269.trans (congrArg some (by kernel_rfl))
 t0:=Tryz.underlying0
 a0:=Tryz.isAgg0
 z0:=Tryz.sizeOf0
 v0:=Tryz.zeroValue0
 t3:=Tryz.underlying3
 a3:=Tryz.isAgg3
 z3:=Tryz.sizeOf3
 v3:=Tryz.zeroValue3
 t4:=Tryz.underlying4
 a4:=Tryz.isAgg4
 z4:=Tryz.sizeOf4
 v4:=Tryz.zeroValue4
 t5:=Tryz.underlying5
 a5:=Tryz.isAgg5
 z5:=Tryz.sizeOf5
 v5:=Tryz.zeroValue5
 t9:=Tryz.underlying9
 a9:=Tryz.isAgg9
 z9:=Tryz.sizeOf9
 v9:=Tryz.zeroValue9
 t21:=Tryz.underlying21
 a21:=Tryz.isAgg21
 z21:=Tryz.sizeOf21
 v21:=Tryz.zeroValue21
 t46:=Tryz.underlying133
 a46:=Tryz.isAgg133
 z46:=Tryz.sizeOf133
 v46:=Tryz.zeroValue133
 t105:=Tryz.underlying286
 a105:=Tryz.isAgg286
 z105:=Tryz.sizeOf286
 v105:=Tryz.zeroValue286
 t119:=Tryz.underlying341
 a119:=Tryz.isAgg341
 z119:=Tryz.sizeOf341
 t138:=Tryz.underlying343
 a138:=Tryz.isAgg343
 z138:=Tryz.sizeOf343
 v138:=Tryz.zeroValue343
 t139:=Tryz.underlying344
 a139:=Tryz.isAgg344
 z139:=Tryz.sizeOf344
 v139:=Tryz.zeroValue344
 g3:=by kernel_rfl
 g4:=by kernel_rfl }
open Go.RowKit Go.Lib in
theorem Tryz.utf8_DecodeRuneInString (s:ByteArray) (w:World) (hT:Lib.Utf8Tabs 2 3 w):
  Calls Tryz.prog 238 #[.string s] w fun e w'=> e=.returned (.tuple #[.int .i32 (Lib.decodeGo s).1,.int .i64 (Lib.decodeGo s).2])/\Below w.heap.size w w':=Any.utf8_DecodeRuneInString Tryz.lays197 s w hT
end Go.Proofs
namespace Go.Proofs
open Go.Shelf Go.RowKit Go.Lib
theorem RuneIns.mixed:Tryz.prog.follows .mixedOrders=true:=by kernel_rfl
theorem RuneIns.info:(Tryz.prog.info? 21).map (fun i=> (i.zero,i.size,i.bytes))=some (some (Value.int IntKind.i32 0),1,4):=by kernel_rfl
set_option maxHeartbeats 4000000 in
set_option maxRecDepth 100000 in
theorem RuneIns.shift (b off n c i vb voff m vc:Nat) (cs vs:List Value) (w:World) (hi:i < n) (hm:0 < m) (hroom:n+m<=c) (hc63:c<=9223372036854775807) (hvb:vb≠b)
  (hcl:cs.length=n) (hvl:vs.length=m)
  (hcs:∀ j v,cs[j]? =some v->w.cell? ⟨b,off+j,none⟩=some v) (hsp:∀ j,j < n+m->(w.cell? ⟨b,off+j,none⟩).isSome=true) (hfz:∀ j,j < n+m->w.frozen? ⟨b,off+j,none⟩=false)
  (hvs:∀ j v,vs[j]? =some v->w.cell? ⟨vb,voff+j,none⟩=some v) (h1c:∀ v∈cs,v.oneCell'=true) (h1v:∀ v∈vs,v.oneCell'=true)
  (tA tB:TypeId) (kA kB:Nat) (hsa:w.shape? vb=some (tA,kA)) (hsb:w.shape? b=some (tB,kB)) (hkB:kB≠0) (hfa:w.frozen? ⟨vb,voff,none⟩=false) (hfe:w.frozen? ⟨vb,kA,none⟩=false):
  Calls Tryz.prog 277 #[.slice (some ⟨b,off,none⟩) n c,.int .i64 i,.slice (some ⟨vb,voff,none⟩) m vc] w fun e w'=>
   e=.returned (.slice (some ⟨b,off,none⟩) (n+m) c)/\w'=(w.drew.setCells b (off+(i+m)) (cs.drop i)).setCells b (off+i) vs:=by
 have t0:=Tryz.underlying0; have a0:=Tryz.isAgg0; have z0:=Tryz.sizeOf0; have v0:=Tryz.zeroValue0; have t3:=Tryz.underlying3; have a3:=Tryz.isAgg3; have z3:=Tryz.sizeOf3; have v3:=Tryz.zeroValue3; have t4:=Tryz.underlying4; have a4:=Tryz.isAgg4; have z4:=Tryz.sizeOf4; have v4:=Tryz.zeroValue4; have t9:=Tryz.underlying21; have a9:=Tryz.isAgg21; have z9:=Tryz.sizeOf21; have v9:=Tryz.zeroValue21; have t24:=Tryz.underlying141; have a24:=Tryz.isAgg141; have z24:=Tryz.sizeOf141; have v24:=Tryz.zeroValue141
 have u0:=run_underlying Tryz.underlying0; have u3:=run_underlying Tryz.underlying3; have u4:=run_underlying Tryz.underlying4; have u9:=run_underlying Tryz.underlying21; have u24:=run_underlying Tryz.underlying141
 have hz1:¬((m:Int)=0):=by omega
 have hz2:¬((i:Int)=(n:Int)):=by omega
 have hsz:(Tryz.prog.info? 21).map (·.size)=some 1:=by
  obtain ⟨i0,hi0,h0,h1,h2⟩:=info_parts RuneIns.info
  rw [hi0]; simp [h1]
 have hov:∀ lb cb,(callFunc 293 #[.slice (some ⟨vb,voff,none⟩) m vc,.slice (some ⟨b,off+(i+m),none⟩) lb cb]).run Tryz.prog w=.ok (.value (.bool false)) w:=fun lb cb=> by
  rw [run_callFunc_extern Tryz.func293 (by kernel_rfl) (by kernel_rfl) (by kernel_rfl) (e:=Extern.SlicesOverlaps.overlaps #[141,141] #[4]) (by kernel_rfl),
   Lib.run_overlaps_apart w 141 4 21 Tryz.underlying141 1 Tryz.sizeOf21 ⟨vb,voff,none⟩ ⟨b,off+(i+m),none⟩ m vc lb cb hvb tA tB kA kB hsa hsb hkB hfa hfe]
  rfl
 have hdl:(cs.drop i).length=n - i:=by rw [List.length_drop,hcl]
 have mixed:=RuneIns.mixed
 have hw1:IntKind.i64.wrap ((i:Int)+(m:Int))=(i:Int)+(m:Int):=by rw [IntKind.wrap_i64]; omega
 have hb1:(0:Int)<=(i:Int)+(m:Int):=by omega
 have hin:i<=n:=by omega
 have htn:((i:Int)+(m:Int)).toNat=i+m:=by omega
 have hb2:¬(c=i+m):=by omega
 have hb3:(i:Int)<=(n:Int)+(m:Int):=by omega
 have hb4:¬(c=i):=by omega
 have hcp1:∀ ty dc sc,(Builtin.copy_ #[141,141] ty #[.slice (some ⟨b,off+(i+m),none⟩) (n+m - (i+m)) dc,.slice (some ⟨b,off+i,none⟩) (n+m - i) sc]).run Tryz.prog w.drew=.ok (goInt (cs.drop i).length) (w.drew.setCells b (off+(i+m)) (cs.drop i)):=fun ty dc sc=>
  run_copy_cells w.drew _ _ ty 21 b (off+(i+m)) (n+m - (i+m)) dc ⟨b,off+i,none⟩ (n+m - i) sc (cs.drop i) Tryz.underlying141 hsz (by rw [hdl]; simp only [Nat.min_def]; split <;> omega)
   (fun j v hj=> by rw [Addr.add_lit,Nat.add_assoc]; exact hcs (i+j) v (by rwa [List.getElem?_drop] at hj))
   (fun j hj=> by rw [Nat.add_assoc]; exact hsp _ (by omega)) (fun j hj=> by rw [Nat.add_assoc]; exact hfz _ (by omega)) (fun v hv=> h1c v (List.mem_of_mem_drop hv))
 obtain ⟨W1,hW1⟩:∃ W1,W1=w.drew.setCells b (off+(i+m)) (cs.drop i):=⟨_,rfl⟩
 have hsp1:∀ k,k < n+m->(W1.cell? ⟨b,off+k,none⟩).isSome=true:=fun k hk=> by
  rw [hW1]
  exact isSome_setCells b _ _ _ (fun j hj=> by rw [Nat.add_assoc]; exact hsp _ (by omega)) _ (hsp k hk)
 have hcp2:∀ (W:World),(∀ x,W.cell? x=W1.cell? x)->(∀ x,W.frozen? x=W1.frozen? x)->∀ ty dc,(Builtin.copy_ #[141,141] ty #[.slice (some ⟨b,off+i,none⟩) (n+m - i) dc,.slice (some ⟨vb,voff,none⟩) m vc]).run Tryz.prog W=.ok (goInt vs.length) (W.setCells b (off+i) vs):=fun W hWc hWf ty dc=>
  run_copy_cells W _ _ ty 21 b (off+i) (n+m - i) dc ⟨vb,voff,none⟩ m vc vs Tryz.underlying141 hsz (by rw [hvl]; simp only [Nat.min_def]; split <;> omega)
   (fun j v hj=> by
    rw [Addr.add_lit,hWc,hW1,World.cell?_setCells_out b _ _ _ _ (fun h _=> absurd h hvb)]
    exact hvs j v hj)
   (fun j hj=> by rw [hWc,Nat.add_assoc]; exact hsp1 _ (by omega)) (fun j hj=> by rw [hWf,hW1,World.frozen?_setCells,Nat.add_assoc]; exact hfz _ (by omega)) h1v
 rw [<-hW1] at hcp1
 go_enter Tryz.func277,Tryz.ntmps277
 go_wp2_with (simp only [hov])
 go_region_law_o (refine step_copy_runI rfl _ _ 141 141 rfl _ _ (by simp [Act.eval,Act.put]) (by simp [Act.eval,Act.put]) (hcp1 _ _ _) ?_)
 go_wp2_with (at_builtin; refine wpList_copy_runI _ rfl _ _ 141 141 rfl _ _ rfl rfl (hcp2 _ (fun _=> rfl) (fun _=> rfl) _ _) ?_)
 go_ret
 first | exact ⟨rfl,rfl⟩ | exact ⟨rfl,by rw [hW1]⟩
set_option maxHeartbeats 4000000 in
set_option maxRecDepth 100000 in
theorem RuneIns.end_room (b off n c vb voff m vc:Nat) (vs:List Value) (w:World) (hm:0 < m) (hroom:n+m<=c) (hc63:c<=9223372036854775807)
  (hvl:vs.length=m) (hsp:∀ j,j < m->(w.cell? ⟨b,off+n+j,none⟩).isSome=true) (hfz:∀ j,j < m->w.frozen? ⟨b,off+n+j,none⟩=false)
  (hvs:∀ j v,vs[j]? =some v->w.cell? ⟨vb,voff+j,none⟩=some v) (h1v:∀ v∈vs,v.oneCell'=true):
  Calls Tryz.prog 277 #[.slice (some ⟨b,off,none⟩) n c,.int .i64 n,.slice (some ⟨vb,voff,none⟩) m vc] w fun e w'=>
   e=.returned (.slice (some ⟨b,off,none⟩) (n+m) c)/\w'=w.setCells b (off+n) vs:=by
 have t0:=Tryz.underlying0; have a0:=Tryz.isAgg0; have z0:=Tryz.sizeOf0; have v0:=Tryz.zeroValue0; have t3:=Tryz.underlying3; have a3:=Tryz.isAgg3; have z3:=Tryz.sizeOf3; have v3:=Tryz.zeroValue3; have t4:=Tryz.underlying4; have a4:=Tryz.isAgg4; have z4:=Tryz.sizeOf4; have v4:=Tryz.zeroValue4; have t9:=Tryz.underlying21; have a9:=Tryz.isAgg21; have z9:=Tryz.sizeOf21; have v9:=Tryz.zeroValue21; have t24:=Tryz.underlying141; have a24:=Tryz.isAgg141; have z24:=Tryz.sizeOf141; have v24:=Tryz.zeroValue141
 have u0:=run_underlying Tryz.underlying0; have u3:=run_underlying Tryz.underlying3; have u4:=run_underlying Tryz.underlying4; have u9:=run_underlying Tryz.underlying21; have u24:=run_underlying Tryz.underlying141
 have mixed:=RuneIns.mixed
 have hz1:¬((m:Int)=0):=by omega
 have hsrc:Src Tryz.prog 1 141 (.slice (some ⟨vb,voff,none⟩) m vc) m vs w:=Src.ofSlice w Tryz.underlying141 ⟨vb,voff,none⟩ m vc vs (by omega) (fun j u hj=> by rw [Addr.add_lit]; exact hvs j u hj) h1v
 go_enter Tryz.func277,Tryz.ntmps277
 go_wp2_with (at_builtin; refine wpList_append_room1 _ rfl _ _ 141 141 rfl 21 _ _ Tryz.underlying141 RuneIns.info b off n c rfl _ rfl m vs hsrc hroom (by rw [hvl]; exact hsp) (by rw [hvl]; exact hfz) ?_)
 go_ret
 exact ⟨rfl,rfl⟩
set_option maxHeartbeats 4000000 in
set_option maxRecDepth 100000 in
theorem RuneIns.end_grow (base:Option Addr) (n c vb voff m vc:Nat) (cs vs:List Value) (w:World) (hm:0 < m) (hnc:n<=c) (hroom:c < n+m) (hbig:(n+m)*4<=140737488355328)
  (hcl:cs.length=n) (hvl:vs.length=m) (hnil:base=none->n=0)
  (hcs:∀ a,base=some a->∀ j v,cs[j]? =some v->w.cell? (a.add j)=some v)
  (hvs:∀ j v,vs[j]? =some v->w.cell? ⟨vb,voff+j,none⟩=some v) (h1v:∀ v∈vs,v.oneCell'=true):
  Calls Tryz.prog 277 #[.slice base n c,.int .i64 n,.slice (some ⟨vb,voff,none⟩) m vc] w fun e w'=>
   e=.returned (.slice (some ⟨w.heap.size,0,none⟩) (n+m) (grownCap w (n+m) c 21))/\
   w'=w.drew.alloc (.cells ((cs++vs).toArray++Builtin.zeroCells (Value.int .i32 0).cells (grownCap w (n+m) c 21 - (n+m))) 21):=by
 have t0:=Tryz.underlying0; have a0:=Tryz.isAgg0; have z0:=Tryz.sizeOf0; have v0:=Tryz.zeroValue0; have t3:=Tryz.underlying3; have a3:=Tryz.isAgg3; have z3:=Tryz.sizeOf3; have v3:=Tryz.zeroValue3; have t4:=Tryz.underlying4; have a4:=Tryz.isAgg4; have z4:=Tryz.sizeOf4; have v4:=Tryz.zeroValue4; have t9:=Tryz.underlying21; have a9:=Tryz.isAgg21; have z9:=Tryz.sizeOf21; have v9:=Tryz.zeroValue21; have t24:=Tryz.underlying141; have a24:=Tryz.isAgg141; have z24:=Tryz.sizeOf141; have v24:=Tryz.zeroValue141
 have u0:=run_underlying Tryz.underlying0; have u3:=run_underlying Tryz.underlying3; have u4:=run_underlying Tryz.underlying4; have u9:=run_underlying Tryz.underlying21; have u24:=run_underlying Tryz.underlying141
 have mixed:=RuneIns.mixed
 obtain ⟨i0,hi0,hz0,hzs,hzb⟩:=info_parts RuneIns.info
 have hz1:¬((m:Int)=0):=by omega
 have hsrc:Src Tryz.prog i0.size 141 (.slice (some ⟨vb,voff,none⟩) m vc) m vs w:=by
  rw [hzs]
  exact Src.ofSlice w Tryz.underlying141 ⟨vb,voff,none⟩ m vc vs (by omega) (fun j u hj=> by rw [Addr.add_lit]; exact hvs j u hj) h1v
 have hold:(Builtin.firstCells i0.size n (.slice base n c)).run Tryz.prog w.drew=.ok cs.toArray w.drew:=by
  rw [hzs]
  cases base with
  | none=>
   have h0:=hnil rfl
   subst h0
   rw [List.length_eq_zero_iff.1 hcl]
   exact run_firstCells_none w.drew 1 0 0 c
  | some a=> exact run_firstCells_some w.drew 1 n a n c cs (by omega) (fun j v hj=> hcs a rfl j v hj)
 have hrun:∀ ty,(Builtin.append_ #[141,141] ty #[.slice base n c,.slice (some ⟨vb,voff,none⟩) m vc]).run Tryz.prog w=_:=fun ty=>
  run_append_grow_src w 141 141 ty 21 i0 _ Tryz.underlying141 hi0 hz0 base n c cs hold _ m vs hsrc hroom (by omega) (by rw [hzb]; exact growslice_fits hroom hbig)
 go_enter Tryz.func277,Tryz.ntmps277
 cases base with
 | none=>
  have h0:=hnil rfl
  subst h0
  go_wp2_with (at_builtin; refine Lib.wpList_append_run _ rfl _ _ _ _ rfl _ _ rfl rfl _ _ (hrun _) ?_)
  go_ret
  exact ⟨rfl,rfl⟩
 | some a=>
  obtain ⟨ab,ao,asp⟩:=a
  go_wp2_with (at_builtin; refine Lib.wpList_append_run _ rfl _ _ _ _ rfl _ _ rfl rfl _ _ (hrun _) ?_)
  all_goals (go_ret; exact ⟨rfl,rfl⟩)
set_option maxHeartbeats 4000000 in
set_option maxRecDepth 100000 in
theorem RuneIns.grow (b off n c i vb voff m vc:Nat) (cs vs:List Value) (w:World) (hi:i < n) (hm:0 < m) (hnc:n<=c) (hroom:c < n+m) (hbig:(n+m)*4<=140737488355328)
  (hcl:cs.length=n) (hvl:vs.length=m)
  (hcs:∀ j v,cs[j]? =some v->w.cell? ⟨b,off+j,none⟩=some v)
  (hvs:∀ j v,vs[j]? =some v->w.cell? ⟨vb,voff+j,none⟩=some v) (h1c:∀ v∈cs,v.oneCell'=true) (h1v:∀ v∈vs,v.oneCell'=true):
  Calls Tryz.prog 277 #[.slice (some ⟨b,off,none⟩) n c,.int .i64 i,.slice (some ⟨vb,voff,none⟩) m vc] w fun e w'=>
   e=.returned (.slice (some ⟨w.heap.size,0,none⟩) (n+m) (grownCap w (n+m) c 21))/\
   w'=(((w.alloc (.cells ((cs.take i).toArray++Builtin.zeroCells (Value.int .i32 0).cells (n+m - i)++Builtin.zeroCells (Value.int .i32 0).cells (grownCap w (n+m) c 21 - (n+m))) 21)).drew.setCells w.heap.size i vs).drew).setCells w.heap.size (i+m) (cs.drop i):=by
 have t0:=Tryz.underlying0; have a0:=Tryz.isAgg0; have z0:=Tryz.sizeOf0; have v0:=Tryz.zeroValue0; have t3:=Tryz.underlying3; have a3:=Tryz.isAgg3; have z3:=Tryz.sizeOf3; have v3:=Tryz.zeroValue3; have t4:=Tryz.underlying4; have a4:=Tryz.isAgg4; have z4:=Tryz.sizeOf4; have v4:=Tryz.zeroValue4; have t9:=Tryz.underlying21; have a9:=Tryz.isAgg21; have z9:=Tryz.sizeOf21; have v9:=Tryz.zeroValue21; have t24:=Tryz.underlying141; have a24:=Tryz.isAgg141; have z24:=Tryz.sizeOf141; have v24:=Tryz.zeroValue141
 have u0:=run_underlying Tryz.underlying0; have u3:=run_underlying Tryz.underlying3; have u4:=run_underlying Tryz.underlying4; have u9:=run_underlying Tryz.underlying21; have u24:=run_underlying Tryz.underlying141
 have mixed:=RuneIns.mixed
 obtain ⟨i0,hi0,hz0,hzs,hzb⟩:=info_parts RuneIns.info
 have hz1:¬((m:Int)=0):=by omega
 have hz2:¬((i:Int)=(n:Int)):=by omega
 have hz3:(c:Int) < (n:Int)+(m:Int):=by omega
 have hsz:(Tryz.prog.info? 21).map (·.size)=some 1:=by rw [hi0]; simp [hzs]
 have hbw:b < w.heap.size:=block_lt_of_cell (hcs 0 _ (List.getElem?_eq_getElem (by omega)))
 have hvw:vb < w.heap.size:=block_lt_of_cell (hvs 0 _ (List.getElem?_eq_getElem (by omega)))
 have hkk:(n:Int)+(m:Int) - (i:Int)=((n+m - i:Nat):Int):=by omega
 have hik:i+(n+m - i)=n+m:=by omega
 have hold:(Builtin.firstCells i0.size i (.slice (some ⟨b,off,none⟩) i c)).run Tryz.prog w.drew=.ok (cs.take i).toArray w.drew:=by
  rw [hzs]
  exact run_firstCells_some w.drew 1 i ⟨b,off,none⟩ i c (cs.take i) (by rw [List.length_take]; omega) (fun j v hj=> by
   rw [Addr.add_lit]
   rw [List.getElem?_take] at hj
   split at hj
   ·exact hcs j v hj
   ·cases hj)
 have hrz:∀ ty,(Builtin.append_ #[141,3] ty #[.slice (some ⟨b,off,none⟩) i c,.int .i64 ((n:Int)+(m:Int) - (i:Int))]).run Tryz.prog w=
   .ok (.slice (some ⟨w.heap.size,0,none⟩) (n+m) (grownCap w (n+m) c 21)) (w.drew.alloc (.cells ((cs.take i).toArray++Builtin.zeroCells (Value.int .i32 0).cells (n+m - i)++Builtin.zeroCells (Value.int .i32 0).cells (grownCap w (n+m) c 21 - (n+m))) 21)):=fun ty=> by
  have h:=Lib.run_append_grow_zeros w 141 3 ty 21 i0 _ .i64 .i64 Tryz.underlying141 Tryz.underlying3 hi0 hz0 (some ⟨b,off,none⟩) i c (cs.take i) hold (n+m - i) (by omega) (by omega) (by omega) (by omega) (by rw [hzb]; omega) (by rw [hzb,hik]; exact growslice_fits hroom hbig)
  rw [hik] at h
  rw [hkk]
  exact h
 obtain ⟨G,hG⟩:∃ G,G=grownCap w (n+m) c 21:=⟨_,rfl⟩
 obtain ⟨ROW,hROW⟩:∃ ROW:Array Value,ROW=(cs.take i).toArray++Builtin.zeroCells (Value.int .i32 0).cells (n+m - i)++Builtin.zeroCells (Value.int .i32 0).cells (G - (n+m)):=⟨_,rfl⟩
 rw [<-hG] at hrz ⊢
 rw [<-hROW] at hrz ⊢
 have hRl:n+m<=ROW.size:=by
  rw [hROW]
  simp [Builtin.zeroCells,Value.cells]
  omega
 obtain ⟨W1,hW1⟩:∃ W1,W1=w.drew.alloc (.cells ROW 21):=⟨_,rfl⟩
 rw [<-hW1] at hrz
 have hN:∀ j,j < n+m->(W1.cell? ⟨w.heap.size,j,none⟩).isSome=true:=fun j hj=> by
  rw [hW1,World.cell?_alloc_at (w:=w.drew) ROW _ w.heap.size j rfl,Array.getElem?_eq_getElem (by omega)]; rfl
 have hNf:∀ j,W1.frozen? ⟨w.heap.size,j,none⟩=false:=fun j=> by rw [hW1]; exact World.frozen?_alloc_at (w:=w.drew) ROW _ w.heap.size j rfl
 have hOb:∀ j v,w.cell? ⟨b,j,none⟩=some v->W1.cell? ⟨b,j,none⟩=some v:=fun j v h=> by rw [hW1,World.cell?_alloc_past (w:=w.drew) _ b j hbw]; exact h
 have hOv:∀ j v,w.cell? ⟨vb,j,none⟩=some v->W1.cell? ⟨vb,j,none⟩=some v:=fun j v h=> by rw [hW1,World.cell?_alloc_past (w:=w.drew) _ vb j hvw]; exact h
 have hcpA:∀ (W:World),(∀ x,W.cell? x=W1.cell? x)->(∀ x,W.frozen? x=W1.frozen? x)->∀ ty dc,(Builtin.copy_ #[141,141] ty #[.slice (some ⟨w.heap.size,i,none⟩) (n+m - i) dc,.slice (some ⟨vb,voff,none⟩) m vc]).run Tryz.prog W=.ok (goInt vs.length) (W.setCells w.heap.size i vs):=fun W hWc hWf ty dc=>
  run_copy_cells W _ _ ty 21 w.heap.size i (n+m - i) dc ⟨vb,voff,none⟩ m vc vs Tryz.underlying141 hsz (by rw [hvl]; simp only [Nat.min_def]; split <;> omega)
   (fun j v hj=> by rw [Addr.add_lit,hWc]; exact hOv _ v (hvs j v hj))
   (fun j hj=> by rw [hWc]; exact hN _ (by omega)) (fun j hj=> by rw [hWf]; exact hNf _) h1v
 have hGn:n+m<=G:=by rw [hG]; exact grownCap_ge w _ _ _
 have hG63:G<=9223372036854775807:=by
  have:=grownCap_le_maxLen w (n+m) c 21 (by unfold maxLen; omega)
  rw [<-hG] at this
  unfold maxLen at this
  omega
 have hGi:¬(G=i):=by omega
 have hGim:¬(G=i+m):=by omega
 have hci:¬(c=i):=by omega
 have hbN:b≠w.heap.size:=by omega
 have hdl:(cs.drop i).length=n - i:=by rw [List.length_drop,hcl]
 have hcpB:∀ (W:World),(∀ x,W.cell? x=(W1.setCells w.heap.size i vs).cell? x)->(∀ x,W.frozen? x=(W1.setCells w.heap.size i vs).frozen? x)->∀ ty dc sc,(Builtin.copy_ #[141,141] ty #[.slice (some ⟨w.heap.size,i+m,none⟩) (n+m - (i+m)) dc,.slice (some ⟨b,off+i,none⟩) (n - i) sc]).run Tryz.prog W=.ok (goInt (cs.drop i).length) (W.setCells w.heap.size (i+m) (cs.drop i)):=fun W hWc hWf ty dc sc=>
  run_copy_cells W _ _ ty 21 w.heap.size (i+m) (n+m - (i+m)) dc ⟨b,off+i,none⟩ (n - i) sc (cs.drop i) Tryz.underlying141 hsz (by rw [hdl]; simp only [Nat.min_def]; split <;> omega)
   (fun j v hj=> by
    rw [Addr.add_lit,hWc,World.cell?_setCells_out _ _ _ _ _ (fun h _=> absurd h hbN),Nat.add_assoc]
    exact hOb _ v (hcs (i+j) v (by rwa [List.getElem?_drop] at hj)))
   (fun j hj=> by rw [hWc]; exact isSome_setCells _ _ _ _ (fun t ht=> hN _ (by omega)) _ (hN _ (by omega)))
   (fun j hj=> by rw [hWf,World.frozen?_setCells]; exact hNf _) (fun v hv=> h1c v (List.mem_of_mem_drop hv))
 subst hW1
 have hE1:∀ x,((w.alloc (.cells ROW 21)).drew).cell? x=(w.drew.alloc (.cells ROW 21)).cell? x:=fun x=> rfl
 have hE2:∀ x,((w.alloc (.cells ROW 21)).drew).frozen? x=(w.drew.alloc (.cells ROW 21)).frozen? x:=fun x=> rfl
 have hF1:∀ x,(((w.alloc (.cells ROW 21)).drew.setCells w.heap.size i vs).drew).cell? x=((w.drew.alloc (.cells ROW 21)).setCells w.heap.size i vs).cell? x:=fun x=> rfl
 have hF2:∀ x,(((w.alloc (.cells ROW 21)).drew.setCells w.heap.size i vs).drew).frozen? x=((w.drew.alloc (.cells ROW 21)).setCells w.heap.size i vs).frozen? x:=fun x=> rfl
 have hw1:IntKind.i64.wrap ((i:Int)+(m:Int))=(i:Int)+(m:Int):=by rw [IntKind.wrap_i64]; omega
 have hb1:(0:Int)<=(i:Int)+(m:Int):=by omega
 have hin:i<=n:=by omega
 have htn:((i:Int)+(m:Int)).toNat=i+m:=by omega
 have hb3:(i:Int)<=(n:Int):=by omega
 clear hkk hik hold hROW hG hRl
 go_enter Tryz.func277,Tryz.ntmps277
 go_wp2_with (first
  | (at_builtin; refine Lib.wpList_append_run _ rfl _ _ _ _ rfl _ _ rfl rfl _ _ (hrz _) ?_)
  | (at_builtin; refine wpList_copy_runI _ rfl _ _ 141 141 rfl _ _ rfl rfl (hcpA _ hE1 hE2 _ _) ?_)
  | (at_builtin; refine wpList_copy_runI _ rfl _ _ 141 141 rfl _ _ rfl rfl (hcpB _ (fun _=> rfl) (fun _=> rfl) _ _ _) ?_))
 go_region_law_o (refine step_copy_runI rfl _ _ 141 141 rfl (.slice (some ⟨w.heap.size,i+m,none⟩) (n+m - (i+m)) (G - (i+m))) (.slice (some ⟨b,off+i,none⟩) (n - i) (c - i)) (by simp [Act.eval,Act.put]) (by simp [Act.eval,Act.put]) (hcpB _ hF1 hF2 3 (G - (i+m)) (c - i)) ?_)
 go_wp2
 go_ret
 exact ⟨rfl,rfl⟩
end Go.Proofs
namespace Go.Proofs
open Go.Shelf Go.RowKit Go.Lib Go.Maps
theorem ShD.mixed:Tryz.prog.follows .mixedOrders=true:=by kernel_rfl
theorem alloc_turned {w w1 w':World} {es:Array MapEntry} {c:Nat} (h:w1=w.alloc (.map es c)) (ht:w1.mapTurned w' w.heap.size):∃ es' c',w'=w.alloc (.map es' c'):=by
 obtain ⟨e1,c1,e2,c2,_,rfl⟩:=ht
 subst h
 refine ⟨e2,c2,?_⟩
 simp only [ChangeMaps.setBlock,World.alloc]
 congr 1
 apply Array.ext_getElem?
 intro i
 rw [Array.getElem?_setIfInBounds,Array.getElem?_push,Array.getElem?_push]
 by_cases e:w.heap.size=i
 ·subst e; simp
 ·rw [if_neg e,if_neg (fun h=> e h.symm),if_neg (fun h=> e h.symm)]
def ShD.ports:DataW Unit:=(((((DataW.map []).put (.string [104,116,116,112]) (.lit (.int .i64 80))).put (.string [104,116,116,112,115]) (.lit (.int .i64 443))).put (.string [119,115]) (.lit (.int .i64 80))).put (.string [119,115,115]) (.lit (.int .i64 443))).put (.string [102,116,112]) (.lit (.int .i64 21))
set_option maxHeartbeats 4000000 in
set_option maxRecDepth 100000 in
theorem ShD.ports_walk (w:World):Calls Tryz.prog 250 #[] w fun e w'=> e=.returned (.map (some w.heap.size))/\(∃ es c,w'=w.alloc (.map es c))/\w'.ownsMap Tryz.prog 9 (plainElem (H:=Unit) Tryz.prog 3) w.heap.size 5 ShD.ports:=by
 have mixed:=ShD.mixed
 have law:Keyed Tryz.prog 9:=string_keyed Tryz.underlying9
 have hmm:=@run_makeMap Tryz.prog
 have h0:=World.ownsMap_made w Tryz.prog 9 (plainElem (H:=Unit) Tryz.prog 3)
 have hv (n:Int) (hn:(Lit.int .i64 n).wf=true):plainElem (H:=Unit) Tryz.prog 3 (.int .i64 n)=some (.lit (.int .i64 n),[]):=plainElem_int Tryz.underlying3 hn
 obtain ⟨w1,r1,h1,t1⟩:=h0.store law Tryz.underlying309 (by decide) (Go.WideMaps.keyOf_string_mk (s:=⟨#[104,116,116,112]⟩) Tryz.underlying9 (by decide)) (hv 80 (by decide))
 have X1:∃ es c,w1=w.alloc (.map es c):=alloc_turned rfl t1
 obtain ⟨w2,r2,h2,t2⟩:=h1.store law Tryz.underlying309 (by decide) (Go.WideMaps.keyOf_string_mk (s:=⟨#[104,116,116,112,115]⟩) Tryz.underlying9 (by decide)) (hv 443 (by decide))
 have X2:∃ es c,w2=w.alloc (.map es c):=by obtain ⟨_,_,e⟩:=X1; exact alloc_turned e t2
 obtain ⟨w3,r3,h3,t3⟩:=h2.store law Tryz.underlying309 (by decide) (Go.WideMaps.keyOf_string_mk (s:=⟨#[119,115]⟩) Tryz.underlying9 (by decide)) (hv 80 (by decide))
 have X3:∃ es c,w3=w.alloc (.map es c):=by obtain ⟨_,_,e⟩:=X2; exact alloc_turned e t3
 obtain ⟨w4,r4,h4,t4⟩:=h3.store law Tryz.underlying309 (by decide) (Go.WideMaps.keyOf_string_mk (s:=⟨#[119,115,115]⟩) Tryz.underlying9 (by decide)) (hv 443 (by decide))
 have X4:∃ es c,w4=w.alloc (.map es c):=by obtain ⟨_,_,e⟩:=X3; exact alloc_turned e t4
 obtain ⟨w5,r5,h5,t5⟩:=h4.store law Tryz.underlying309 (by decide) (Go.WideMaps.keyOf_string_mk (s:=⟨#[102,116,112]⟩) Tryz.underlying9 (by decide)) (hv 21 (by decide))
 have X5:∃ es c,w5=w.alloc (.map es c):=by obtain ⟨_,_,e⟩:=X4; exact alloc_turned e t5
 clear t1 t2 t3 t4 t5
 go_enter Tryz.func250,Tryz.ntmps250
 go_wp2
 go_ret
 exact ⟨rfl,X5,h5⟩
set_option maxHeartbeats 4000000 in
set_option maxRecDepth 100000 in
theorem ShD.port_walk (s:ByteArray) (hs:s.size<=maxLen) (w:World):Calls Tryz.prog 211 #[.string s] w fun e w'=> ∃ c,e=.returned (.tuple #[.int .i64 c,.bool (Maps.has ShD.ports (.string s.data.toList))])/\
  ShD.ports.atKey (.string s.data.toList) (.lit (.int .i64 0))=.lit (.int .i64 c)/\∃ es c',w'=w.alloc (.map es c'):=by
 have mixed:=ShD.mixed
 have law:Keyed Tryz.prog 9:=string_keyed Tryz.underlying9
 go_enter Tryz.func211,Tryz.ntmps211
 go_wp2_with fail
 refine (ShD.ports_walk _).mono ?_
 rintro e w1 ⟨rfl,X,h⟩
 obtain ⟨v,ps,hrun,hv⟩:=h.look_ok law Tryz.underlying309 (Tryz.zeroValue3 w1) (plainElem_int (a:=0) Tryz.underlying3 (by decide)) (WideMaps.keyOf_string_mk (s:=s) Tryz.underlying9 hs)
 obtain ⟨c,rfl,hc,-⟩:=plainElem_int_inv Tryz.underlying3 hv
 have hc:=congrArg Prod.fst hc
 dsimp only
 go_wp2
 go_ret2
 exact ⟨c,rfl,rfl,X⟩
theorem run_clear_many {P:Program} (w:World) (t e ty:TypeId) (z:Value) (ht:P.underlying t=some (.slice e)) (hv:∀ w,(zeroValue e).run P w=.ok z w) (b o n c:Nat) (hn:0 < n) (cs:List Value) (hcs:(Builtin.zeroCells z.cells n).toList=cs) (h1:∀ v∈cs,v.oneCell'=true)
  (hc:∀ j,j < cs.length->(w.cell? ⟨b,o+j,none⟩).isSome=true) (hf:∀ j,j < cs.length->w.frozen? ⟨b,o+j,none⟩=false):
  (Builtin.clear_ #[t] ty #[.slice (some ⟨b,o,none⟩) n c]).run P w=.ok (.tuple #[]) (w.setCells b o cs):=by
 have hst:=run_storeCells_cells (P:=P) b o cs 0 w (by simpa using hc) (by simpa using hf) h1
 simp only [Nat.add_zero] at hst
 obtain ⟨m,rfl⟩:∃ m,n=m+1:=⟨n - 1,by omega⟩
 simp [Builtin.clear_,run_underlying ht,hv,hcs,hst]
set_option maxHeartbeats 4000000 in
set_option maxRecDepth 100000 in
theorem ShD.delete_none (a:Option Addr) (n cap i:Nat) (w:World) (hi:i<=n) (hn:n<=cap) (hm:n<=4294967296):
  Calls Tryz.prog 69 #[.slice a n cap,.int .i64 i,.int .i64 i] w fun e w'=> e=.returned (.slice a n cap)/\w'=w:=by
 have mixed:=ShD.mixed
 have z85:=Tryz.sizeOf88
 go_enter Tryz.func69,Tryz.ntmps69
 go_wp2
 all_goals (go_ret; exact ⟨rfl,rfl⟩)
set_option maxHeartbeats 8000000 in
set_option maxRecDepth 1000000 in
theorem ShD.delete_some (b off n cap i j:Nat) (news zs:List Value) (w:World) (hij:i < j) (hj:j<=n) (hn:n<=cap) (hm:n<=4294967296) (hl:news.length=(n - j)*15)
  (hsrc:∀ t u,news[t]? =some u->w.cell? ⟨b,off+j*15+t,none⟩=some u) (h1:∀ u∈news,u.oneCell'=true)
  (hc:∀ t,t < n*15->(w.cell? ⟨b,off+t,none⟩).isSome=true) (hf:∀ t,t < n*15->w.frozen? ⟨b,off+t,none⟩=false)
  (hz:∀ z,(∀ w,(zeroValue 88).run Tryz.prog w=.ok z w)->(Builtin.zeroCells z.cells (n - (i+(n - j)))).toList=zs) (hz1:∀ v∈zs,v.oneCell'=true) (hzl:zs.length=(j - i)*15):
  Calls Tryz.prog 69 #[.slice (some ⟨b,off,none⟩) n cap,.int .i64 i,.int .i64 j] w fun e w'=> e=.returned (.slice (some ⟨b,off,none⟩) (i+(n - j)) cap)/\
   w'=(w.drew.setCells b (off+i*15) news).setCells b (off+(i+(n - j))*15) zs:=by
 have mixed:=ShD.mixed
 have z85:=Tryz.sizeOf88
 obtain ⟨i0,hi0,hsz0⟩:∃ i0,Tryz.prog.info? 88=some i0/\i0.size=15:=by
  have:=(show (Tryz.prog.info? 88).map (·.size)=some 15 from by kernel_rfl)
  obtain ⟨i0,h,e⟩:=Option.map_eq_some_iff.1 this
  exact ⟨i0,h,e⟩
 obtain ⟨A,hA,hs⟩:∃ A:Addr,(if cap=j then some (⟨b,off,none⟩:Addr) else some ⟨b,off+j*15,none⟩)=some A/\Hid (∀ t u,news[t]? =some u->w.drew.cell? (A.add t)=some u):=by
  by_cases h:cap=j
  ·refine ⟨⟨b,off,none⟩,by simp [h],fun t u hu=> ?_⟩
   have h0:news.length=0:=by rw [hl,show n - j=0 by omega,Nat.zero_mul]
   rw [List.length_eq_zero_iff.1 h0] at hu
   simp at hu
  ·refine ⟨⟨b,off+j*15,none⟩,by simp [h],fun t u hu=> ?_⟩
   rw [Addr.add_lit]
   exact hsrc t u hu
 have s1:Hid (news.length=(n - j)*15):=hl
 have s2:Hid (∀ u∈news,u.oneCell'=true):=h1
 have s3:Hid (∀ t,t < news.length->(w.drew.cell? ⟨b,off+i*15+t,none⟩).isSome=true/\w.drew.frozen? ⟨b,off+i*15+t,none⟩=false):=by
  intro t ht
  rw [hl] at ht
  have h5:i*15+(n - j)*15<=n*15:=by omega
  rw [Nat.add_assoc]
  exact ⟨hc (i*15+t) (by omega),hf (i*15+t) (by omega)⟩
 obtain ⟨W1,hW1⟩:∃ W1,W1=w.drew.setCells b (off+i*15) news:=⟨_,rfl⟩
 have hc1:∀ t,t < n*15->(W1.cell? ⟨b,off+t,none⟩).isSome=true:=fun t ht=> by
  rw [hW1]
  exact isSome_setCells b _ _ _ (fun q hq=> (s3 q hq).1) _ (hc t ht)
 have hf1:∀ t,t < n*15->W1.frozen? ⟨b,off+t,none⟩=false:=fun t ht=> by
  rw [hW1,World.frozen?_setCells]; exact hf t ht
 have hcl:∀ ty,(Builtin.clear_ #[85] ty #[.slice (some ⟨b,off+(i+(n - j))*15,none⟩) (n - (i+(n - j))) (cap - (i+(n - j)))]).run Tryz.prog W1=.ok (.tuple #[]) (W1.setCells b (off+(i+(n - j))*15) zs):=
  fun ty=> run_clear_many W1 85 88 ty _ Tryz.underlying85 Tryz.zeroValue88 b (off+(i+(n - j))*15) _ _ (by omega) zs (hz _ Tryz.zeroValue88) hz1
   (fun t ht=> by rw [Nat.add_assoc]; exact hc1 _ (by rw [hzl] at ht; omega)) (fun t ht=> by rw [Nat.add_assoc]; exact hf1 _ (by rw [hzl] at ht; omega))
 have hW:Hid (W1=w.drew.setCells b (off+i*15) news):=hW1
 have hic:i<=cap:=by omega
 have hjc:j<=cap:=by omega
 have X:Hid (W1=w.drew.setCells b (off+i*15) news):=hW1
 clear hW1 hc1 hf1 hc hf hz hz1 h1 hsrc hl hzl
 go_enter Tryz.func69,Tryz.ntmps69
 go_wp2_with fail
 go_region_law_o (refine step_append_room rfl (.tmp 22) (.tmp 25) 85 rfl 88 i0 15 Tryz.underlying85 hi0 hsz0 b off i cap (by simp [Act.eval,Act.put]) A (n - j) (cap - j) news (by simp [Act.eval,Act.put]) s1.out hs.out s2.out (by omega) s3.out ?_; rw [<-hW.out])
 go_wp2
 go_ret
 exact ⟨rfl,by rw [X.out]⟩
set_option maxHeartbeats 4000000 in
theorem ShD.clone_nil (n c:Nat) (w:World):Calls Tryz.prog 70 #[.slice none n c] w fun e w'=> e=.returned (.slice none 0 0)/\w'=w:=by
 have mixed:=ShD.mixed
 have q:=fun w a n c n' c'=> Lib.run_eql_slice_nil (P:=Tryz.prog) w 39 _ a n c n' c' Tryz.underlying39
 go_enter Tryz.func70,Tryz.ntmps70
 go_wp2
 go_ret
 exact ⟨rfl,rfl⟩
theorem ShD.info3:(Tryz.prog.info? 3).map (fun i=> (i.zero,i.size,i.bytes))=some (some (Value.int IntKind.i64 0),1,8):=by kernel_rfl
set_option maxHeartbeats 4000000 in
set_option maxRecDepth 100000 in
theorem ShD.clone_some (a:Addr) (n c:Nat) (vs:List Value) (w:World) (hn:0 < n) (hvl:vs.length=n) (hvs:∀ j v,vs[j]? =some v->w.cell? (a.add j)=some v) (h1v:∀ v∈vs,v.oneCell'=true) (hbig:n<=4294967296):
  Calls Tryz.prog 70 #[.slice (some a) n c] w fun e w'=> e=.returned (.slice (some ⟨w.heap.size+1,0,none⟩) n (grownCap (w.alloc (.cells #[] 3)) n 0 3))/\
   w'=(w.alloc (.cells #[] 3)).drew.alloc (.cells (([]++vs:List Value).toArray++Builtin.zeroCells (Value.int .i64 0).cells (grownCap (w.alloc (.cells #[] 3)) n 0 3 - n)) 3):=by
 have mixed:=ShD.mixed
 have q:=fun w a n c n' c'=> Lib.run_eql_slice_nil (P:=Tryz.prog) w 39 _ a n c n' c' Tryz.underlying39
 obtain ⟨i0,hi0,hz0,hzs,hzb⟩:=info_parts ShD.info3
 have hsrc:Src Tryz.prog i0.size 39 (.slice (some a) n c) n vs (w.alloc (.cells #[] 3)):=by
  rw [hzs]
  exact Src.ofSlice _ Tryz.underlying39 a n c vs (by omega) (fun j u hj=> Lib.cell?_alloc_some _ (hvs j u hj)) h1v
 have hold:(Builtin.firstCells i0.size 0 (.slice (some ⟨w.heap.size,0,none⟩) 0 0)).run Tryz.prog (w.alloc (.cells #[] 3)).drew=.ok ([]:List Value).toArray (w.alloc (.cells #[] 3)).drew:=by
  rw [hzs]
  exact run_firstCells_some _ 1 0 ⟨w.heap.size,0,none⟩ 0 0 [] (by simp) (fun j v hj=> by simp at hj)
 have hrun:∀ ty,(Builtin.append_ #[39,39] ty #[.slice (some ⟨w.heap.size,0,none⟩) 0 0,.slice (some a) n c]).run Tryz.prog (w.alloc (.cells #[] 3))=_:=fun ty=>
  run_append_grow_src (w.alloc (.cells #[] 3)) 39 39 ty 3 i0 _ Tryz.underlying39 hi0 hz0 (some ⟨w.heap.size,0,none⟩) 0 0 [] hold _ n vs hsrc (by omega) (by omega) (by rw [hzb]; exact growslice_fits (by omega) (by omega))
 rw [Nat.zero_add] at hrun
 clear hvs
 go_enter Tryz.func70,Tryz.ntmps70
 go_wp2_with (at_builtin; refine Lib.wpList_append_run _ rfl _ _ _ _ rfl _ _ rfl rfl _ _ (hrun _) ?_)
 go_ret
 exact ⟨by simp,rfl⟩
set_option maxHeartbeats 4000000 in
set_option maxRecDepth 100000 in
theorem ShD.clone_empty (a:Addr) (c:Nat) (w:World):
  Calls Tryz.prog 70 #[.slice (some a) 0 c] w fun e w'=> e=.returned (.slice (some ⟨w.heap.size,0,none⟩) 0 0)/\w'=w.alloc (.cells #[] 3):=by
 have mixed:=ShD.mixed
 have q:=fun w a n c n' c'=> Lib.run_eql_slice_nil (P:=Tryz.prog) w 39 _ a n c n' c' Tryz.underlying39
 go_enter Tryz.func70,Tryz.ntmps70
 go_wp2
 go_ret
 exact ⟨rfl,rfl⟩
end Go.Proofs
