/-
  DERIVED: THE SHELF's CONTRACTS AT THIS DUMP, IN PLAIN WORDS (tools/lay-plain.mjs out of 'TrydShelf.lean', which tools/lay-shelf.mjs wrote): THE SAME DECLARATIONS UNDER THE SAME NAMES: 'import', 'namespace', 'open', 'def', 'theorem' AND NOTHING ELSE: no command of the shelf's: FOR A HAND-IN. Each laying: the table of numbers ('.._ren') and one theorem, a field a fact of the dump's own or the kernel's comparison; each contract: ONE APPLICATION.
-/
import Derived.Shelf.Strings.SlTrimAscii
import Derived.Shelf.Strings.Count
import Derived.Test.YtkdfhgilpnohpaaDoorProg
namespace Go.Proofs
open Go.Shelf
def Tryd.lays160_ren : Go.Shelf.Ren := ⟨fun | 160 => 218 | 232 => 256 | 231 => 255 | 227 => 257 | 234 => 259 | 233 => 258 | 236 => 261 | 235 => 260 | 228 => 268 | 271 => 271 | 151 => 270 | 197 => 269 | 120 => 278 | 152 => 277 | 260 => 276 | 137 => 281 | 119 => 282 | 224 => 274 | 225 => 273 | 217 => 272 | 266 => 279 | n => n, fun | 9 => 9 | 4 => 4 | 3 => 3 | 5 => 5 | 117 => 213 | 116 => 212 | 0 => 0 | 124 => 216 | 21 => 21 | 105 => 221 | 46 => 218 | 119 => 228 | 139 => 231 | 138 => 230 | n => n, fun | 3 => 1 | 4 => 2 | n => n⟩
theorem Tryd.lays160 : Go.Proofs.Lays.n160 Tryd.prog Tryd.lays160_ren := {
  mixed := by kernel_rfl
  f119 := Tryd.func282.trans (congrArg some (by kernel_rfl))
  f120 := Tryd.func278.trans (congrArg some (by kernel_rfl))
  f137 := Tryd.func281.trans (congrArg some (by kernel_rfl))
  f151 := Tryd.func270.trans (congrArg some (by kernel_rfl))
  f152 := Tryd.func277.trans (congrArg some (by kernel_rfl))
  f160 := Tryd.func218.trans (congrArg some (by kernel_rfl))
  f197 := Tryd.func269.trans (congrArg some (by kernel_rfl))
  f217 := Tryd.func272.trans (congrArg some (by kernel_rfl))
  f224 := Tryd.func274.trans (congrArg some (by kernel_rfl))
  f225 := Tryd.func273.trans (congrArg some (by kernel_rfl))
  f227 := Tryd.func257.trans (congrArg some (by kernel_rfl))
  f228 := Tryd.func268.trans (congrArg some (by kernel_rfl))
  f231 := Tryd.func255.trans (congrArg some (by kernel_rfl))
  f232 := Tryd.func256.trans (congrArg some (by kernel_rfl))
  f233 := Tryd.func258.trans (congrArg some (by kernel_rfl))
  f234 := Tryd.func259.trans (congrArg some (by kernel_rfl))
  f235 := Tryd.func260.trans (congrArg some (by kernel_rfl))
  f236 := Tryd.func261.trans (congrArg some (by kernel_rfl))
  f260 := Tryd.func276.trans (congrArg some (by kernel_rfl))
  f266 := Tryd.func279.trans (congrArg some (by kernel_rfl))
  f271 := Tryd.func271.trans (congrArg some (by kernel_rfl))
  t0 := Tryd.underlying0
  a0 := Tryd.isAgg0
  z0 := Tryd.sizeOf0
  v0 := Tryd.zeroValue0
  t3 := Tryd.underlying3
  a3 := Tryd.isAgg3
  z3 := Tryd.sizeOf3
  v3 := Tryd.zeroValue3
  t4 := Tryd.underlying4
  a4 := Tryd.isAgg4
  z4 := Tryd.sizeOf4
  v4 := Tryd.zeroValue4
  t5 := Tryd.underlying5
  a5 := Tryd.isAgg5
  z5 := Tryd.sizeOf5
  v5 := Tryd.zeroValue5
  t9 := Tryd.underlying9
  a9 := Tryd.isAgg9
  z9 := Tryd.sizeOf9
  v9 := Tryd.zeroValue9
  t21 := Tryd.underlying21
  a21 := Tryd.isAgg21
  z21 := Tryd.sizeOf21
  v21 := Tryd.zeroValue21
  t46 := Tryd.underlying218
  a46 := Tryd.isAgg218
  z46 := Tryd.sizeOf218
  v46 := Tryd.zeroValue218
  t105 := Tryd.underlying221
  a105 := Tryd.isAgg221
  z105 := Tryd.sizeOf221
  v105 := Tryd.zeroValue221
  t116 := Tryd.underlying212
  a116 := Tryd.isAgg212
  z116 := Tryd.sizeOf212
  t117 := Tryd.underlying213
  a117 := Tryd.isAgg213
  z117 := Tryd.sizeOf213
  v117 := Tryd.zeroValue213
  t119 := Tryd.underlying228
  a119 := Tryd.isAgg228
  z119 := Tryd.sizeOf228
  t124 := Tryd.underlying216
  a124 := Tryd.isAgg216
  z124 := Tryd.sizeOf216
  v124 := Tryd.zeroValue216
  t138 := Tryd.underlying230
  a138 := Tryd.isAgg230
  z138 := Tryd.sizeOf230
  v138 := Tryd.zeroValue230
  t139 := Tryd.underlying231
  a139 := Tryd.isAgg231
  z139 := Tryd.sizeOf231
  v139 := Tryd.zeroValue231
  g3 := by kernel_rfl
  g4 := by kernel_rfl }
open Go.RowKit in
/-- strings.Trim at an ASCII cutset. -/
theorem Tryd.strings_Trim_ascii (s cutset : ByteArray) (w : World) (hs : s.size ≤ 9223372036854775807) (hcs : cutset.size < 4294967281) (hascii : ∀ (j : Nat) b, cutset.data.toList[j]? = some b → b.toNat < 128) :
    Calls Tryd.prog 218 #[.string s, .string cutset] w fun e w' => e = .returned (.string ⟨(Lib.trimS s.data.toList cutset.data.toList).toArray⟩) ∧ Below w.heap.size w w' := Any.strings_Trim_laid Tryd.lays160 (by kernel_rfl) s cutset w hs hcs hascii
def Tryd.lays138_ren : Go.Shelf.Ren := ⟨fun | 138 => 173 | 195 => 224 | 218 => 225 | 143 => 226 | 219 => 263 | 217 => 272 | 225 => 273 | 224 => 274 | 267 => 275 | 266 => 279 | 314 => 280 | n => n, fun | 9 => 9 | 3 => 3 | 4 => 4 | 5 => 5 | 0 => 0 | 46 => 218 | 146 => 226 | 51 => 225 | n => n, fun | 1 => 0 | n => n⟩
theorem Tryd.lays138 : Go.Proofs.Lays.n138 Tryd.prog Tryd.lays138_ren := {
  mixed := by kernel_rfl
  f138 := Tryd.func173.trans (congrArg some (by kernel_rfl))
  f143 := Tryd.func226.trans (congrArg some (by kernel_rfl))
  f195 := Tryd.func224.trans (congrArg some (by kernel_rfl))
  f217 := Tryd.func272.trans (congrArg some (by kernel_rfl))
  f218 := Tryd.func225.trans (congrArg some (by kernel_rfl))
  f219 := Tryd.func263.trans (congrArg some (by kernel_rfl))
  f224 := Tryd.func274.trans (congrArg some (by kernel_rfl))
  f225 := Tryd.func273.trans (congrArg some (by kernel_rfl))
  f266 := Tryd.func279.trans (congrArg some (by kernel_rfl))
  f267 := Tryd.func275.trans (congrArg some (by kernel_rfl))
  f314 := Tryd.func280.trans (congrArg some (by kernel_rfl))
  t0 := Tryd.underlying0
  a0 := Tryd.isAgg0
  z0 := Tryd.sizeOf0
  v0 := Tryd.zeroValue0
  t3 := Tryd.underlying3
  a3 := Tryd.isAgg3
  z3 := Tryd.sizeOf3
  v3 := Tryd.zeroValue3
  t4 := Tryd.underlying4
  a4 := Tryd.isAgg4
  z4 := Tryd.sizeOf4
  v4 := Tryd.zeroValue4
  t5 := Tryd.underlying5
  a5 := Tryd.isAgg5
  z5 := Tryd.sizeOf5
  v5 := Tryd.zeroValue5
  t9 := Tryd.underlying9
  a9 := Tryd.isAgg9
  z9 := Tryd.sizeOf9
  v9 := Tryd.zeroValue9
  t46 := Tryd.underlying218
  a46 := Tryd.isAgg218
  z46 := Tryd.sizeOf218
  v46 := Tryd.zeroValue218
  t51 := Tryd.underlying225
  a51 := Tryd.isAgg225
  z51 := Tryd.sizeOf225
  v51 := Tryd.zeroValue225
  t146 := Tryd.underlying226
  a146 := Tryd.isAgg226
  z146 := Tryd.sizeOf226
  v146 := Tryd.zeroValue226
  g1 := by kernel_rfl }
open Go.RowKit Go.Lib in
/-- strings.Count at one byte. -/
theorem Tryd.strings_Count_one (s : ByteArray) (c : UInt8) (w : World) :
    Calls Tryd.prog 173 #[.string s, .string ⟨#[c]⟩] w fun e w' => e = .returned (.int .i64 (Lib.countByte s.data.toList c)) ∧ w' = w := Any.strings_Count_one Tryd.lays138 s c w
end Go.Proofs
