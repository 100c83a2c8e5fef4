/-
  DERIVED: THE SHELF's CONTRACTS AT THIS DUMP, IN PLAIN WORDS (tools/lay-plain.mjs out of 'TryzShelf.lean', which tools/lay-shelf.mjs wrote): THE SAME DECLARATIONS UNDER THE SAME NAMES: 'import', 'namespace', 'open', 'def', 'theorem' AND NOTHING ELSE: no command of the shelf's: FOR A HAND-IN. Each laying: the table of numbers ('.._ren') and one theorem, a field a fact of the dump's own or the kernel's comparison; each contract: ONE APPLICATION.
-/
import Derived.Test.YtagkjofpncpcpaaGreatDoorProg
import Derived.Shelf.Strings.OnBuilder
import Derived.Shelf.Strings.Trim
import Derived.Shelf.Strings.Search3
import Derived.Shelf.Strings.Fields
import Derived.Shelf.Slices.Turned
namespace Go.Proofs
open Go.Shelf
def Tryz.lays162_ren:Go.Shelf.Ren:=⟨fun | 162=>167 | 232=>235 | 227=>183 | 234=>236 | 236=>237 | 228=>250 | 271=>277 | 151=>251 | 120=>295 | 197=>130 | 152=>286 | 260=>192 | 137=>283 | 119=>300 | 224=>229 | 225=>228 | 217=>227 | 266=>273 | n=>n,fun | 9=>9 | 4=>4 | 3=>3 | 5=>5 | 117=>207 | 116=>206 | 0=>0 | 124=>210 | 21=>21 | 105=>144 | 46=>168 | 119=>188 | 139=>251 | 138=>250 | n=>n,fun | 3=>3 | 4=>4 | n=>n⟩
theorem Tryz.lays162:Go.Proofs.Lays.n162 Tryz.prog Tryz.lays162_ren:={
 mixed:=by kernel_rfl
 f119:=Tryz.func300.trans (congrArg some (by kernel_rfl))
 f120:=Tryz.func295.trans (congrArg some (by kernel_rfl))
 f137:=Tryz.func283.trans (congrArg some (by kernel_rfl))
 f151:=Tryz.func251.trans (congrArg some (by kernel_rfl))
 f152:=Tryz.func286.trans (congrArg some (by kernel_rfl))
 f162:=Tryz.func167.trans (congrArg some (by kernel_rfl))
 f197:=Tryz.func130.trans (congrArg some (by kernel_rfl))
 f217:=Tryz.func227.trans (congrArg some (by kernel_rfl))
 f224:=Tryz.func229.trans (congrArg some (by kernel_rfl))
 f225:=Tryz.func228.trans (congrArg some (by kernel_rfl))
 f227:=Tryz.func183.trans (congrArg some (by kernel_rfl))
 f228:=Tryz.func250.trans (congrArg some (by kernel_rfl))
 f232:=Tryz.func235.trans (congrArg some (by kernel_rfl))
 f234:=Tryz.func236.trans (congrArg some (by kernel_rfl))
 f236:=Tryz.func237.trans (congrArg some (by kernel_rfl))
 f260:=Tryz.func192.trans (congrArg some (by kernel_rfl))
 f266:=Tryz.func273.trans (congrArg some (by kernel_rfl))
 f271:=Tryz.func277.trans (congrArg some (by kernel_rfl))
 t0:=Tryz.underlying0
 a0:=Tryz.isAgg0
 z0:=Tryz.sizeOf0
 v0:=Tryz.zeroValue0
 t3:=Tryz.underlying3
 a3:=Tryz.isAgg3
 z3:=Tryz.sizeOf3
 v3:=Tryz.zeroValue3
 t4:=Tryz.underlying4
 a4:=Tryz.isAgg4
 z4:=Tryz.sizeOf4
 v4:=Tryz.zeroValue4
 t5:=Tryz.underlying5
 a5:=Tryz.isAgg5
 z5:=Tryz.sizeOf5
 v5:=Tryz.zeroValue5
 t9:=Tryz.underlying9
 a9:=Tryz.isAgg9
 z9:=Tryz.sizeOf9
 v9:=Tryz.zeroValue9
 t21:=Tryz.underlying21
 a21:=Tryz.isAgg21
 z21:=Tryz.sizeOf21
 v21:=Tryz.zeroValue21
 t46:=Tryz.underlying168
 a46:=Tryz.isAgg168
 z46:=Tryz.sizeOf168
 v46:=Tryz.zeroValue168
 t105:=Tryz.underlying144
 a105:=Tryz.isAgg144
 z105:=Tryz.sizeOf144
 v105:=Tryz.zeroValue144
 t116:=Tryz.underlying206
 a116:=Tryz.isAgg206
 z116:=Tryz.sizeOf206
 t117:=Tryz.underlying207
 a117:=Tryz.isAgg207
 z117:=Tryz.sizeOf207
 v117:=Tryz.zeroValue207
 t119:=Tryz.underlying188
 a119:=Tryz.isAgg188
 z119:=Tryz.sizeOf188
 t124:=Tryz.underlying210
 a124:=Tryz.isAgg210
 z124:=Tryz.sizeOf210
 v124:=Tryz.zeroValue210
 t138:=Tryz.underlying250
 a138:=Tryz.isAgg250
 z138:=Tryz.sizeOf250
 v138:=Tryz.zeroValue250
 t139:=Tryz.underlying251
 a139:=Tryz.isAgg251
 z139:=Tryz.sizeOf251
 v139:=Tryz.zeroValue251
 g3:=by kernel_rfl
 g4:=by kernel_rfl }
open Go.RowKit in
theorem Tryz.strings_TrimRight_one (s:ByteArray) (c:UInt8) (hc:c.toNat<128) (w:World) (hs:s.size≤9223372036854775807) :
 Calls Tryz.prog 167 #[.string s,.string ⟨#[c]⟩] w fun e w'=>e=.returned (.string ⟨(Lib.trimRightB s.data.toList c).toArray⟩)∧w'=w:=Any.strings_TrimRight_one Tryz.lays162 s c hc w hs
def Tryz.lays157_ren:Go.Shelf.Ren:=⟨fun | 157=>110 | 229=>171 | 199=>172 | 261=>240 | 311=>278 | 312=>279 | n=>n,fun | 9=>9 | 31=>72 | 3=>3 | 5=>5 | 4=>4 | 119=>188 | 0=>0 | 40=>190 | 152=>237 | 21=>21 | 154=>239 | 51=>231 | 141=>241 | 196=>271 | 193=>268 | 198=>274 | 49=>272 | 194=>269 | 201=>277 | 226=>285 | 46=>168 | 227=>286 | n=>n,fun | 0=>0 | 6=>2 | n=>n⟩
theorem Tryz.lays157:Go.Proofs.Lays.n157 Tryz.prog Tryz.lays157_ren:={
 mixed:=by kernel_rfl
 f157:=Tryz.func110.trans (congrArg some (by kernel_rfl))
 f199:=Tryz.func172.trans (congrArg some (by kernel_rfl))
 f229:=Tryz.func171.trans (congrArg some (by kernel_rfl))
 f261:=Tryz.func240.trans (congrArg some (by kernel_rfl))
 f311:=Tryz.func278.trans (congrArg some (by kernel_rfl))
 f312:=Tryz.func279.trans (congrArg some (by kernel_rfl))
 t0:=Tryz.underlying0
 a0:=Tryz.isAgg0
 z0:=Tryz.sizeOf0
 v0:=Tryz.zeroValue0
 t3:=Tryz.underlying3
 a3:=Tryz.isAgg3
 z3:=Tryz.sizeOf3
 v3:=Tryz.zeroValue3
 t4:=Tryz.underlying4
 a4:=Tryz.isAgg4
 z4:=Tryz.sizeOf4
 v4:=Tryz.zeroValue4
 t5:=Tryz.underlying5
 a5:=Tryz.isAgg5
 z5:=Tryz.sizeOf5
 v5:=Tryz.zeroValue5
 t9:=Tryz.underlying9
 a9:=Tryz.isAgg9
 z9:=Tryz.sizeOf9
 v9:=Tryz.zeroValue9
 t21:=Tryz.underlying21
 a21:=Tryz.isAgg21
 z21:=Tryz.sizeOf21
 v21:=Tryz.zeroValue21
 t31:=Tryz.underlying72
 a31:=Tryz.isAgg72
 z31:=Tryz.sizeOf72
 v31:=Tryz.zeroValue72
 t40:=Tryz.underlying190
 a40:=Tryz.isAgg190
 z40:=Tryz.sizeOf190
 v40:=Tryz.zeroValue190
 t46:=Tryz.underlying168
 a46:=Tryz.isAgg168
 z46:=Tryz.sizeOf168
 v46:=Tryz.zeroValue168
 t49:=Tryz.underlying272
 a49:=Tryz.isAgg272
 z49:=Tryz.sizeOf272
 v49:=Tryz.zeroValue272
 t51:=Tryz.underlying231
 a51:=Tryz.isAgg231
 z51:=Tryz.sizeOf231
 v51:=Tryz.zeroValue231
 t119:=Tryz.underlying188
 a119:=Tryz.isAgg188
 z119:=Tryz.sizeOf188
 t141:=Tryz.underlying241
 a141:=Tryz.isAgg241
 z141:=Tryz.sizeOf241
 v141:=Tryz.zeroValue241
 t152:=Tryz.underlying237
 a152:=Tryz.isAgg237
 z152:=Tryz.sizeOf237
 v152:=Tryz.zeroValue237
 t154:=Tryz.underlying239
 a154:=Tryz.isAgg239
 z154:=Tryz.sizeOf239
 v154:=Tryz.zeroValue239
 t193:=Tryz.underlying268
 a193:=Tryz.isAgg268
 z193:=Tryz.sizeOf268
 v193:=Tryz.zeroValue268
 t194:=Tryz.underlying269
 a194:=Tryz.isAgg269
 z194:=Tryz.sizeOf269
 v194:=Tryz.zeroValue269
 t196:=Tryz.underlying271
 a196:=Tryz.isAgg271
 z196:=Tryz.sizeOf271
 v196:=Tryz.zeroValue271
 t198:=Tryz.underlying274
 a198:=Tryz.isAgg274
 z198:=Tryz.sizeOf274
 v198:=Tryz.zeroValue274
 t201:=Tryz.underlying277
 a201:=Tryz.isAgg277
 z201:=Tryz.sizeOf277
 v201:=Tryz.zeroValue277
 t226:=Tryz.underlying285
 a226:=Tryz.isAgg285
 z226:=Tryz.sizeOf285
 v226:=Tryz.zeroValue285
 t227:=Tryz.underlying286
 a227:=Tryz.isAgg286
 z227:=Tryz.sizeOf286
 v227:=Tryz.zeroValue286
 g0:=by kernel_rfl
 g6:=by kernel_rfl }
open Go.RowKit Go.Lib in
theorem Tryz.strings_Fields (s : ByteArray) (w : World) (hs : s.size < 4294967281) (hascii : ∀ (j : Nat) b, s.data.toList[j]? = some b → b.toNat < 128) (htab : Lib.TabIs Tryz.prog w "strings.asciiSpace" .u8 Lib.asciiSpaceTab) :
 Calls Tryz.prog 110 #[.string s] w fun e w' =>
  e=.returned (.slice (some ⟨w.heap.size,0,none⟩) (Lib.fields s.data.toList).length (Lib.fields s.data.toList).length)∧w'=w.alloc (.cells ((Lib.fields s.data.toList).map fun l=>Value.string ⟨l.toArray⟩).toArray 9):=Any.strings_Fields Tryz.lays157 (by kernel_rfl) (by kernel_rfl) s w hs hascii htab
def Tryz.lays110_ren:Go.Shelf.Ren:=⟨fun | 110=>44 | 109=>109 | n=>n,fun | 31=>72 | 9=>9 | 4=>4 | 3=>3 | 0=>0 | n=>n,fun | n=>n⟩
theorem Tryz.lays110:Go.Proofs.Lays.n110 Tryz.prog Tryz.lays110_ren:={
 mixed:=by kernel_rfl
 f109:=Tryz.func109.trans (congrArg some (by kernel_rfl))
 f110:=Tryz.func44.trans (congrArg some (by kernel_rfl))
 t0:=Tryz.underlying0
 a0:=Tryz.isAgg0
 z0:=Tryz.sizeOf0
 v0:=Tryz.zeroValue0
 t3:=Tryz.underlying3
 a3:=Tryz.isAgg3
 z3:=Tryz.sizeOf3
 v3:=Tryz.zeroValue3
 t4:=Tryz.underlying4
 a4:=Tryz.isAgg4
 z4:=Tryz.sizeOf4
 v4:=Tryz.zeroValue4
 t9:=Tryz.underlying9
 a9:=Tryz.isAgg9
 z9:=Tryz.sizeOf9
 v9:=Tryz.zeroValue9
 t31:=Tryz.underlying72
 a31:=Tryz.isAgg72
 z31:=Tryz.sizeOf72
 v31:=Tryz.zeroValue72 }
open Go.Lib in
theorem Tryz.slices_Contains_string (b off n c:Nat) (zs:List ByteArray) (x:ByteArray) (w:World) (hz:n≤zs.length) (hbig:n≤9223372036854775807) (hc:∀ j,j<zs.length→w.cell? ⟨b,off+j,none⟩=some (.string (zs.getD j ByteArray.empty))) :
 Calls Tryz.prog 44 #[.slice (some ⟨b,off,none⟩) n c,.string x] w fun e w'=>e=.returned (.bool (Lib.containsS (zs.take n) x))∧w'=w:=Any.slices_Contains_string Tryz.lays110 b off n c zs x w hz hbig hc
end Go.Proofs
