/- The law FnExecuteKind of the given program: for every input the call returns true, and each argument reads afterwards as it read before. No conditions. (Part 3 of 3; the last part holds the theorem.) -/
import Derived.Shelf.LaysM
import Derived.Shelf.Strings.Split
import Derived.Shelf.Strings.SplitShaped
import Derived.Shelf.Strings.Cut
import Derived.Shelf.Strings.OnBuilder
import Derived.Shelf.Strconv.Itoa3
import Derived.Shelf.Strconv.Atoi
import Derived.Shelf.Strings.SlTrimAscii
import Derived.Test.YtiobedekgnfjcaaGreatDoorProg
import Derived.Test.YtiobedekgnfjcaaGreatDoorMFnExecuteKind0
import Derived.Lib.SplitLaws
import Derived.Lib.AtoiErrMem
import Derived.WalkKit
import Derived.ProofKit
import Derived.Deep.LoopGhost
import Derived.Shelf.Abstract
import Derived.Deep.RegionHeld3
import Derived.Test.YtiobedekgnfjcaaGreatDoorMFnExecuteKind1
import Derived.Test.YtiobedekgnfjcaaGreatDoorRows
import Derived.OpenShut
import Derived.ShutString
import Derived.ChangeOld
import Derived.Below
import Derived.SizedLaws
import Derived.LaidMore
import Derived.Lay
import Derived.LaidLaws
import Derived.SevenTiedAt
import Derived.Test.YtiobedekgnfjcaaGreatDoorTie
import Derived.Test.YtiobedekgnfjcaaGreatDoorCards
namespace Go.Proofs
open Go.Shelf
def Tryz.lays156_ren : Go.Shelf.Ren := ⟨fun | 156 => 92 | 165 => 162 | 166 => 163 | 169 => 164 | 240 => 223 | 241 => 224 | 276 => 270 | 277 => 271 | n => n, fun | 31 => 46 | 9 => 9 | 3 => 3 | 4 => 4 | 0 => 0 | 20 => 20 | 72 => 123 | 76 => 88 | 70 => 121 | 37 => 22 | 75 => 87 | 127 => 155 | 164 => 188 | 5 => 5 | 80 => 125 | n => n, fun | n => n⟩
theorem Tryz.lays156 : Go.Proofs.Lays.n156 Tryz.prog Tryz.lays156_ren := {
  mixed := by kernel_rfl
  f156 := Tryz.func92.trans (congrArg some (by kernel_rfl))
  f165 := Tryz.func162.trans (congrArg some (by kernel_rfl))
  f166 := Tryz.func163.trans (congrArg some (by kernel_rfl))
  f169 := Tryz.func164.trans (congrArg some (by kernel_rfl))
  f240 := Tryz.func223.trans (congrArg some (by kernel_rfl))
  f241 := Tryz.func224.trans (congrArg some (by kernel_rfl))
  f276 := Tryz.func270.trans (congrArg some (by kernel_rfl))
  f277 := Tryz.func271.trans (congrArg some (by kernel_rfl))
  t0 := Tryz.underlying0
  a0 := Tryz.isAgg0
  z0 := Tryz.sizeOf0
  v0 := Tryz.zeroValue0
  t3 := Tryz.underlying3
  a3 := Tryz.isAgg3
  z3 := Tryz.sizeOf3
  v3 := Tryz.zeroValue3
  t4 := Tryz.underlying4
  a4 := Tryz.isAgg4
  z4 := Tryz.sizeOf4
  v4 := Tryz.zeroValue4
  t9 := Tryz.underlying9
  a9 := Tryz.isAgg9
  z9 := Tryz.sizeOf9
  v9 := Tryz.zeroValue9
  t20 := Tryz.underlying20
  a20 := Tryz.isAgg20
  z20 := Tryz.sizeOf20
  v20 := Tryz.zeroValue20
  t31 := Tryz.underlying46
  a31 := Tryz.isAgg46
  z31 := Tryz.sizeOf46
  v31 := Tryz.zeroValue46
  t37 := Tryz.underlying22
  a37 := Tryz.isAgg22
  z37 := Tryz.sizeOf22
  v37 := Tryz.zeroValue22
  t70 := Tryz.underlying121
  a70 := Tryz.isAgg121
  z70 := Tryz.sizeOf121
  v70 := Tryz.zeroValue121
  t72 := Tryz.underlying123
  a72 := Tryz.isAgg123
  z72 := Tryz.sizeOf123
  v72 := Tryz.zeroValue123
  t75 := Tryz.underlying87
  a75 := Tryz.isAgg87
  z75 := Tryz.sizeOf87
  v75 := Tryz.zeroValue87
  t76 := Tryz.underlying88
  a76 := Tryz.isAgg88
  z76 := Tryz.sizeOf88
  v76 := Tryz.zeroValue88
  t127 := Tryz.underlying155
  a127 := Tryz.isAgg155
  z127 := Tryz.sizeOf155
  v127 := Tryz.zeroValue155
  t164 := Tryz.underlying188
  a164 := Tryz.isAgg188
  z164 := Tryz.sizeOf188
  v164 := Tryz.zeroValue188 }
theorem Tryz.Builder_Extra_156 : Builder.Extra Tryz.prog Tryz.lays156_ren := {
  sizeBuilder := by kernel_rfl
  liesBuilder := by kernel_rfl
  t5 := Tryz.underlying5
  a5 := Tryz.isAgg5
  z5 := Tryz.sizeOf5
  v5 := Tryz.zeroValue5
  infoByte := by kernel_rfl
  cellsByte := by kernel_rfl
  sizeByte := by kernel_rfl
  neB5 := by decide }
open Go.RowKit in
theorem Tryz.strings_Join (bk o c : Nat) (xs : List ByteArray) (sep : ByteArray) (w : World) (hcells : ∀ (j : Nat) x, xs[j]? = some x → w.cell? ⟨bk, o + j, none⟩ = some (.string x)) (hbk : bk < w.heap.size) (hN : xs.length ≤ 140737488355328) (hcap : xs.length ≤ c) (hlen : (Lib.join (xs.map (·.data.toList)) sep.data.toList).length ≤ 140737488355328) :
    Calls Tryz.prog 92 #[.slice (some ⟨bk, o, none⟩) xs.length c, .string sep] w fun e w' => e = .returned (.string ⟨(Lib.join (xs.map (·.data.toList)) sep.data.toList).toArray⟩) ∧ Below w.heap.size w w' := Any.strings_Join Tryz.lays156 Tryz.Builder_Extra_156 bk o c xs sep w hcells hbk hN hcap hlen
def Tryz.lays160_ren : Go.Shelf.Ren := ⟨fun | 160 => 90 | 232 => 154 | 231 => 153 | 227 => 155 | 234 => 157 | 233 => 156 | 236 => 159 | 235 => 158 | 228 => 215 | 271 => 217 | 151 => 216 | 197 => 123 | 120 => 266 | 152 => 265 | 260 => 193 | 137 => 284 | 119 => 285 | 224 => 196 | 225 => 195 | 217 => 194 | 266 => 239 | n => n, fun | 9 => 9 | 4 => 4 | 3 => 3 | 5 => 5 | 117 => 116 | 116 => 115 | 0 => 0 | 124 => 119 | 21 => 21 | 105 => 101 | 46 => 140 | 119 => 162 | 139 => 165 | 138 => 164 | n => n, fun | 3 => 2 | 4 => 3 | n => n⟩
theorem Tryz.lays160 : Go.Proofs.Lays.n160 Tryz.prog Tryz.lays160_ren := {
  mixed := by kernel_rfl
  f119 := Tryz.func285.trans (congrArg some (by kernel_rfl))
  f120 := Tryz.func266.trans (congrArg some (by kernel_rfl))
  f137 := Tryz.func284.trans (congrArg some (by kernel_rfl))
  f151 := Tryz.func216.trans (congrArg some (by kernel_rfl))
  f152 := Tryz.func265.trans (congrArg some (by kernel_rfl))
  f160 := Tryz.func90.trans (congrArg some (by kernel_rfl))
  f197 := Tryz.func123.trans (congrArg some (by kernel_rfl))
  f217 := Tryz.func194.trans (congrArg some (by kernel_rfl))
  f224 := Tryz.func196.trans (congrArg some (by kernel_rfl))
  f225 := Tryz.func195.trans (congrArg some (by kernel_rfl))
  f227 := Tryz.func155.trans (congrArg some (by kernel_rfl))
  f228 := Tryz.func215.trans (congrArg some (by kernel_rfl))
  f231 := Tryz.func153.trans (congrArg some (by kernel_rfl))
  f232 := Tryz.func154.trans (congrArg some (by kernel_rfl))
  f233 := Tryz.func156.trans (congrArg some (by kernel_rfl))
  f234 := Tryz.func157.trans (congrArg some (by kernel_rfl))
  f235 := Tryz.func158.trans (congrArg some (by kernel_rfl))
  f236 := Tryz.func159.trans (congrArg some (by kernel_rfl))
  f260 := Tryz.func193.trans (congrArg some (by kernel_rfl))
  f266 := Tryz.func239.trans (congrArg some (by kernel_rfl))
  f271 := Tryz.func217.trans (congrArg some (by kernel_rfl))
  t0 := Tryz.underlying0
  a0 := Tryz.isAgg0
  z0 := Tryz.sizeOf0
  v0 := Tryz.zeroValue0
  t3 := Tryz.underlying3
  a3 := Tryz.isAgg3
  z3 := Tryz.sizeOf3
  v3 := Tryz.zeroValue3
  t4 := Tryz.underlying4
  a4 := Tryz.isAgg4
  z4 := Tryz.sizeOf4
  v4 := Tryz.zeroValue4
  t5 := Tryz.underlying5
  a5 := Tryz.isAgg5
  z5 := Tryz.sizeOf5
  v5 := Tryz.zeroValue5
  t9 := Tryz.underlying9
  a9 := Tryz.isAgg9
  z9 := Tryz.sizeOf9
  v9 := Tryz.zeroValue9
  t21 := Tryz.underlying21
  a21 := Tryz.isAgg21
  z21 := Tryz.sizeOf21
  v21 := Tryz.zeroValue21
  t46 := Tryz.underlying140
  a46 := Tryz.isAgg140
  z46 := Tryz.sizeOf140
  v46 := Tryz.zeroValue140
  t105 := Tryz.underlying101
  a105 := Tryz.isAgg101
  z105 := Tryz.sizeOf101
  v105 := Tryz.zeroValue101
  t116 := Tryz.underlying115
  a116 := Tryz.isAgg115
  z116 := Tryz.sizeOf115
  t117 := Tryz.underlying116
  a117 := Tryz.isAgg116
  z117 := Tryz.sizeOf116
  v117 := Tryz.zeroValue116
  t119 := Tryz.underlying162
  a119 := Tryz.isAgg162
  z119 := Tryz.sizeOf162
  t124 := Tryz.underlying119
  a124 := Tryz.isAgg119
  z124 := Tryz.sizeOf119
  v124 := Tryz.zeroValue119
  t138 := Tryz.underlying164
  a138 := Tryz.isAgg164
  z138 := Tryz.sizeOf164
  v138 := Tryz.zeroValue164
  t139 := Tryz.underlying165
  a139 := Tryz.isAgg165
  z139 := Tryz.sizeOf165
  v139 := Tryz.zeroValue165
  g3 := by kernel_rfl
  g4 := by kernel_rfl }
open Go.RowKit in
theorem Tryz.strings_Trim (s cutset : ByteArray) (w : World) (hs : s.size ≤ 9223372036854775807) (hcs : cutset.size < 4294967281) (hascii : ∀ (j : Nat) b, cutset.data.toList[j]? = some b → b.toNat < 128) :
    Calls Tryz.prog 90 #[.string s, .string cutset] w fun e w' => e = .returned (.string ⟨(Lib.trimS s.data.toList cutset.data.toList).toArray⟩) ∧ Below w.heap.size w w' := Any.strings_Trim_laid Tryz.lays160 (by kernel_rfl) s cutset w hs hcs hascii
def Tryz.lays172_ren : Go.Shelf.Ren := ⟨fun | 172 => 91 | 244 => 160 | 245 => 161 | 247 => 218 | 279 => 219 | 280 => 220 | 281 => 221 | 282 => 222 | 287 => 267 | 316 => 268 | 171 => 30 | 205 => 269 | 321 => 286 | 322 => 287 | 243 => 55 | 246 => 96 | 283 => 167 | 284 => 168 | 285 => 169 | 286 => 170 | 129 => 226 | 317 => 225 | 318 => 227 | 319 => 228 | 320 => 229 | 337 => 272 | 338 => 273 | n => n, fun | 9 => 9 | 3 => 3 | 75 => 87 | 76 => 88 | 4 => 4 | 5 => 5 | 167 => 149 | 37 => 22 | 0 => 0 | 85 => 150 | 2 => 2 | 168 => 152 | 53 => 127 | 175 => 183 | 46 => 140 | 210 => 186 | 127 => 155 | 145 => 203 | 143 => 201 | 21 => 21 | 171 => 126 | 173 => 130 | 212 => 157 | 51 => 158 | 20 => 20 | 213 => 159 | 232 => 204 | 233 => 205 | 80 => 125 | n => n, fun | 15 => 4 | 16 => 5 | 17 => 1 | 18 => 6 | 19 => 7 | n => n⟩
theorem Tryz.lays172 : Go.Proofs.Lays.n172 Tryz.prog Tryz.lays172_ren := {
  mixed := by kernel_rfl
  f129 := Tryz.func226.trans (congrArg some (by kernel_rfl))
  f171 := Tryz.func30.trans (congrArg some (by kernel_rfl))
  f172 := Tryz.func91.trans (congrArg some (by kernel_rfl))
  f205 := Tryz.func269.trans (congrArg some (by kernel_rfl))
  f243 := Tryz.func55.trans (congrArg some (by kernel_rfl))
  f244 := Tryz.func160.trans (congrArg some (by kernel_rfl))
  f245 := Tryz.func161.trans (congrArg some (by kernel_rfl))
  f246 := Tryz.func96.trans (congrArg some (by kernel_rfl))
  f247 := Tryz.func218.trans (congrArg some (by kernel_rfl))
  f279 := Tryz.func219.trans (congrArg some (by kernel_rfl))
  f280 := Tryz.func220.trans (congrArg some (by kernel_rfl))
  f281 := Tryz.func221.trans (congrArg some (by kernel_rfl))
  f282 := Tryz.func222.trans (congrArg some (by kernel_rfl))
  f283 := Tryz.func167.trans (congrArg some (by kernel_rfl))
  f284 := Tryz.func168.trans (congrArg some (by kernel_rfl))
  f285 := Tryz.func169.trans (congrArg some (by kernel_rfl))
  f286 := Tryz.func170.trans (congrArg some (by kernel_rfl))
  f287 := Tryz.func267.trans (congrArg some (by kernel_rfl))
  f316 := Tryz.func268.trans (congrArg some (by kernel_rfl))
  f317 := Tryz.func225.trans (congrArg some (by kernel_rfl))
  f318 := Tryz.func227.trans (congrArg some (by kernel_rfl))
  f319 := Tryz.func228.trans (congrArg some (by kernel_rfl))
  f320 := Tryz.func229.trans (congrArg some (by kernel_rfl))
  f321 := Tryz.func286.trans (congrArg some (by kernel_rfl))
  f322 := Tryz.func287.trans (congrArg some (by kernel_rfl))
  f337 := Tryz.func272.trans (congrArg some (by kernel_rfl))
  f338 := Tryz.func273.trans (congrArg some (by kernel_rfl))
  t0 := Tryz.underlying0
  a0 := Tryz.isAgg0
  z0 := Tryz.sizeOf0
  v0 := Tryz.zeroValue0
  t2 := Tryz.underlying2
  a2 := Tryz.isAgg2
  z2 := Tryz.sizeOf2
  v2 := Tryz.zeroValue2
  t3 := Tryz.underlying3
  a3 := Tryz.isAgg3
  z3 := Tryz.sizeOf3
  v3 := Tryz.zeroValue3
  t4 := Tryz.underlying4
  a4 := Tryz.isAgg4
  z4 := Tryz.sizeOf4
  v4 := Tryz.zeroValue4
  t5 := Tryz.underlying5
  a5 := Tryz.isAgg5
  z5 := Tryz.sizeOf5
  v5 := Tryz.zeroValue5
  t9 := Tryz.underlying9
  a9 := Tryz.isAgg9
  z9 := Tryz.sizeOf9
  v9 := Tryz.zeroValue9
  t20 := Tryz.underlying20
  a20 := Tryz.isAgg20
  z20 := Tryz.sizeOf20
  v20 := Tryz.zeroValue20
  t21 := Tryz.underlying21
  a21 := Tryz.isAgg21
  z21 := Tryz.sizeOf21
  v21 := Tryz.zeroValue21
  t37 := Tryz.underlying22
  a37 := Tryz.isAgg22
  z37 := Tryz.sizeOf22
  v37 := Tryz.zeroValue22
  t46 := Tryz.underlying140
  a46 := Tryz.isAgg140
  z46 := Tryz.sizeOf140
  v46 := Tryz.zeroValue140
  t51 := Tryz.underlying158
  a51 := Tryz.isAgg158
  z51 := Tryz.sizeOf158
  v51 := Tryz.zeroValue158
  t53 := Tryz.underlying127
  a53 := Tryz.isAgg127
  z53 := Tryz.sizeOf127
  v53 := Tryz.zeroValue127
  t75 := Tryz.underlying87
  a75 := Tryz.isAgg87
  z75 := Tryz.sizeOf87
  v75 := Tryz.zeroValue87
  t76 := Tryz.underlying88
  a76 := Tryz.isAgg88
  z76 := Tryz.sizeOf88
  v76 := Tryz.zeroValue88
  t85 := Tryz.underlying150
  a85 := Tryz.isAgg150
  z85 := Tryz.sizeOf150
  v85 := Tryz.zeroValue150
  t127 := Tryz.underlying155
  a127 := Tryz.isAgg155
  z127 := Tryz.sizeOf155
  v127 := Tryz.zeroValue155
  t143 := Tryz.underlying201
  a143 := Tryz.isAgg201
  z143 := Tryz.sizeOf201
  v143 := Tryz.zeroValue201
  t145 := Tryz.underlying203
  a145 := Tryz.isAgg203
  z145 := Tryz.sizeOf203
  v145 := Tryz.zeroValue203
  t167 := Tryz.underlying149
  a167 := Tryz.isAgg149
  z167 := Tryz.sizeOf149
  v167 := Tryz.zeroValue149
  t168 := Tryz.underlying152
  a168 := Tryz.isAgg152
  z168 := Tryz.sizeOf152
  v168 := Tryz.zeroValue152
  t171 := Tryz.underlying126
  a171 := Tryz.isAgg126
  z171 := Tryz.sizeOf126
  v171 := Tryz.zeroValue126
  t173 := Tryz.underlying130
  a173 := Tryz.isAgg130
  z173 := Tryz.sizeOf130
  v173 := Tryz.zeroValue130
  t175 := Tryz.underlying183
  a175 := Tryz.isAgg183
  z175 := Tryz.sizeOf183
  v175 := Tryz.zeroValue183
  t210 := Tryz.underlying186
  a210 := Tryz.isAgg186
  z210 := Tryz.sizeOf186
  v210 := Tryz.zeroValue186
  t212 := Tryz.underlying157
  a212 := Tryz.isAgg157
  z212 := Tryz.sizeOf157
  v212 := Tryz.zeroValue157
  t213 := Tryz.underlying159
  a213 := Tryz.isAgg159
  z213 := Tryz.sizeOf159
  t232 := Tryz.underlying204
  a232 := Tryz.isAgg204
  z232 := Tryz.sizeOf204
  v232 := Tryz.zeroValue204
  t233 := Tryz.underlying205
  a233 := Tryz.isAgg205
  z233 := Tryz.sizeOf205
  v233 := Tryz.zeroValue205
  g15 := by kernel_rfl
  g16 := by kernel_rfl
  g17 := by kernel_rfl
  g18 := by kernel_rfl
  g19 := by kernel_rfl }
open Go.RowKit in
theorem Tryz.strconv_Atoi (s : ByteArray) (n : Int) (hl : s.size ≤ 18) (h : Lib.atoi s.data.toList = some n) (w : World) :
    Calls Tryz.prog 91 #[.string s] w fun e w' => e = .returned (.tuple #[.int .i64 n, .nilIface]) ∧ ∃ t, w' = Lib.bytesWorld w 5 t := Any.strconv_Atoi Tryz.lays172 s n hl h w
def Tryz.lays171_ren : Go.Shelf.Ren := ⟨fun | 171 => 30 | 243 => 55 | 246 => 96 | 283 => 167 | 284 => 168 | 285 => 169 | 286 => 170 | 129 => 226 | 317 => 225 | 318 => 227 | 319 => 228 | 320 => 229 | 337 => 272 | 338 => 273 | n => n, fun | 3 => 3 | 9 => 9 | 2 => 2 | 4 => 4 | 171 => 126 | 0 => 0 | 53 => 127 | 37 => 22 | 5 => 5 | 173 => 130 | 212 => 157 | 51 => 158 | 20 => 20 | 213 => 159 | 46 => 140 | 232 => 204 | 233 => 205 | n => n, fun | 17 => 1 | 18 => 6 | 19 => 7 | n => n⟩
theorem Tryz.lays171 : Go.Proofs.Lays.n171 Tryz.prog Tryz.lays171_ren := {
  mixed := by kernel_rfl
  f129 := Tryz.func226.trans (congrArg some (by kernel_rfl))
  f171 := Tryz.func30.trans (congrArg some (by kernel_rfl))
  f243 := Tryz.func55.trans (congrArg some (by kernel_rfl))
  f246 := Tryz.func96.trans (congrArg some (by kernel_rfl))
  f283 := Tryz.func167.trans (congrArg some (by kernel_rfl))
  f284 := Tryz.func168.trans (congrArg some (by kernel_rfl))
  f285 := Tryz.func169.trans (congrArg some (by kernel_rfl))
  f286 := Tryz.func170.trans (congrArg some (by kernel_rfl))
  f317 := Tryz.func225.trans (congrArg some (by kernel_rfl))
  f318 := Tryz.func227.trans (congrArg some (by kernel_rfl))
  f319 := Tryz.func228.trans (congrArg some (by kernel_rfl))
  f320 := Tryz.func229.trans (congrArg some (by kernel_rfl))
  f337 := Tryz.func272.trans (congrArg some (by kernel_rfl))
  f338 := Tryz.func273.trans (congrArg some (by kernel_rfl))
  t0 := Tryz.underlying0
  a0 := Tryz.isAgg0
  z0 := Tryz.sizeOf0
  v0 := Tryz.zeroValue0
  t2 := Tryz.underlying2
  a2 := Tryz.isAgg2
  z2 := Tryz.sizeOf2
  v2 := Tryz.zeroValue2
  t3 := Tryz.underlying3
  a3 := Tryz.isAgg3
  z3 := Tryz.sizeOf3
  v3 := Tryz.zeroValue3
  t4 := Tryz.underlying4
  a4 := Tryz.isAgg4
  z4 := Tryz.sizeOf4
  v4 := Tryz.zeroValue4
  t5 := Tryz.underlying5
  a5 := Tryz.isAgg5
  z5 := Tryz.sizeOf5
  v5 := Tryz.zeroValue5
  t9 := Tryz.underlying9
  a9 := Tryz.isAgg9
  z9 := Tryz.sizeOf9
  v9 := Tryz.zeroValue9
  t20 := Tryz.underlying20
  a20 := Tryz.isAgg20
  z20 := Tryz.sizeOf20
  v20 := Tryz.zeroValue20
  t37 := Tryz.underlying22
  a37 := Tryz.isAgg22
  z37 := Tryz.sizeOf22
  v37 := Tryz.zeroValue22
  t46 := Tryz.underlying140
  a46 := Tryz.isAgg140
  z46 := Tryz.sizeOf140
  v46 := Tryz.zeroValue140
  t51 := Tryz.underlying158
  a51 := Tryz.isAgg158
  z51 := Tryz.sizeOf158
  v51 := Tryz.zeroValue158
  t53 := Tryz.underlying127
  a53 := Tryz.isAgg127
  z53 := Tryz.sizeOf127
  v53 := Tryz.zeroValue127
  t171 := Tryz.underlying126
  a171 := Tryz.isAgg126
  z171 := Tryz.sizeOf126
  v171 := Tryz.zeroValue126
  t173 := Tryz.underlying130
  a173 := Tryz.isAgg130
  z173 := Tryz.sizeOf130
  v173 := Tryz.zeroValue130
  t212 := Tryz.underlying157
  a212 := Tryz.isAgg157
  z212 := Tryz.sizeOf157
  v212 := Tryz.zeroValue157
  t213 := Tryz.underlying159
  a213 := Tryz.isAgg159
  z213 := Tryz.sizeOf159
  t232 := Tryz.underlying204
  a232 := Tryz.isAgg204
  z232 := Tryz.sizeOf204
  v232 := Tryz.zeroValue204
  t233 := Tryz.underlying205
  a233 := Tryz.isAgg205
  z233 := Tryz.sizeOf205
  v233 := Tryz.zeroValue205
  g17 := by kernel_rfl
  g18 := by kernel_rfl
  g19 := by kernel_rfl }
open Go.RowKit Go.Sort Go.Lib in
theorem Tryz.strconv_Itoa_small (i : Nat) (hi : i < 100) (w : World) :
    Calls Tryz.prog 30 #[.int .i64 i] w fun e w' => e = .returned (.string ⟨(Lib.decDigits i).toArray⟩) ∧ w' = w := Any.strconv_Itoa_small Tryz.lays171 i hi w
def Tryz.lays145_ren : Go.Shelf.Ren := ⟨fun | 145 => 46 | 220 => 76 | 219 => 125 | 217 => 194 | 225 => 195 | 224 => 196 | 267 => 197 | 266 => 239 | 314 => 240 | n => n, fun | 9 => 9 | 4 => 4 | 59 => 60 | 3 => 3 | 5 => 5 | 46 => 140 | 146 => 166 | 51 => 158 | n => n, fun | 1 => 0 | n => n⟩
theorem Tryz.lays145 : Go.Proofs.Lays.n145 Tryz.prog Tryz.lays145_ren := {
  mixed := by kernel_rfl
  f145 := Tryz.func46.trans (congrArg some (by kernel_rfl))
  f217 := Tryz.func194.trans (congrArg some (by kernel_rfl))
  f219 := Tryz.func125.trans (congrArg some (by kernel_rfl))
  f220 := Tryz.func76.trans (congrArg some (by kernel_rfl))
  f224 := Tryz.func196.trans (congrArg some (by kernel_rfl))
  f225 := Tryz.func195.trans (congrArg some (by kernel_rfl))
  f266 := Tryz.func239.trans (congrArg some (by kernel_rfl))
  f267 := Tryz.func197.trans (congrArg some (by kernel_rfl))
  f314 := Tryz.func240.trans (congrArg some (by kernel_rfl))
  t3 := Tryz.underlying3
  a3 := Tryz.isAgg3
  z3 := Tryz.sizeOf3
  v3 := Tryz.zeroValue3
  t4 := Tryz.underlying4
  a4 := Tryz.isAgg4
  z4 := Tryz.sizeOf4
  v4 := Tryz.zeroValue4
  t5 := Tryz.underlying5
  a5 := Tryz.isAgg5
  z5 := Tryz.sizeOf5
  v5 := Tryz.zeroValue5
  t9 := Tryz.underlying9
  a9 := Tryz.isAgg9
  z9 := Tryz.sizeOf9
  v9 := Tryz.zeroValue9
  t46 := Tryz.underlying140
  a46 := Tryz.isAgg140
  z46 := Tryz.sizeOf140
  v46 := Tryz.zeroValue140
  t51 := Tryz.underlying158
  a51 := Tryz.isAgg158
  z51 := Tryz.sizeOf158
  v51 := Tryz.zeroValue158
  t59 := Tryz.underlying60
  a59 := Tryz.isAgg60
  z59 := Tryz.sizeOf60
  v59 := Tryz.zeroValue60
  t146 := Tryz.underlying166
  a146 := Tryz.isAgg166
  z146 := Tryz.sizeOf166
  v146 := Tryz.zeroValue166
  g1 := by kernel_rfl }
open Go.RowKit Go.Lib in
theorem Tryz.strings_Cut (s sep : ByteArray) (m : Int) (w : World) (hs : s.size < 4294967281) (hm : w.cell? ⟨0, 0, none⟩ = some (.int .i64 m)) :
    Calls Tryz.prog 46 #[.string s, .string sep] w fun e w' => e = .returned (.tuple #[.string ⟨(Lib.cut s.data.toList sep.data.toList).1.toArray⟩, .string ⟨(Lib.cut s.data.toList sep.data.toList).2.1.toArray⟩, .bool (Lib.cut s.data.toList sep.data.toList).2.2]) ∧ ∃ n, w' = w.drewN n := Any.strings_Cut Tryz.lays145 s sep m w hs hm
def Tryz.lays146_ren : Go.Shelf.Ren := ⟨fun | 146 => 28 | 221 => 45 | 268 => 73 | 138 => 74 | 143 => 75 | 195 => 122 | 197 => 123 | 218 => 124 | 219 => 125 | 260 => 193 | 217 => 194 | 225 => 195 | 224 => 196 | 267 => 197 | 266 => 239 | 314 => 240 | n => n, fun | 9 => 9 | 31 => 46 | 3 => 3 | 4 => 4 | 0 => 0 | 105 => 101 | 21 => 21 | 5 => 5 | 46 => 140 | 119 => 162 | 139 => 165 | 138 => 164 | 146 => 166 | 51 => 158 | n => n, fun | 1 => 0 | 3 => 2 | 4 => 3 | n => n⟩
theorem Tryz.lays146 : Go.Proofs.Lays.n146 Tryz.prog Tryz.lays146_ren := {
  mixed := by kernel_rfl
  f138 := Tryz.func74.trans (congrArg some (by kernel_rfl))
  f143 := Tryz.func75.trans (congrArg some (by kernel_rfl))
  f146 := Tryz.func28.trans (congrArg some (by kernel_rfl))
  f195 := Tryz.func122.trans (congrArg some (by kernel_rfl))
  f197 := Tryz.func123.trans (congrArg some (by kernel_rfl))
  f217 := Tryz.func194.trans (congrArg some (by kernel_rfl))
  f218 := Tryz.func124.trans (congrArg some (by kernel_rfl))
  f219 := Tryz.func125.trans (congrArg some (by kernel_rfl))
  f221 := Tryz.func45.trans (congrArg some (by kernel_rfl))
  f224 := Tryz.func196.trans (congrArg some (by kernel_rfl))
  f225 := Tryz.func195.trans (congrArg some (by kernel_rfl))
  f260 := Tryz.func193.trans (congrArg some (by kernel_rfl))
  f266 := Tryz.func239.trans (congrArg some (by kernel_rfl))
  f267 := Tryz.func197.trans (congrArg some (by kernel_rfl))
  f268 := Tryz.func73.trans (congrArg some (by kernel_rfl))
  f314 := Tryz.func240.trans (congrArg some (by kernel_rfl))
  t0 := Tryz.underlying0
  a0 := Tryz.isAgg0
  z0 := Tryz.sizeOf0
  v0 := Tryz.zeroValue0
  t3 := Tryz.underlying3
  a3 := Tryz.isAgg3
  z3 := Tryz.sizeOf3
  v3 := Tryz.zeroValue3
  t4 := Tryz.underlying4
  a4 := Tryz.isAgg4
  z4 := Tryz.sizeOf4
  v4 := Tryz.zeroValue4
  t5 := Tryz.underlying5
  a5 := Tryz.isAgg5
  z5 := Tryz.sizeOf5
  v5 := Tryz.zeroValue5
  t9 := Tryz.underlying9
  a9 := Tryz.isAgg9
  z9 := Tryz.sizeOf9
  v9 := Tryz.zeroValue9
  t21 := Tryz.underlying21
  a21 := Tryz.isAgg21
  z21 := Tryz.sizeOf21
  v21 := Tryz.zeroValue21
  t31 := Tryz.underlying46
  a31 := Tryz.isAgg46
  z31 := Tryz.sizeOf46
  v31 := Tryz.zeroValue46
  t46 := Tryz.underlying140
  a46 := Tryz.isAgg140
  z46 := Tryz.sizeOf140
  v46 := Tryz.zeroValue140
  t51 := Tryz.underlying158
  a51 := Tryz.isAgg158
  z51 := Tryz.sizeOf158
  v51 := Tryz.zeroValue158
  t105 := Tryz.underlying101
  a105 := Tryz.isAgg101
  z105 := Tryz.sizeOf101
  v105 := Tryz.zeroValue101
  t119 := Tryz.underlying162
  a119 := Tryz.isAgg162
  z119 := Tryz.sizeOf162
  t138 := Tryz.underlying164
  a138 := Tryz.isAgg164
  z138 := Tryz.sizeOf164
  v138 := Tryz.zeroValue164
  t139 := Tryz.underlying165
  a139 := Tryz.isAgg165
  z139 := Tryz.sizeOf165
  v139 := Tryz.zeroValue165
  t146 := Tryz.underlying166
  a146 := Tryz.isAgg166
  z146 := Tryz.sizeOf166
  v146 := Tryz.zeroValue166
  g1 := by kernel_rfl
  g3 := by kernel_rfl
  g4 := by kernel_rfl }
open Go.RowKit Go.Lib in
theorem Tryz.strings_Split (s sep : ByteArray) (m : Int) (w : World) (hs : s.size < 4294967281) (hm : w.cell? ⟨0, 0, none⟩ = some (.int .i64 m)) (h1 : 1 ≤ sep.size) :
    Calls Tryz.prog 28 #[.string s, .string sep] w fun e w' =>
      e = .returned (.slice (some ⟨w.heap.size, 0, none⟩) (Lib.countB s sep + 1) (Lib.countB s sep + 1)) ∧ w' = w.alloc (.cells ((Lib.splitB sep 0 (Lib.countB s sep) s).map Value.string).toArray 9) := Any.strings_Split Tryz.lays146 (by kernel_rfl) s sep m w hs hm h1
def Tryz.laysM146_ren : Go.Shelf.Ren := ⟨fun | 146 => 28 | 221 => 45 | 268 => 73 | 138 => 74 | 143 => 75 | 195 => 122 | 197 => 123 | 218 => 124 | 219 => 125 | 260 => 193 | 217 => 194 | 225 => 195 | 224 => 196 | 267 => 197 | 266 => 239 | 314 => 240 | n => n, fun | 9 => 9 | 31 => 46 | 3 => 3 | 4 => 4 | 0 => 0 | 105 => 101 | 21 => 21 | 5 => 5 | 46 => 140 | 119 => 162 | 139 => 165 | 138 => 164 | 146 => 166 | 51 => 158 | n => n, fun | 1 => 0 | 3 => 2 | 4 => 3 | n => n⟩
theorem Tryz.laysM146 : Go.Proofs.LaysM.n146 Tryz.prog Tryz.laysM146_ren := {
  mixed := by kernel_rfl
  f138 := Tryz.func74.trans (congrArg some (by kernel_rfl))
  f143 := Tryz.func75.trans (congrArg some (by kernel_rfl))
  f146 := Tryz.func28.trans (congrArg some (by kernel_rfl))
  f195 := Tryz.func122.trans (congrArg some (by kernel_rfl))
  f197 := Tryz.func123.trans (congrArg some (by kernel_rfl))
  f217 := Tryz.func194.trans (congrArg some (by kernel_rfl))
  f218 := Tryz.func124.trans (congrArg some (by kernel_rfl))
  f219 := Tryz.func125.trans (congrArg some (by kernel_rfl))
  f221 := Tryz.func45.trans (congrArg some (by kernel_rfl))
  f224 := Tryz.func196.trans (congrArg some (by kernel_rfl))
  f225 := Tryz.func195.trans (congrArg some (by kernel_rfl))
  f260 := Tryz.func193.trans (congrArg some (by kernel_rfl))
  f266 := Tryz.func239.trans (congrArg some (by kernel_rfl))
  f267 := Tryz.func197.trans (congrArg some (by kernel_rfl))
  f268 := Tryz.func73.trans (congrArg some (by kernel_rfl))
  f314 := Tryz.func240.trans (congrArg some (by kernel_rfl))
  t0 := Tryz.underlying0
  a0 := Tryz.isAgg0
  z0 := Tryz.sizeOf0
  v0 := Tryz.zeroValue0
  t3 := Tryz.underlying3
  a3 := Tryz.isAgg3
  z3 := Tryz.sizeOf3
  v3 := Tryz.zeroValue3
  t4 := Tryz.underlying4
  a4 := Tryz.isAgg4
  z4 := Tryz.sizeOf4
  v4 := Tryz.zeroValue4
  t5 := Tryz.underlying5
  a5 := Tryz.isAgg5
  z5 := Tryz.sizeOf5
  v5 := Tryz.zeroValue5
  t9 := Tryz.underlying9
  a9 := Tryz.isAgg9
  z9 := Tryz.sizeOf9
  v9 := Tryz.zeroValue9
  t21 := Tryz.underlying21
  a21 := Tryz.isAgg21
  z21 := Tryz.sizeOf21
  v21 := Tryz.zeroValue21
  t31 := Tryz.underlying46
  a31 := Tryz.isAgg46
  z31 := Tryz.sizeOf46
  v31 := Tryz.zeroValue46
  t46 := Tryz.underlying140
  a46 := Tryz.isAgg140
  z46 := Tryz.sizeOf140
  v46 := Tryz.zeroValue140
  t51 := Tryz.underlying158
  a51 := Tryz.isAgg158
  z51 := Tryz.sizeOf158
  v51 := Tryz.zeroValue158
  t105 := Tryz.underlying101
  a105 := Tryz.isAgg101
  z105 := Tryz.sizeOf101
  v105 := Tryz.zeroValue101
  t119 := Tryz.underlying162
  a119 := Tryz.isAgg162
  z119 := Tryz.sizeOf162
  t138 := Tryz.underlying164
  a138 := Tryz.isAgg164
  z138 := Tryz.sizeOf164
  v138 := Tryz.zeroValue164
  t139 := Tryz.underlying165
  a139 := Tryz.isAgg165
  z139 := Tryz.sizeOf165
  v139 := Tryz.zeroValue165
  t146 := Tryz.underlying166
  a146 := Tryz.isAgg166
  z146 := Tryz.sizeOf166
  v146 := Tryz.zeroValue166
  g1 := by kernel_rfl
  g3 := by kernel_rfl
  g4 := by kernel_rfl
  i0 := by kernel_rfl
  i3 := by kernel_rfl
  i4 := by kernel_rfl
  i5 := by kernel_rfl
  i9 := by kernel_rfl
  i21 := by kernel_rfl
  i31 := by kernel_rfl
  i46 := by kernel_rfl
  i51 := by kernel_rfl
  i105 := by kernel_rfl
  i138 := by kernel_rfl
  i139 := by kernel_rfl
  i146 := by kernel_rfl
  m1 := by kernel_rfl
  s1_3 := fun w h => Go.Proofs.cell_of_shapedOpen_int (zero := #[.int .i64 0]) (t := 3) h (of_decide_eq_true (by kernel_rfl)) (by kernel_rfl) rfl (by kernel_rfl) (by kernel_rfl) Tryz.underlying3
  m3 := by kernel_rfl
  m4 := by kernel_rfl }
end Go.Proofs

set_option linter.unusedVariables false
set_option linter.unusedSimpArgs false
namespace Go.Proofs.YtiobedekgnfjcaaGreatDoor.P
open Go.RowKit Go.Proofs.YtiobedekgnfjcaaGreatDoorW.PrintWords Go.Proofs.YtiobedekgnfjcaaGreatDoorW.PrintLast

theorem strRow (w : World) (xs : List ByteArray) (hm : xs.length ≤ 9223372036854775807) :
    Kd.R Kd.string 9 (w.alloc (.cells (xs.map Value.string).toArray 9)) w.heap.size (fun _ => True) (.slice (some ⟨w.heap.size, 0, none⟩) xs.length xs.length) xs := by
  refine Kd.R_of_own ?_ (fun _ _ => trivial)
  have h := World.ownsRow_lit (base := w.heap.size) (e := 9) (size := 1) w (xs.map Value.string).toArray xs.length (Nat.le_refl _) (by simpa [maxLen] using hm) (by simp)
  simpa [encs] using h
def strings_Split.f (s sep : ByteArray) : Option (List ByteArray) := if s.size < 4294967281 ∧ 1 ≤ sep.size then some (Lib.splitB sep 0 (Lib.countB s sep) s) else none
theorem strings_Split.calls (s sep : ByteArray) (r : List ByteArray) (m : Int) (w : World) (hm : w.cell? ⟨0, 0, none⟩ = some (.int .i64 m)) (h : strings_Split.f s sep = some r) :
    Calls Tryz.prog 28 #[.string s, .string sep] w fun e w' => ∃ v0_ : Value, e = .returned v0_ ∧ Kd.R Kd.string 9 w' w.heap.size (fun _ => True) v0_ r ∧ Below w.heap.size w w' := by
  unfold strings_Split.f at h
  by_cases hc : s.size < 4294967281 ∧ 1 ≤ sep.size
  case neg => rw [if_neg hc] at h; cases h
  rw [if_pos hc] at h
  obtain rfl := Option.some.inj h
  refine (Tryz.strings_Split s sep m w hc.1 hm hc.2).mono ?_
  rintro e w' ⟨rfl, rfl⟩
  have hl := Lib.splitB_all sep hc.2 0 _ s rfl
  have hle := Lib.countB_le sep hc.2 s.size s (Nat.le_refl _)
  have h2 := strRow w (Lib.splitB sep 0 (Lib.countB s sep) s) (by rw [hl]; omega)
  rw [hl] at h2
  exact ⟨_, rfl, h2, below_alloc (Below.refl _ _) _⟩
def tenB : ByteArray := ⟨#[48, 49, 50, 51, 52, 53, 54, 55, 56, 57]⟩
def strings_Trim.f (s cut : ByteArray) : Option ByteArray := if s.size ≤ 9223372036854775807 ∧ cut = tenB then some ⟨(Lib.trimS s.data.toList cut.data.toList).toArray⟩ else none
theorem strings_Trim.calls (s cut : ByteArray) (r : ByteArray) (w : World) (h : strings_Trim.f s cut = some r) :
    Calls Tryz.prog 90 #[.string s, .string cut] w fun e w' => e = .returned (.string r) ∧ Below w.heap.size w w' := by
  unfold strings_Trim.f at h
  by_cases hc : s.size ≤ 9223372036854775807 ∧ cut = tenB
  case neg => rw [if_neg hc] at h; cases h
  rw [if_pos hc] at h
  obtain rfl := Option.some.inj h
  obtain ⟨hs, rfl⟩ := hc
  exact Tryz.strings_Trim s tenB w hs (by decide) (ascii_of_all (by decide))
def strconv_Atoi_91.f (s : ByteArray) : Option (Int × Option Int) := if s.size ≤ 18 then (Lib.atoi s.data.toList).map fun n => (n, none) else none
theorem strconv_Atoi_91.calls (s : ByteArray) (r1 : Int) (r2 : Option Int) (w : World) (h : strconv_Atoi_91.f s = some (r1, r2)) :
    Calls Tryz.prog 91 #[.string s] w fun e w' => e = .returned (.tuple #[.int .i64 r1, errW r2]) ∧ Below w.heap.size w w' := by
  unfold strconv_Atoi_91.f at h
  by_cases hc : s.size ≤ 18
  case neg => rw [if_neg hc] at h; cases h
  rw [if_pos hc] at h
  obtain ⟨n, hn, he⟩ := Option.map_eq_some_iff.1 h
  obtain ⟨rfl, rfl⟩ := Prod.mk.inj he
  refine (Tryz.strconv_Atoi s n hc hn w).mono ?_
  rintro e w' ⟨rfl, t, rfl⟩
  exact ⟨rfl, Lib.bytesWorld_below _ _ _⟩
def itoaL (n : Nat) : List UInt8 := if n < 10 then [UInt8.ofNat (48 + n)] else [UInt8.ofNat (48 + n / 10), UInt8.ofNat (48 + n % 10)]
theorem itoaL_eq (n : Nat) (h : n < 100) : Lib.decDigits n = itoaL n := by
  unfold itoaL Lib.decDigits
  by_cases h1 : n < 10
  · rw [dif_pos h1, if_pos h1]
  · rw [dif_neg h1, if_neg h1]
    unfold Lib.decDigits
    rw [dif_pos (by omega)]
    rfl
def strconv_Itoa_30.f (n : Int) : Option ByteArray := if 0 ≤ n ∧ n < 100 then some ⟨(itoaL n.toNat).toArray⟩ else none
theorem strconv_Itoa_30.calls (n : Int) (r : ByteArray) (w : World) (h : strconv_Itoa_30.f n = some r) :
    Calls Tryz.prog 30 #[.int .i64 n] w fun e w' => e = .returned (.string r) ∧ Drawn0 w w' := by
  unfold strconv_Itoa_30.f at h
  by_cases hc : 0 ≤ n ∧ n < 100
  case neg => rw [if_neg hc] at h; cases h
  rw [if_pos hc] at h
  obtain rfl := Option.some.inj h
  obtain ⟨i, rfl⟩ : ∃ i : Nat, n = i := ⟨n.toNat, by omega⟩
  refine (Tryz.strconv_Itoa_small i (by omega) w).mono ?_
  rintro e w' ⟨rfl, rfl⟩
  exact ⟨by rw [itoaL_eq i (by omega)]; rfl, Drawn0.refl _⟩
def strings_Join.f (l : List ByteArray) (sep : ByteArray) : Option ByteArray := if l.length ≤ 140737488355328 ∧ (Lib.join (l.map (·.data.toList)) sep.data.toList).length ≤ 140737488355328 then some ⟨(Lib.join (l.map (·.data.toList)) sep.data.toList).toArray⟩ else none
end Go.Proofs.YtiobedekgnfjcaaGreatDoor.P

set_option linter.unusedVariables false
set_option linter.unusedSimpArgs false
namespace Go.Proofs.YtiobedekgnfjcaaGreatDoor.X
open Go.RowKit Go.Proofs.YtiobedekgnfjcaaGreatDoorW.PrintWords Go.Proofs.YtiobedekgnfjcaaGreatDoorW.PrintLast Go.Proofs.YtiobedekgnfjcaaGreatDoor.P

structure DeskV (W : World) (B b : Nat) (A : Option Addr) (c : Nat) (t : List Int) (vp : Value) (p : List Int) : Prop where
  hB : B ≤ b
  c0 : W.cell? ⟨b, 0, none⟩ = some (.slice A t.length c)
  c1 : W.cell? ⟨b, 1, none⟩ = some vp
  f0 : W.frozen? ⟨b, 0, none⟩ = false
  f1 : W.frozen? ⟨b, 1, none⟩ = false
  ht : Kd.R (Kd.int .i64) 3 W B (fun q => q ≠ b ∧ some q ≠ vp.ownBlock) (.slice A t.length c) t
  hp : Kd.R (Kd.int .i64) 3 W B (fun q => q ≠ b) vp p
theorem DeskV.below {W W' : World} {B b : Nat} {A : Option Addr} {c : Nat} {t : List Int} {vp : Value} {p : List Int} (h : DeskV W B b A c t vp p) (hb : Below W.heap.size W W') : DeskV W' B b A c t vp p :=
  have l : b < W.heap.size := World.block_lt_of_cell? W _ h.c0
  ⟨h.hB, (hb.cell (p := ⟨b, 0, none⟩) l).trans h.c0, (hb.cell (p := ⟨b, 1, none⟩) l).trans h.c1, (hb.frozen (p := ⟨b, 0, none⟩) l).trans h.f0, (hb.frozen (p := ⟨b, 1, none⟩) l).trans h.f1, Kd.R_below h.ht hb, Kd.R_below h.hp hb⟩
theorem DeskV.read {W : World} {B b : Nat} {A : Option Addr} {c : Nat} {t : List Int} {vp : Value} {p : List Int} (h : DeskV W B b A c t vp p) : Kd.C (Kd.int .i64) W A t.length t := (Kd.R_reads' h.ht).2.2
theorem DeskV.cap {W : World} {B b : Nat} {A : Option Addr} {c : Nat} {t : List Int} {vp : Value} {p : List Int} (h : DeskV W B b A c t vp p) : t.length ≤ c := (Kd.R_reads' h.ht).2.1
structure RunAt (W : World) (B b : Nat) (vp : Value) (t' p' : List Int) (W' : World) : Prop where
  desk : ∃ A' c' vp', DeskV W' B b A' c' t' vp' p'
  bl : Below B W W'
  far : ∀ k, k < W.heap.size → k ≠ b → some k ≠ vp.ownBlock → W'.heap[k]? = W.heap[k]?
theorem RunAt.same {W W' : World} {B b : Nat} {A : Option Addr} {c : Nat} {t : List Int} {vp : Value} {p : List Int} (h : DeskV W B b A c t vp p) (hb : Below W.heap.size W W') : RunAt W B b vp t p W' :=
  have l : b < W.heap.size := World.block_lt_of_cell? W _ h.c0
  ⟨⟨_, _, _, h.below hb⟩, hb.mono (by have := h.hB; omega), fun k hk _ _ => hb.block k hk⟩
theorem cut_calls (s word rest : ByteArray) (has : Bool) (m : Int) (w : World) (hs : s.size < 4294967281) (hm : w.cell? ⟨0, 0, none⟩ = some (.int .i64 m)) (h : Lib.cut s.data.toList [32] = (word.data.toList, rest.data.toList, has)) :
    Calls Tryz.prog 46 #[.string s, .string ⟨#[32]⟩] w fun e w' => e = .returned (.tuple #[.string word, .string rest, .bool has]) ∧ ∃ n, w' = w.drewN n := by
  have hc := Tryz.strings_Cut s ⟨#[32]⟩ m w hs hm
  rw [show (⟨#[32]⟩ : ByteArray).data.toList = [32] from rfl, h] at hc
  exact hc
end Go.Proofs.YtiobedekgnfjcaaGreatDoor.X

set_option linter.unusedVariables false
set_option linter.unusedSimpArgs false
namespace Go.Proofs.YtiobedekgnfjcaaGreatDoor.X
open Go.RowKit Go.Proofs.YtiobedekgnfjcaaGreatDoorW.PrintWords Go.Proofs.YtiobedekgnfjcaaGreatDoorW.PrintLast Go.Proofs.YtiobedekgnfjcaaGreatDoor.P

abbrev StepF := List Int → List Int → ByteArray → Option ((List Int × List Int) × ByteArray)
def linesOf (text : ByteArray) : List ByteArray := Lib.splitB ⟨#[10]⟩ 0 (Lib.countB text ⟨#[10]⟩) text
def execL (step : StepF) : List ByteArray → List Int → List Int → ByteArray → Option ((List Int × List Int) × ByteArray)
  | [], t, p, out => some ((t, p), out)
  | l :: ls, t, p, out => (step t p l).bind fun r => if out.size + (r.2.size + 1) ≤ 9223372036854775807 then execL step ls r.1.1 r.1.2 (out ++ (r.2 ++ ⟨#[10]⟩)) else none
def pointsW : ByteArray := ⟨#[112, 111, 105, 110, 116, 115, 32]⟩
def execF (step : StepF) (k : Nat) (text : ByteArray) : Option ByteArray :=
  if text.size ≤ 600 then (impl_tableOf.f k 0).bind fun t => (execL step (linesOf text).dropLast t [] ⟨#[]⟩).bind fun r =>
    (strconv_Itoa_30.f (r.1.2.length : Int)).bind fun d => if r.2.size + 100 ≤ 9223372036854775807 ∧ d.size ≤ 2 then some (((r.2 ++ pointsW) ++ d) ++ ⟨#[10]⟩) else none
  else some ⟨#[116, 111, 111, 32, 108, 111, 110, 103, 10]⟩
theorem lines_len (text : ByteArray) : (linesOf text).length = Lib.countB text ⟨#[10]⟩ + 1 := Lib.splitB_all ⟨#[10]⟩ (by decide) 0 _ text rfl
theorem lines_pos (text : ByteArray) : 1 ≤ (linesOf text).length := by rw [lines_len]; omega
theorem lines_le (text : ByteArray) : (linesOf text).length ≤ text.size + 1 := by rw [lines_len]; have := Lib.countB_le ⟨#[10]⟩ (by decide) text.size text (Nat.le_refl _); omega
theorem lines_drop (text : ByteArray) (i : Int) (n : Nat) (l : ByteArray) (hn : (linesOf text).length = n + 1) (i0 : 0 ≤ i) (ci : i < n) (hl : rdOf ByteArray.empty (linesOf text) i = l) :
    (linesOf text).dropLast.drop i.toNat = l :: (linesOf text).dropLast.drop (i + 1).toNat := by
  have hd : i.toNat < (linesOf text).dropLast.length := by rw [List.length_dropLast]; omega
  rw [List.drop_eq_getElem_cons hd, show (i + 1).toNat = i.toNat + 1 by omega]
  congr 1
  rw [List.getElem_dropLast, ← hl]
  unfold rdOf
  rw [List.getD_eq_getElem?_getD, List.getElem?_eq_getElem (by omega)]
  rfl
theorem splitB_size (sep : ByteArray) : ∀ (k : Nat) (s l : ByteArray), l ∈ Lib.splitB sep 0 k s → l.size ≤ s.size
  | 0, s, l, h => by
    simp only [Lib.splitB, List.mem_singleton] at h
    subst h
    exact Nat.le_refl _
  | k + 1, s, l, h => by
    unfold Lib.splitB at h
    by_cases hc : (Lib.indexB s sep == -1) = true
    · rw [if_pos hc] at h
      simp only [List.mem_singleton] at h
      subst h
      exact Nat.le_refl _
    · rw [if_neg hc] at h
      rcases List.mem_cons.1 h with rfl | h
      · simp only [ByteArray.size_extract]; omega
      · have := splitB_size sep k _ l h
        simp only [ByteArray.size_extract] at this
        omega
theorem lines_size (text l : ByteArray) (h : l ∈ linesOf text) (h6 : text.size ≤ 600) : l.size ≤ 600 := Nat.le_trans (splitB_size _ _ _ _ h) h6
theorem lines_kept {W W' : World} {B b : Nat} {ok : Nat → Prop} {vl vp : Value} {ls : List ByteArray} {p : List Int} (hR : Kd.R Kd.string 9 W B (fun q => q ≠ b) vl ls) (hp : Kd.R (Kd.int .i64) 3 W B ok vp p)
    (far : ∀ k, k < W.heap.size → k ≠ b → some k ≠ vp.ownBlock → W'.heap[k]? = W.heap[k]?) : Kd.R Kd.string 9 W' B (fun q => q ≠ b) vl ls := by
  refine Kd.R_mono (Kd.R_move (Kd.R_bound hR) (fun k hk => far k hk.2.2.1 hk.1 (fun e => ?_))) (fun k hk => hk.1)
  obtain ⟨_, _, _, q, hq, cells, hc⟩ := hk
  obtain ⟨_, _, _, q', hq', cells', hc'⟩ := (Kd.R_bound hp).1 k e.symm
  rw [hc] at hc'
  have e1 : q = 9 := List.mem_singleton.1 hq
  have e2 : q' = 3 := List.mem_singleton.1 hq'
  subst e1
  subst e2
  injection hc' with hc'
  injection hc' with _ hc'
  exact absurd hc' (by decide)
def StepOk (step : StepF) (m : Int) : Prop :=
  ∀ (W : World) (B b : Nat) (A : Option Addr) (c : Nat) (t : List Int) (vp : Value) (p : List Int) (l : ByteArray) (r : (List Int × List Int) × ByteArray), DeskV W B b A c t vp p → W.cell? ⟨0, 0, none⟩ = some (.int .i64 m) → l.size ≤ 600 → step t p l = some r →
    Calls Tryz.prog 29 #[.pointer (some ⟨b, 0, none⟩), .string l] W fun e w' => e = .returned (.string r.2) ∧ RunAt W B b vp r.1.1 r.1.2 w'
set_option maxRecDepth 100000 in
set_option maxHeartbeats 8000000 in
theorem execute_calls (step : StepF) (m : Int) (hstep : StepOk step m) (k : Nat) (text out : ByteArray) (w : World) (hm : w.cell? ⟨0, 0, none⟩ = some (.int .i64 m)) (h : execF step k text = some out) :
    Calls Tryz.prog 10 #[.string text] w fun e w' => e = .returned (.string out) ∧ Below w.heap.size w w' := by
  unfold execF at h
  by_cases h6 : text.size ≤ 600
  case neg =>
    rw [if_neg h6] at h
    obtain rfl := Option.some.inj h
    have d1 : decide (600 < (text.size : Int)) = true := decide_eq_true (by omega)
    have d2 : decide (600 < text.size) = true := decide_eq_true (by omega)
    clear h6
    go_enter Tryz.func10, Tryz.ntmps10
    go_wp2
    go_ret
    exact ⟨rfl, Below.refl _ _⟩
  case pos =>
  rw [if_pos h6] at h
  replace h := Option.bind_eq_some_iff.1 h
  obtain ⟨t0, ht0, h⟩ := h
  replace h := Option.bind_eq_some_iff.1 h
  obtain ⟨⟨⟨tf, pf⟩, of⟩, hl, h⟩ := h
  replace h := Option.bind_eq_some_iff.1 h
  obtain ⟨d, hd, h⟩ := h
  by_cases hz : of.size + 100 ≤ 9223372036854775807 ∧ d.size ≤ 2
  case neg => simp only [if_neg hz] at h; cases h
  simp only [if_pos hz] at h
  obtain rfl := Option.some.inj h
  have d1 : decide (600 < (text.size : Int)) = false := decide_eq_false (by omega)
  have d2 : decide (600 < text.size) = false := decide_eq_false (by omega)
  have HT := Aside0.mk (impl_tableOf.calls k 0 t0 w ht0)
  have HS := Aside0.mk hstep
  have HM := Aside0.mk hm
  have HL := Aside0.mk hl
  have HD := Aside0.mk (fun w => strconv_Itoa_30.calls _ d w hd)
  have HZ := Aside0.mk hz
  have HX := Aside0.mk h6
  clear h h6 hl hd hz ht0 hm hstep
  go_enter Tryz.func10, Tryz.ntmps10
  go_wp2_with fail
  refine HT.out.mono ?_
  rintro e w1 ⟨vt, rfl, ho, hb⟩
  obtain ⟨At, ct, rfl⟩ := Kd.R_slice ho
  have HO := Aside0.mk ho
  have HB := Aside0.mk hb
  clear ho hb HT
  go_wp2_with fail
  have hc0 : (w1.alloc (.cells #[.slice At t0.length ct, .slice none 0 0] 45)).cell? ⟨w1.heap.size, 0, none⟩ = some (.slice At t0.length ct) := World.cell?_alloc_new w1 _ _ 0
  have hc1 : (w1.alloc (.cells #[.slice At t0.length ct, .slice none 0 0] 45)).cell? ⟨w1.heap.size, 1, none⟩ = some (.slice none 0 0) := World.cell?_alloc_new w1 _ _ 1
  have hf0 : (w1.alloc (.cells #[.slice At t0.length ct, .slice none 0 0] 45)).frozen? ⟨w1.heap.size, 0, none⟩ = false := World.frozen?_alloc_new w1 _ _ 0
  have hf1 : (w1.alloc (.cells #[.slice At t0.length ct, .slice none 0 0] 45)).frozen? ⟨w1.heap.size, 1, none⟩ = false := World.frozen?_alloc_new w1 _ _ 1
  have hba : Below w1.heap.size w1 (w1.alloc (.cells #[.slice At t0.length ct, .slice none 0 0] 45)) := below_alloc (Below.refl _ _) _
  have hdk : DeskV (w1.alloc (.cells #[.slice At t0.length ct, .slice none 0 0] 45)) w.heap.size w1.heap.size At ct t0 (.slice none 0 0) [] :=
    ⟨HB.out.size, hc0, hc1, hf0, hf1, Kd.R_below (Kd.R_mono (Kd.R_bound HO.out) (fun k hk => ⟨by have := hk.2.2.1; omega, by simp [Value.ownBlock]⟩)) hba, Kd.R_nil _ _ _ _ _⟩
  have hb2 := bstep HB.out hba
  generalize w1.alloc (.cells #[.slice At t0.length ct, .slice none 0 0] 45) = W1 at hdk hb2 ⊢
  clear hc0 hc1 hf0 hf1 hba HO
  obtain ⟨b, hbe⟩ : ∃ b, w1.heap.size = b := ⟨_, rfl⟩
  rw [hbe] at hdk ⊢
  clear hbe HB
  have hml := World.block_lt_of_cell? w _ HM.out
  have hm1 := (hb2.cell hml).trans HM.out
  refine (strings_Split.calls text ⟨#[10]⟩ (linesOf text) m W1 hm1 (by unfold strings_Split.f linesOf; rw [if_pos ⟨by have := HX.out; omega, by decide⟩])).mono ?_
  rintro e W2 ⟨vl, rfl, hol, hbl⟩
  obtain ⟨Al, cl, rfl⟩ := Kd.R_slice hol
  have hlb : b < W1.heap.size := World.block_lt_of_cell? _ _ hdk.c0
  have HDK := Aside0.mk (hdk.below hbl)
  have HB := Aside0.mk (bstep hb2 hbl)
  have HR := Aside0.mk (show Kd.R Kd.string 9 W2 w.heap.size (fun q => q ≠ b) (.slice Al (linesOf text).length cl) (linesOf text) from
    Kd.R_lower (Kd.R_mono (Kd.R_bound hol) (fun k hk => by have := hk.2.1; omega)) hb2.size)
  obtain ⟨n, hn⟩ : ∃ n, (linesOf text).length = n + 1 := ⟨(linesOf text).length - 1, by have := lines_pos text; omega⟩
  have hcl := (Kd.R_reads' hol).2.1
  rw [hn] at hcl HR ⊢
  have hnb : n ≤ 600 := by have := lines_le text; have := HX.out; omega
  have zn : IntKind.i64.wrap (n : Int) = n := by rw [IntKind.wrap_i64]; omega
  have q2 : (n : Int) ≤ (cl : Int) := by omega
  have q3 : n ≤ cl := by omega
  have HN := Aside0.mk hn
  clear hdk hb2 hol hbl hlb hm1 hn hcl
  go_wp2_with fail
  go_loopg [4, 22] n (fun kq v4 v22 w' => ∃ (i : Int) (t p : List Int) (o : ByteArray) (A : Option Addr) (c : Nat) (vp : Value), v22 = .int .i64 i ∧ v4 = .string o ∧ Aside0 (0 ≤ i ∧ i ≤ n) ∧ Aside0 ((n : Int) - i ≤ kq) ∧ Aside0 (execL step ((linesOf text).dropLast.drop i.toNat) t p o = some ((tf, pf), of)) ∧ Aside0 (DeskV w' w.heap.size b A c t vp p) ∧ Aside0 (Kd.R Kd.string 9 w' w.heap.size (fun q => q ≠ b) (.slice Al (n + 1) cl) (linesOf text)) ∧ Aside0 (Below w.heap.size w w'))
  case atStart => exact ⟨0, _, _, _, _, _, _, rfl, rfl, ⟨by omega⟩, ⟨by omega⟩, HL, HDK, HR, HB⟩
  case round =>
    clear HL HDK HR HB
    obtain ⟨i, t, p, o, A, c, vp, rfl, rfl, HI, HK, HL, HDK, HR, HB⟩ := hrel
    have i0 : 0 ≤ i := HI.out.1
    by_cases ci : i < n
    case pos =>
      obtain ⟨ad, e1, g1⟩ := Kd.at_string (Kd.R_reads' HR.out).2.2 i i0 (by have := HN.out; clear zn; omega)
      subst e1
      obtain ⟨l, hl⟩ : ∃ l, rdOf ByteArray.empty (linesOf text) i = l := ⟨_, rfl⟩
      rw [hl] at g1
      have hdrop : (linesOf text).dropLast.drop i.toNat = l :: (linesOf text).dropLast.drop (i + 1).toNat := lines_drop text i n l HN.out i0 ci hl
      have hle : l.size ≤ 600 := lines_size text l (by
        have : l ∈ (linesOf text).dropLast.drop i.toNat := by rw [hdrop]; exact List.mem_cons_self
        exact (List.dropLast_sublist _).subset (List.mem_of_mem_drop this)) HX.out
      have hel := HL.out
      rw [hdrop] at hel
      simp only [execL] at hel
      obtain ⟨⟨⟨t', p'⟩, s2⟩, hst, hel⟩ := Option.bind_eq_some_iff.1 hel
      by_cases hz : o.size + (s2.size + 1) ≤ 9223372036854775807
      case neg => simp only [if_neg hz] at hel; cases hel
      simp only [if_pos hz] at hel
      have hml := World.block_lt_of_cell? w _ HM.out
      have HC := Aside0.mk (HS.out wr w.heap.size b A c t vp p l _ HDK.out ((HB.out.cell hml).trans HM.out) hle hst)
      have HEL := Aside0.mk hel
      have z1 : (9223372036854775807 < s2.size + 1) = False := eq_false (by omega)
      have z2 : (9223372036854775807 < o.size + (s2.size + 1)) = False := eq_false (by omega)
      have zi : IntKind.i64.wrap (i + 1) = i + 1 := by rw [IntKind.wrap_i64]; have := HI.out; omega
      have HG := Aside0.mk hnb
      clear hl hdrop hle hel hst hz hml hnb
      go_wp2_with fail
      refine HC.out.mono ?_
      rintro e w3 ⟨rfl, hra⟩
      obtain ⟨A', c', vp', hdk'⟩ := hra.desk
      have HDK3 := Aside0.mk hdk'
      have HR3 := Aside0.mk (lines_kept HR.out HDK.out.hp hra.far)
      have HB3 := Aside0.mk (HB.out.trans hra.bl)
      clear hra hdk' HDK HR HB HC HL
      go_wp2
      go_roundg (n - (i.toNat + 1))
      case measure => have := HK.out; omega
      case rel => exact ⟨i + 1, _, _, _, _, _, _, rfl, rfl, ⟨by omega⟩, ⟨by have := HG.out; omega⟩, HEL, HDK3, HR3, HB3⟩
    case neg =>
      have hi : i = n := by have := HI.out; omega
      subst hi
      have hel := HL.out
      rw [show (n : Int).toNat = n from rfl, List.drop_of_length_le (by rw [List.length_dropLast, HN.out]; omega)] at hel
      simp only [execL, Option.some.injEq, Prod.mk.injEq] at hel
      obtain ⟨⟨rfl, rfl⟩, rfl⟩ := hel
      obtain ⟨Ap, cp, rfl⟩ := Kd.R_slice HDK.out.hp
      have hc1 := HDK.out.c1
      have y1 : (9223372036854775807 < o.size + 7) = False := eq_false (by have := HZ.out; omega)
      have y2 : (9223372036854775807 < o.size + 7 + d.size) = False := eq_false (by have := HZ.out; omega)
      have y3 : (9223372036854775807 < o.size + 7 + d.size + 1) = False := eq_false (by have := HZ.out; omega)
      clear HL HDK HR ci HN zn hnb q2 q3
      go_wp2_with (go_at_call 30; with_reducible refine (HD.out _).mono ?_; rintro e w' ⟨rfl, ⟨nd, rfl⟩⟩)
      go_ret
      exact ⟨rfl, pw_below_drewN HB.out _⟩
end Go.Proofs.YtiobedekgnfjcaaGreatDoor.X

namespace Go.Proofs.YtiobedekgnfjcaaGreatDoor.P
open Go.RowKit Go.Proofs.YtiobedekgnfjcaaGreatDoorW.PrintWords Go.Proofs.YtiobedekgnfjcaaGreatDoorW.PrintLast Go.Proofs.YtiobedekgnfjcaaGreatDoorW.PrintMore
set_option linter.unusedVariables false
set_option linter.unusedSimpArgs false

def impl_readNumbers.l0 : Nat → List Int → List ByteArray → Int → Int → Option (List Int × Bool)
 | 0, _, _, _, _ => none
 | k + 1, x7, x19, x20, x21 => if x21 < x20 then (if 0 ≤ x21 then (if x21 < (x19.length : Int) then (if ((rdOf ByteArray.empty x19 x21).size : Int) < 1 then (some (([] : List Int), false)) else (if ((rdOf ByteArray.empty x19 x21).size : Int) > 2 then (some (([] : List Int), false)) else ((strings_Trim.f (rdOf ByteArray.empty x19 x21) (⟨#[48, 49, 50, 51, 52, 53, 54, 55, 56, 57]⟩ : ByteArray)).bind fun t457 => (if t457.toList = ([] : List UInt8) then ((strconv_Atoi_91.f (rdOf ByteArray.empty x19 x21)).bind fun bt458 => (if x7.length < 17592186044416 then (impl_readNumbers.l0 k (x7 ++ [bt458.1]) x19 x20 (wrap64 (x21 + 1))) else (none))) else (some (([] : List Int), false)))))) else (none)) else (none)) else (some (x7, true))
def impl_readNumbers.f (k : Nat) (a0 : ByteArray) (a1 : Int) : Option (List Int × Bool) := (strings_Split.f a0 (⟨#[32]⟩ : ByteArray)).bind fun t450 => (if (t450.length : Int) = a1 then (impl_readNumbers.l0 k (([] : List Int)) t450 (t450.length : Int) 0) else (some (([] : List Int), false)))
set_option maxHeartbeats 8000000 in
set_option maxRecDepth 100000 in
theorem impl_readNumbers.calls (k : Nat) (a0 : ByteArray) (a1 : Int) (r1 : List Int) (r2 : Bool) (ml_ : Int) (w : World) (hm_ : w.cell? ⟨0, 0, none⟩ = some (.int .i64 ml_)) (h : impl_readNumbers.f k a0 a1 = some (r1, r2)) :
  Calls Tryz.prog 48 #[.string a0, .int .i64 a1] w fun e w' => ∃ v0_ : Value, e = .returned (.tuple #[v0_, .bool r2]) ∧ Kd.R (Kd.int .i64) 3 w' w.heap.size (fun _ => True) v0_ r1 ∧ Below w.heap.size w w' := by
 have HM_ := Aside0.mk hm_
 clear hm_
 have HB := Aside0.mk (Below.refl w.heap.size w)
 have H : ((strings_Split.f a0 (⟨#[32]⟩ : ByteArray)).bind fun t450 => (if (t450.length : Int) = a1 then (impl_readNumbers.l0 k (([] : List Int)) t450 (t450.length : Int) 0) else (some (([] : List Int), false)))) = some (r1, r2) := h
 clear h
 replace H := Option.bind_eq_some_iff.mp H
 obtain ⟨t450, A30, H⟩ := H
 replace H : (if (t450.length : Int) = a1 then (impl_readNumbers.l0 k (([] : List Int)) t450 (t450.length : Int) 0) else (some (([] : List Int), false))) = some (r1, r2) := H
 have A3 := Aside0.mk A30
 clear A30
 by_cases c4 : (t450.length : Int) = a1
 ·rw [if_pos c4] at H
  have c4b0 : ((t450.length : Int) == a1) = true := beq_iff_eq.mpr c4
  have c4b1 : ((t450.length : Int) != a1) = false := bne_eq_false_iff_eq.mpr c4
  clear c4
  obtain ⟨y453, hy453⟩ : ∃ y_ : List Int, y_ = (([] : List Int)) := ⟨_, rfl⟩
  replace H : (impl_readNumbers.l0 k y453 t450 (t450.length : Int) 0) = some (r1, r2) := by first | (rw [hy453]; with_reducible exact H) | (have H2_ := (Option.bind_some _ _).symm.trans H; rw [hy453]; with_reducible exact H2_) | (have H2_ := (Option.bind_some _ _).symm.trans H; with_reducible exact H2_) | with_reducible exact H | (rw [hy453]; exact H) | exact H
  have Ny453 := Aside0.mk hy453
  clear hy453
  have H' := Aside0.mk H
  clear H
  go_enter Tryz.func48, Tryz.ntmps48
  go_wp2_with (first | (refine goesL_ (some 13) rfl rfl Tryz.func28 (by kernel_rfl) rfl #[.string a0, .string (⟨#[32]⟩ : ByteArray)] rfl ll_ ?_; (with_reducible refine (strings_Split.calls a0 (⟨#[32]⟩ : ByteArray) t450 ml_ _ HM_.out A3.out).mono ?_); rintro e w5 ⟨v451, rfl, ho0, hb⟩; refine ⟨_, rfl, ?_⟩; have n0_ := Aside0.mk (Kd.R_lower ho0 (below_size (bb_ HB))); have n1_ := Aside0.mk (below_step (bb_ HB) hb); clear HB; have HO452 := n0_; have HB := n1_; clear n0_ n1_; (try clear hb); (try clear hb2); (try clear hk); (try clear hi); (try clear ho0); obtain ⟨Ao6, co6, eo6⟩ := Kd.R_slice HO452.out; subst eo6) | ((with_reducible refine gate_dst (N := 18) rfl ?_); refine Kd.R_lit (Kd.int .i64) _ 3 ?hg (N := 18) ?hd (xs := ([] : List Int)) (inner := []) (ok := fun _ => True) (okp := fun _ => True) ?hr ?hp (fun _ hk => hk) trivial (Below.refl _ _) (Nat.le_refl _) (by simp) ?_; (case hd => rfl); (case hg => rfl); (case hr => first | (go_simp; done) | (go_simp; rfl)); (case hp => exact (Reps.none _ _)); intro v454 w7 ho8 hb hg_ hnew_; clear hg_ hnew_; (first | rw [← Ny453.out] at ho8 | (simp only [Int.reduceToNat] at ho8; rw [← Ny453.out] at ho8)); have n0_ := Aside0.mk (Kd.R_below (rr_ HO452) hb); have n1_ := Aside0.mk (Kd.R_lower ho8 (below_size (bb_ HB))); have n2_ := Aside0.mk (below_step (bb_ HB) hb); clear HO452; clear HB; have HO452 := n0_; have HO455 := n1_; have HB := n2_; clear n0_ n1_ n2_; clear hb ho8))
  go_loopg [7, 21] k (fun kq v7 v21 w' => ∃ (x7_1 : List Int) (x21_1 : Int), v21 = .int .i64 x21_1 ∧ Aside0 (impl_readNumbers.l0 kq x7_1 t450 (t450.length : Int) x21_1 = some (r1, r2)) ∧ Aside0 (kq ≤ k) ∧ Aside0 (Kd.R (Kd.int .i64) 3 w' w.heap.size (fun _ => True) v7 x7_1) ∧ Aside0 (Kd.R Kd.string 9 w' w.heap.size (fun _ => True) (.slice Ao6 t450.length co6) t450) ∧ Aside0 (Below w.heap.size w w'))
  case atStart => exact ⟨(y453), (0), (by first | rfl | (simp; done) | (simp [*]; done)), H', ⟨Nat.le_refl _⟩, ⟨rr_ HO455⟩, ⟨rr_ HO452⟩, ⟨by repeat (first | (with_reducible first | exact HB.out | apply below_alloc | apply pw_below_drewN | apply below_drew1) | exact HB.out)⟩⟩
  case round =>
   clear H'
   try clear c2
   try clear p2
   try clear c4
   try clear c4b0
   try clear c4b1
   obtain ⟨x7_1, x21_1, rfl, HA, HK1, HO_7, HO_19, HB⟩ := hrel
   cases gk with
   | zero => exact absurd HA.out (by simp [impl_readNumbers.l0])
   | succ k1 =>
    have H := HA.out
    clear HA
    simp only [impl_readNumbers.l0] at H
    by_cases c9 : x21_1 < (t450.length : Int)
    ·rw [if_pos c9] at H
     have c9b0 : decide (x21_1 < (t450.length : Int)) = true := decide_eq_true c9
     clear c9
     by_cases c10 : 0 ≤ x21_1
     ·rw [if_pos c10] at H
      have c10b0 : decide (0 ≤ x21_1) = true := decide_eq_true c10
      clear c10
      by_cases c11 : x21_1 < (t450.length : Int)
      ·rw [if_pos c11] at H
       have c11b0 : decide (x21_1 < (t450.length : Int)) = true := decide_eq_true c11
       clear c11
       by_cases c12 : ((rdOf ByteArray.empty t450 x21_1).size : Int) < 1
       ·rw [if_pos c12] at H
        have c12b0 : decide (((rdOf ByteArray.empty t450 x21_1).size : Int) < 1) = true := decide_eq_true c12
        have c12b1 : decide ((rdOf ByteArray.empty t450 x21_1).size < 1) = true := decide_eq_true (by omega)
        clear c12
        simp only [Option.some.injEq, Prod.mk.injEq] at H
        obtain ⟨rfl, rfl⟩ := H
        have p456 : 0 ≤ (x21_1 : Int) := dd_
        have q456 : x21_1 < (t450.length : Int) := dd_
        obtain ⟨ad456, e456, hx456_0⟩ := Kd.at_string (Kd.R_reads' HO_19.out).2.2 x21_1 p456 q456
        cases e456
        replace p456 := eq_true p456
        replace q456 := eq_true q456
        go_wp2
        go_ret2
        exact ⟨_, ee_, by first | exact Kd.R_nil _ _ _ _ _ | exact Kd.N_nil _ _ _ _ _ | exact Kd.V_nil _ _ _ _ _ | exact Kd.Q_nil _ _ _ _ _ | exact Kd.S_nil _ _ _ _ _, bb_ HB⟩
       ·rw [if_neg c12] at H
        have c12b0 : decide (((rdOf ByteArray.empty t450 x21_1).size : Int) < 1) = false := decide_eq_false c12
        have c12b1 : decide ((rdOf ByteArray.empty t450 x21_1).size < 1) = false := decide_eq_false (by omega)
        clear c12
        by_cases c13 : ((rdOf ByteArray.empty t450 x21_1).size : Int) > 2
        ·rw [if_pos c13] at H
         have c13b0 : decide (2 < ((rdOf ByteArray.empty t450 x21_1).size : Int)) = true := decide_eq_true c13
         have c13b1 : decide (2 < (rdOf ByteArray.empty t450 x21_1).size) = true := decide_eq_true (by omega)
         clear c13
         simp only [Option.some.injEq, Prod.mk.injEq] at H
         obtain ⟨rfl, rfl⟩ := H
         have p456 : 0 ≤ (x21_1 : Int) := dd_
         have q456 : x21_1 < (t450.length : Int) := dd_
         obtain ⟨ad456, e456, hx456_0⟩ := Kd.at_string (Kd.R_reads' HO_19.out).2.2 x21_1 p456 q456
         cases e456
         replace p456 := eq_true p456
         replace q456 := eq_true q456
         go_wp2
         go_ret2
         exact ⟨_, ee_, by first | exact Kd.R_nil _ _ _ _ _ | exact Kd.N_nil _ _ _ _ _ | exact Kd.V_nil _ _ _ _ _ | exact Kd.Q_nil _ _ _ _ _ | exact Kd.S_nil _ _ _ _ _, bb_ HB⟩
        ·rw [if_neg c13] at H
         have c13b0 : decide (2 < ((rdOf ByteArray.empty t450 x21_1).size : Int)) = false := decide_eq_false c13
         have c13b1 : decide (2 < (rdOf ByteArray.empty t450 x21_1).size) = false := decide_eq_false (by omega)
         clear c13
         replace H := Option.bind_eq_some_iff.mp H
         obtain ⟨t457, A140, H⟩ := H
         replace H : (if t457.toList = ([] : List UInt8) then ((strconv_Atoi_91.f (rdOf ByteArray.empty t450 x21_1)).bind fun bt458 => (if x7_1.length < 17592186044416 then (impl_readNumbers.l0 k1 (x7_1 ++ [bt458.1]) t450 (t450.length : Int) (wrap64 (x21_1 + 1))) else (none))) else (some (([] : List Int), false))) = some (r1, r2) := H
         have A14 := Aside0.mk A140
         clear A140
         by_cases c15 : t457.toList = ([] : List UInt8)
         ·rw [if_pos c15] at H
          have c15b0 : (t457.toList == ([] : List UInt8)) = true := beq_iff_eq.mpr c15
          have c15b1 : (t457.toList != ([] : List UInt8)) = false := bne_eq_false_iff_eq.mpr c15
          clear c15
          replace H := Option.bind_eq_some_iff.mp H
          obtain ⟨⟨t458, t459⟩, A160, H⟩ := H
          replace H : (if x7_1.length < 17592186044416 then (impl_readNumbers.l0 k1 (x7_1 ++ [t458]) t450 (t450.length : Int) (wrap64 (x21_1 + 1))) else (none)) = some (r1, r2) := H
          have A16 := Aside0.mk A160
          clear A160
          by_cases c17 : x7_1.length < 17592186044416
          ·rw [if_pos c17] at H
           have LMc17 := Aside0.mk c17
           clear c17
           obtain ⟨y460, hy460⟩ : ∃ y_ : List Int, y_ = (x7_1 ++ [t458]) := ⟨_, rfl⟩
           replace H : (impl_readNumbers.l0 k1 y460 t450 (t450.length : Int) (wrap64 (x21_1 + 1))) = some (r1, r2) := by first | (rw [hy460]; with_reducible exact H) | (have H2_ := (Option.bind_some _ _).symm.trans H; rw [hy460]; with_reducible exact H2_) | (have H2_ := (Option.bind_some _ _).symm.trans H; with_reducible exact H2_) | with_reducible exact H | (rw [hy460]; exact H) | exact H
           have Ny460 := Aside0.mk hy460
           clear hy460
           have H' := Aside0.mk H
           clear H
           have p456 : 0 ≤ (x21_1 : Int) := dd_
           have q456 : x21_1 < (t450.length : Int) := dd_
           obtain ⟨ad456, e456, hx456_0⟩ := Kd.at_string (Kd.R_reads' HO_19.out).2.2 x21_1 p456 q456
           cases e456
           replace p456 := eq_true p456
           replace q456 := eq_true q456
           go_wp2_with (first | (go_at_call 90; (with_reducible refine (strings_Trim.calls (rdOf ByteArray.empty t450 x21_1) (⟨#[48, 49, 50, 51, 52, 53, 54, 55, 56, 57]⟩ : ByteArray) t457 _ A14.out).mono ?_); rintro e w18 ⟨rfl, hb⟩; have n0_ := Aside0.mk (Kd.R_below (rr_ HO_7) hb); have n1_ := Aside0.mk (Kd.R_below (rr_ HO_19) hb); have n2_ := Aside0.mk (below_step (bb_ HB) hb); clear HO_7; clear HO_19; clear HB; have HO_7 := n0_; have HO_19 := n1_; have HB := n2_; clear n0_ n1_ n2_; (try clear hb); (try clear hb2); (try clear hk); (try clear hi)) | (refine goesL_ (some 40) rfl rfl Tryz.func91 (by kernel_rfl) rfl #[.string (rdOf ByteArray.empty t450 x21_1)] rfl ll_ ?_; (with_reducible refine (strconv_Atoi_91.calls (rdOf ByteArray.empty t450 x21_1) t458 t459 _ A16.out).mono ?_); rintro e w19 ⟨rfl, hb⟩; refine ⟨_, rfl, ?_⟩; have n0_ := Aside0.mk (Kd.R_below (rr_ HO_7) hb); have n1_ := Aside0.mk (Kd.R_below (rr_ HO_19) hb); have n2_ := Aside0.mk (below_step (bb_ HB) hb); clear HO_7; clear HO_19; clear HB; have HO_7 := n0_; have HO_19 := n1_; have HB := n2_; clear n0_ n1_ n2_; (try clear hb); (try clear hb2); (try clear hk); (try clear hi); (try simp only [errW_none, errW_some])) | (at_builtin; refine Kd.R_append (Kd.int .i64) (w0 := w) w.heap.size rfl (.tmp 43) (.tmp 45) 31 3 (.int .i64 0) 8 rfl Tryz.underlying31 info3 rfl (by decide) (by omega) u7 x7_1 t458 [.int .i64 t458] (fun _ => True) (fun _ => False) rfl rfl ?aP (fun _ hk => hk.elim) ?aF ?aO ?aB ?aS ?aL ?_; (case aP => exact rfl); (case aB => exact (bb_ HB)); (case aF => exact (fun _ _ => trivial)); (case aO => exact (rr_ HO_7)); (case aS => exact (below_size (bb_ HB))); (case aL => have := LMc17.out; omega); intro v461 w20 ho hb hg hat; rw [← Ny460.out] at ho; have n0_ := Aside0.mk (Kd.R_over' (rr_ HO_19) (Kd.R_typed (rr_ HO_7)) (by decide) hg); have n1_ := Aside0.mk (hb); have n2_ := Aside0.mk (ho); clear HO_19; clear HB; clear HO_7; have HO_19 := n0_; have HB := n1_; have HO462 := n2_; clear n0_ n1_ n2_; clear ho hb hg hat))
           go_roundg k1
           case measure => have := HK1.out; omega
           case rel => exact ⟨(y460), (wrap64 (x21_1 + 1)), (by first | rfl | (simp; done) | (simp [*]; done)), H', ⟨by have := HK1.out; omega⟩, ⟨rr_ HO462⟩, ⟨rr_ HO_19⟩, ⟨by repeat (first | (with_reducible first | exact HB.out | apply below_alloc | apply pw_below_drewN | apply below_drew1) | exact HB.out)⟩⟩
          ·rw [if_neg c17] at H
           exact absurd H (by simp)
         ·rw [if_neg c15] at H
          have c15b0 : (t457.toList == ([] : List UInt8)) = false := beq_eq_false_iff_ne.mpr c15
          have c15b1 : (t457.toList != ([] : List UInt8)) = true := bne_iff_ne.mpr c15
          simp only [Option.some.injEq, Prod.mk.injEq] at H
          obtain ⟨rfl, rfl⟩ := H
          have p456 : 0 ≤ (x21_1 : Int) := dd_
          have q456 : x21_1 < (t450.length : Int) := dd_
          obtain ⟨ad456, e456, hx456_0⟩ := Kd.at_string (Kd.R_reads' HO_19.out).2.2 x21_1 p456 q456
          cases e456
          replace p456 := eq_true p456
          replace q456 := eq_true q456
          go_wp2_with (first | (go_at_call 90; (with_reducible refine (strings_Trim.calls (rdOf ByteArray.empty t450 x21_1) (⟨#[48, 49, 50, 51, 52, 53, 54, 55, 56, 57]⟩ : ByteArray) t457 _ A14.out).mono ?_); rintro e w21 ⟨rfl, hb⟩; have n0_ := Aside0.mk (Kd.R_below (rr_ HO_7) hb); have n1_ := Aside0.mk (Kd.R_below (rr_ HO_19) hb); have n2_ := Aside0.mk (below_step (bb_ HB) hb); clear HO_7; clear HO_19; clear HB; have HO_7 := n0_; have HO_19 := n1_; have HB := n2_; clear n0_ n1_ n2_; (try clear hb); (try clear hb2); (try clear hk); (try clear hi)))
          go_ret2
          exact ⟨_, ee_, by first | exact Kd.R_nil _ _ _ _ _ | exact Kd.N_nil _ _ _ _ _ | exact Kd.V_nil _ _ _ _ _ | exact Kd.Q_nil _ _ _ _ _ | exact Kd.S_nil _ _ _ _ _, bb_ HB⟩
      ·rw [if_neg c11] at H
       exact absurd H (by simp)
     ·rw [if_neg c10] at H
      exact absurd H (by simp)
    ·rw [if_neg c9] at H
     have c9b0 : decide (x21_1 < (t450.length : Int)) = false := decide_eq_false c9
     clear c9
     simp only [Option.some.injEq, Prod.mk.injEq] at H
     obtain ⟨rfl, rfl⟩ := H
     go_wp2
     go_ret2
     exact ⟨_, ee_, by (with_reducible repeat (first | apply Kd.R_alloc | apply Kd.R_drewN | apply Kd.R_drew)); exact HO_7.out, bb_ HB⟩
 ·rw [if_neg c4] at H
  have c4b0 : ((t450.length : Int) == a1) = false := beq_eq_false_iff_ne.mpr c4
  have c4b1 : ((t450.length : Int) != a1) = true := bne_iff_ne.mpr c4
  simp only [Option.some.injEq, Prod.mk.injEq] at H
  obtain ⟨rfl, rfl⟩ := H
  go_enter Tryz.func48, Tryz.ntmps48
  go_wp2_with (first | (refine goesL_ (some 13) rfl rfl Tryz.func28 (by kernel_rfl) rfl #[.string a0, .string (⟨#[32]⟩ : ByteArray)] rfl ll_ ?_; (with_reducible refine (strings_Split.calls a0 (⟨#[32]⟩ : ByteArray) t450 ml_ _ HM_.out A3.out).mono ?_); rintro e w22 ⟨v451, rfl, ho0, hb⟩; refine ⟨_, rfl, ?_⟩; have n0_ := Aside0.mk (Kd.R_lower ho0 (below_size (bb_ HB))); have n1_ := Aside0.mk (below_step (bb_ HB) hb); clear HB; have HO452 := n0_; have HB := n1_; clear n0_ n1_; (try clear hb); (try clear hb2); (try clear hk); (try clear hi); (try clear ho0); obtain ⟨Ao23, co23, eo23⟩ := Kd.R_slice HO452.out; subst eo23))
  go_ret2
  exact ⟨_, ee_, by first | exact Kd.R_nil _ _ _ _ _ | exact Kd.N_nil _ _ _ _ _ | exact Kd.V_nil _ _ _ _ _ | exact Kd.Q_nil _ _ _ _ _ | exact Kd.S_nil _ _ _ _ _, bb_ HB⟩
end Go.Proofs.YtiobedekgnfjcaaGreatDoor.P

set_option linter.unusedVariables false
set_option linter.unusedSimpArgs false
namespace Go.Proofs.YtiobedekgnfjcaaGreatDoor.X
open Go.RowKit Go.Proofs.YtiobedekgnfjcaaGreatDoorW.PrintWords Go.Proofs.YtiobedekgnfjcaaGreatDoorW.PrintLast Go.Proofs.YtiobedekgnfjcaaGreatDoor.P

theorem DeskV.laid {W : World} {B b : Nat} {A : Option Addr} {c : Nat} {t : List Int} {vp : Value} {p : List Int} (h : DeskV W B b A c t vp p) {A' : Option Addr} {c' : Nat} {t' : List Int}
    (h' : Kd.R (Kd.int .i64) 3 W B (fun q => q ≠ b) (.slice A' t'.length c') t') :
    DeskV ((W.setCell ⟨b, 0, none⟩ (.slice A' t'.length c')).setCell ⟨b, 1, none⟩ (.slice none 0 0)) B b A' c' t' (.slice none 0 0) [] := by
  have ne : (⟨b, 1, none⟩ : Addr) ≠ ⟨b, 0, none⟩ := by simp
  refine ⟨h.hB, ?_, ?_, ?_, ?_, ?_, Kd.R_nil _ _ _ _ _⟩
  · rw [World.cell?_setCell_other (h := ne)]
    exact World.cell?_setCell_same _ _ _ h.c0
  · exact World.cell?_setCell_same _ _ _ ((World.cell?_setCell_other _ _ _ _ ne.symm).trans h.c1)
  · simpa using h.f0
  · simpa using h.f1
  · exact Kd.R_mono (Kd.R_far (Kd.R_far h' (p := ⟨b, 0, none⟩) (fun k hk => hk) _) (p := ⟨b, 1, none⟩) (fun k hk => hk) _) (fun k hk => ⟨hk, by simp [Value.ownBlock]⟩)
set_option maxRecDepth 100000 in
set_option maxHeartbeats 8000000 in
theorem run_kind_yes (k k' : Nat) {B b : Nat} {A : Option Addr} {c : Nat} {t : List Int} {vp : Value} {p : List Int} (s rest : ByteArray) (m : Int) (W : World) (hd : DeskV W B b A c t vp p) (hs : s.size < 4294967281) (hm : W.cell? ⟨0, 0, none⟩ = some (.int .i64 m))
    (hcut : Lib.cut s.data.toList [32] = ([107, 105, 110, 100], rest.data.toList, true)) (x : Int) (hn : impl_readNumbers.f k rest 1 = some ([x], true)) (t' : List Int) (ht : impl_SystemOf.f k' x = some (t', true)) :
    Calls Tryz.prog 29 #[.pointer (some ⟨b, 0, none⟩), .string s] W fun e w' => e = .returned (.string ⟨#[111, 107]⟩) ∧ RunAt W B b vp t' [] w' := by
  have HC := Aside0.mk (cut_calls s ⟨#[107, 105, 110, 100]⟩ rest true m W hs hm hcut)
  have HM := Aside0.mk hm
  have HR := Aside0.mk (fun w hm => impl_readNumbers.calls k rest 1 _ _ m w hm hn)
  have HT := Aside0.mk (fun w => impl_SystemOf.calls k' x t' true w ht)
  have HD := Aside0.mk hd
  have hbs : b < W.heap.size := World.block_lt_of_cell? W _ hd.c0
  have HBS := Aside0.mk hbs
  clear hs hm hcut hn ht hd hbs
  go_enter Tryz.func29, Tryz.ntmps29
  go_wp2_with (go_at_call 46; refine HC.out.mono ?_; rintro e w1 ⟨rfl, ⟨nd, rfl⟩⟩)
  refine (HR.out _ (by simpa using HM.out)).mono ?_
  rintro e w2 ⟨v, rfl, ho, hb⟩
  obtain ⟨Ao, co, rfl⟩ := Kd.R_slice ho
  obtain ⟨ad, e1, g1⟩ := Kd.at_int (Kd.R_reads' ho).2.2 0 (by omega) (by show (0 : Int) < 1; omega)
  subst e1
  rw [show [x].length = 1 from rfl]
  have g1 : w2.cell? ad = some (.int .i64 x) := g1
  have HB := Aside0.mk (bstep (Drawn0.below (w := W) ⟨⟨nd, rfl⟩⟩) hb)
  clear ho hb HC HR HM
  go_wp2_with fail
  refine (HT.out w2).mono ?_
  rintro e w3 ⟨vt, rfl, hot, hb⟩
  obtain ⟨At, ct, rfl⟩ := Kd.R_slice hot
  have hb3 := bstep HB.out hb
  have hd3 := HD.out.below hb3
  have h1 := hd3.c0
  have h2 := hd3.c1
  have h3 := hd3.f0
  have h4 := hd3.f1
  have HD3 := Aside0.mk hd3
  have HB3 := Aside0.mk hb3
  have HTT := Aside0.mk (show Kd.R (Kd.int .i64) 3 w3 B (fun q => q ≠ b) (.slice At t'.length ct) t' from
    Kd.R_lower (Kd.R_mono (Kd.R_bound hot) (fun k hk => by have := hk.2.1; have := HBS.out; have := HB.out.size; omega)) (by have := HD.out.hB; have := HBS.out; have := HB.out.size; omega))
  clear hot hb hb3 hd3 HB HT g1
  go_wp2
  go_ret
  have hl := HD3.out.laid HTT.out
  refine ⟨rfl, ⟨⟨_, _, _, hl⟩, ?_, fun k hk hkb _ => ?_⟩⟩
  · exact Below.setCell (Below.setCell (HB3.out.mono (by have := HD.out.hB; have := HBS.out; omega)) (p := ⟨b, 0, none⟩) HD.out.hB _) (p := ⟨b, 1, none⟩) HD.out.hB _
  · rw [Below.heap_setCell _ _ _ _ hkb, Below.heap_setCell _ _ _ _ hkb]
    exact HB3.out.block k hk
end Go.Proofs.YtiobedekgnfjcaaGreatDoor.X

set_option linter.unusedVariables false
set_option linter.unusedSimpArgs false
namespace Go.Proofs.YtiobedekgnfjcaaGreatDoor.X
open Go.RowKit Go.Proofs.YtiobedekgnfjcaaGreatDoorW.PrintWords Go.Proofs.YtiobedekgnfjcaaGreatDoorW.PrintLast Go.Proofs.YtiobedekgnfjcaaGreatDoor.P

set_option maxRecDepth 100000 in
set_option maxHeartbeats 8000000 in
theorem run_times_yes (k : Nat) {B b : Nat} {A : Option Addr} {c : Nat} {t : List Int} {vp : Value} {p : List Int} (s rest : ByteArray) (m : Int) (W : World) (hd : DeskV W B b A c t vp p) (hs : s.size < 4294967281) (hm : W.cell? ⟨0, 0, none⟩ = some (.int .i64 m))
    (hcut : Lib.cut s.data.toList [32] = ([116, 105, 109, 101, 115], rest.data.toList, true)) (x y : Int) (hn : impl_readNumbers.f k rest 2 = some ([x, y], true)) (hx : In9 x) (hy : In9 y) (ht : t.length = 81) (r : ByteArray) (hr : strconv_Itoa_30.f (rd t (9 * x + y)) = some r) :
    Calls Tryz.prog 29 #[.pointer (some ⟨b, 0, none⟩), .string s] W fun e w' => e = .returned (.string r) ∧ Below W.heap.size W w' := by
  have HC := Aside0.mk (cut_calls s ⟨#[116, 105, 109, 101, 115]⟩ rest true m W hs hm hcut)
  have HM := Aside0.mk hm
  have HR := Aside0.mk (fun w hm => impl_readNumbers.calls k rest 2 _ _ m w hm hn)
  have HN1 := Aside0.mk (isNine_calls x)
  have HN2 := Aside0.mk (isNine_calls y)
  rw [show isN x = true by unfold isN; simp [hx.1, hx.2]] at HN1
  rw [show isN y = true by unfold isN; simp [hy.1, hy.2]] at HN2
  have HI := Aside0.mk (fun w => strconv_Itoa_30.calls _ _ w hr)
  have HD := Aside0.mk hd
  obtain ⟨x0, x1⟩ := hx
  obtain ⟨y0, y1⟩ := hy
  have z1 : IntKind.i64.wrap (9 * x) = 9 * x := by rw [IntKind.wrap_i64]; omega
  have z2 : IntKind.i64.wrap (9 * x + y) = 9 * x + y := by rw [IntKind.wrap_i64]; omega
  have q0 : 0 ≤ 9 * x + y := by omega
  have q1 : 9 * x + y < 81 := by omega
  have HTL := Aside0.mk ht
  have HXY := Aside0.mk (And.intro x0 y0)
  clear hs hm hcut hn hr hd x0 x1 y0 y1
  go_enter Tryz.func29, Tryz.ntmps29
  go_wp2_with (go_at_call 46; refine HC.out.mono ?_; rintro e w1 ⟨rfl, ⟨nd, rfl⟩⟩)
  refine (HR.out _ (by simpa using HM.out)).mono ?_
  rintro e w2 ⟨v, rfl, ho, hb⟩
  obtain ⟨Ao, co, rfl⟩ := Kd.R_slice ho
  obtain ⟨ad, e1, g1⟩ := Kd.at_int (Kd.R_reads' ho).2.2 0 (by omega) (by show (0 : Int) < 2; omega)
  obtain ⟨ad', e2, g2⟩ := Kd.at_int (Kd.R_reads' ho).2.2 1 (by omega) (by show (1 : Int) < 2; omega)
  subst e1
  cases e2
  rw [show [x, y].length = 2 from rfl]
  have g1 : w2.cell? ad = some (.int .i64 x) := g1
  have g2 : w2.cell? ⟨ad.block, ad.off + 1, none⟩ = some (.int .i64 y) := g2
  have hb2 := bstep (Drawn0.below (w := W) ⟨⟨nd, rfl⟩⟩) hb
  have hd2 := HD.out.below hb2
  have HB := Aside0.mk hb2
  obtain ⟨ta, e3, g3⟩ := Kd.at_int hd2.read (9 * x + y) q0 (by rw [HTL.out]; exact q1)
  subst e3
  have g4 := hd2.c0
  rw [HTL.out] at g4
  clear ho hb HC HR HM hb2 hd2 HD
  go_wp2_with (first | (go_at_call 35; with_reducible refine (HN1.out _).mono ?_; rintro e w' ⟨rfl, ⟨nd, rfl⟩⟩) | (go_at_call 35; with_reducible refine (HN2.out _).mono ?_; rintro e w' ⟨rfl, ⟨nd, rfl⟩⟩))
  go_region_held3 (fun w' => w'.cell? ad = some (.int .i64 x) ∧ w'.cell? ⟨ad.block, ad.off + 1, none⟩ = some (.int .i64 y) ∧ w'.cell? ⟨b, 0, none⟩ = some (.slice (some ta) 81 c) ∧ w'.cell? (ta.add (9 * x + y).toNat) = some (.int .i64 (rd t (9 * x + y))))
    (go_keep)
    (first | (go_at_call 30; with_reducible refine (HI.out _).mono ?_; rintro e w' ⟨rfl, ⟨nd, rfl⟩⟩))
  go_wp2
  go_ret
  exact ⟨rfl, by repeat (first | exact HB.out | apply pw_below_drewN | apply below_drew1)⟩
end Go.Proofs.YtiobedekgnfjcaaGreatDoor.X

set_option linter.unusedVariables false
set_option linter.unusedSimpArgs false
namespace Go.Proofs.YtiobedekgnfjcaaGreatDoor.X
open Go.RowKit Go.Proofs.YtiobedekgnfjcaaGreatDoorW.PrintWords Go.Proofs.YtiobedekgnfjcaaGreatDoorW.PrintLast Go.Proofs.YtiobedekgnfjcaaGreatDoor.P

set_option maxRecDepth 100000 in
set_option maxHeartbeats 8000000 in
theorem run_plain (b : Nat) (s word rest : ByteArray) (m : Int) (W : World) (hs : s.size < 4294967281) (hm : W.cell? ⟨0, 0, none⟩ = some (.int .i64 m))
    (hcut : Lib.cut s.data.toList [32] = (word.data.toList, rest.data.toList, false)) (r : ByteArray)
    (hp : ∀ w, Below W.heap.size W w → Calls Tryz.prog 47 #[.pointer (some ⟨b, 0, none⟩), .string word] w fun e w' => e = .returned (.string r) ∧ Below w.heap.size w w') :
    Calls Tryz.prog 29 #[.pointer (some ⟨b, 0, none⟩), .string s] W fun e w' => e = .returned (.string r) ∧ Below W.heap.size W w' := by
  have HC := Aside0.mk (cut_calls s word rest false m W hs hm hcut)
  have HP := Aside0.mk hp
  clear hs hm hcut hp
  go_enter Tryz.func29, Tryz.ntmps29
  go_wp2_with (go_at_call 46; refine HC.out.mono ?_; rintro e w1 ⟨rfl, ⟨nd, rfl⟩⟩)
  have hb := Drawn0.below (w := W) ⟨⟨nd, rfl⟩⟩
  refine (HP.out _ hb).mono ?_
  rintro e w2 ⟨rfl, hb2⟩
  have HB := Aside0.mk (bstep hb hb2)
  clear hb hb2
  go_wp2
  go_ret
  exact ⟨rfl, HB.out⟩
def bothW : ByteArray := ⟨#[98, 111, 116, 104]⟩
def yesW (x : Bool) : ByteArray := if x = true then ⟨#[121, 101, 115]⟩ else ⟨#[110, 111, 116]⟩
set_option maxRecDepth 100000 in
set_option maxHeartbeats 8000000 in
theorem plain_both {B b : Nat} {A : Option Addr} {c : Nat} {t : List Int} {vp : Value} {p : List Int} (W : World) (hd : DeskV W B b A c t vp p) :
    Calls Tryz.prog 47 #[.pointer (some ⟨b, 0, none⟩), .string bothW] W fun e w' => e = .returned (.string (yesW (sysB t && bothP t))) ∧ Below W.heap.size W w' := by
  have HC := Aside0.mk (systemBoth_calls A c t W hd.read)
  have h1 := hd.c0
  obtain ⟨q, hq⟩ : ∃ q, (sysB t && bothP t) = q := ⟨_, rfl⟩
  rw [hq] at HC ⊢
  have HY := Aside0.mk (fun w => impl_yesNot.calls q (yesW q) w (by cases q <;> rfl))
  clear hd hq
  unfold bothW
  go_enter Tryz.func47, Tryz.ntmps47
  go_wp2_with fail
  refine HC.out.mono ?_
  rintro e w1 ⟨rfl, hb⟩
  have HB := Aside0.mk hb
  clear hb HC
  go_wp2_with (go_at_call 79; refine (HY.out _).mono ?_; rintro e w' ⟨rfl, ⟨nd, rfl⟩⟩)
  go_ret
  exact ⟨rfl, pw_below_drewN HB.out _⟩
end Go.Proofs.YtiobedekgnfjcaaGreatDoor.X

set_option linter.unusedVariables false
set_option linter.unusedSimpArgs false
namespace Go.Proofs.YtiobedekgnfjcaaGreatDoor.X
open Go.RowKit Go.Proofs.YtiobedekgnfjcaaGreatDoorW.PrintWords Go.Proofs.YtiobedekgnfjcaaGreatDoorW.PrintLast Go.Proofs.YtiobedekgnfjcaaGreatDoor.P

def kindOut (k : Nat) : List Int × Bool → Option ((List Int × List Int) × ByteArray)
  | ([x], true) => (impl_SystemOf.f k x).bind fun r => if r.2 = true then some ((r.1, []), ⟨#[111, 107]⟩) else none
  | _ => none
def timesOut (t p : List Int) : List Int × Bool → Option ((List Int × List Int) × ByteArray)
  | ([x, y], true) => if isN x = true ∧ isN y = true ∧ t.length = 81 then (strconv_Itoa_30.f (rd t (9 * x + y))).map fun d => ((t, p), d) else none
  | _ => none
def stepKind (k : Nat) : StepF := fun t p l =>
  if (Lib.cut l.data.toList [32]).2.2 = false then (if (Lib.cut l.data.toList [32]).1 = [98, 111, 116, 104] then some ((t, p), yesW (sysB t && bothP t)) else none)
  else if (Lib.cut l.data.toList [32]).1 = [107, 105, 110, 100] then (impl_readNumbers.f k ⟨(Lib.cut l.data.toList [32]).2.1.toArray⟩ 1).bind (kindOut k)
  else if (Lib.cut l.data.toList [32]).1 = [116, 105, 109, 101, 115] then (impl_readNumbers.f k ⟨(Lib.cut l.data.toList [32]).2.1.toArray⟩ 2).bind (timesOut t p)
  else none
theorem stepKind_ok (k : Nat) (m : Int) : StepOk (stepKind k) m := by
  intro W B b A c t vp p l r hd hm hl h
  unfold stepKind at h
  obtain ⟨⟨cw, cr, ch⟩, hc⟩ : ∃ q, Lib.cut l.data.toList [32] = q := ⟨_, rfl⟩
  simp only [hc] at h
  cases ch with
  | false =>
    rw [if_pos rfl] at h
    by_cases hb : cw = [98, 111, 116, 104]
    case neg => rw [if_neg hb] at h; cases h
    rw [if_pos hb] at h
    obtain rfl := Option.some.inj h
    subst hb
    refine (run_plain b l bothW ⟨cr.toArray⟩ m W (by omega) hm hc _ (fun w hw => plain_both w (hd.below hw))).mono ?_
    rintro e w' ⟨rfl, hb⟩
    exact ⟨rfl, RunAt.same hd hb⟩
  | true =>
    rw [if_neg (by decide)] at h
    by_cases h1 : cw = [107, 105, 110, 100]
    · rw [if_pos h1] at h
      subst h1
      obtain ⟨⟨n, ok⟩, hn, ho⟩ := Option.bind_eq_some_iff.1 h
      unfold kindOut at ho
      split at ho
      · rename_i x heq
        obtain ⟨rfl, rfl⟩ := Prod.mk.inj heq
        obtain ⟨⟨t', fine⟩, ht, ho⟩ := Option.bind_eq_some_iff.1 ho
        cases fine with
        | false => cases ho
        | true =>
          obtain rfl := Option.some.inj ho
          exact run_kind_yes k k l ⟨cr.toArray⟩ m W hd (by omega) hm hc x hn t' ht
      · cases ho
    · rw [if_neg h1] at h
      by_cases h2 : cw = [116, 105, 109, 101, 115]
      case neg => rw [if_neg h2] at h; cases h
      rw [if_pos h2] at h
      subst h2
      obtain ⟨⟨n, ok⟩, hn, ho⟩ := Option.bind_eq_some_iff.1 h
      unfold timesOut at ho
      split at ho
      · rename_i x y heq
        obtain ⟨rfl, rfl⟩ := Prod.mk.inj heq
        by_cases hi : isN x = true ∧ isN y = true ∧ t.length = 81
        case neg => rw [if_neg hi] at ho; cases ho
        rw [if_pos hi] at ho
        obtain ⟨d, hd', he⟩ := Option.map_eq_some_iff.1 ho
        subst he
        have h9 : ∀ {z : Int}, isN z = true → In9 z := fun {z} hz => by unfold isN at hz; simp only [Bool.and_eq_true, decide_eq_true_eq] at hz; exact hz
        refine (run_times_yes k l ⟨cr.toArray⟩ m W hd (by omega) hm hc x y hn (h9 hi.1) (h9 hi.2.1) hi.2.2 d hd').mono ?_
        rintro e w' ⟨rfl, hb⟩
        exact ⟨rfl, RunAt.same hd hb⟩
      · cases ho
end Go.Proofs.YtiobedekgnfjcaaGreatDoor.X
namespace Go.Proofs.YtiobedekgnfjcaaGreatDoor.P
open Go.RowKit Go.Proofs.YtiobedekgnfjcaaGreatDoorW.PrintWords Go.Proofs.YtiobedekgnfjcaaGreatDoorW.PrintLast
def impl_Execute.f (a0 : ByteArray) : Option ByteArray := X.execF (X.stepKind 100) 100 a0
theorem impl_Execute.calls (a0 : ByteArray) (r : ByteArray) (m : Int) (w : World) (hm : w.cell? ⟨0, 0, none⟩ = some (.int .i64 m)) (h : impl_Execute.f a0 = some r) :
    Calls Tryz.prog 10 #[.string a0] w fun e w' => e = .returned (.string r) ∧ Below w.heap.size w w' :=
  X.execute_calls _ m (X.stepKind_ok 100 m) 100 a0 r w hm h
end Go.Proofs.YtiobedekgnfjcaaGreatDoor.P

namespace Go.Proofs.YtiobedekgnfjcaaGreatDoor.P
open Go.RowKit Go.Proofs.YtiobedekgnfjcaaGreatDoorW.PrintWords Go.Proofs.YtiobedekgnfjcaaGreatDoorW.PrintLast
set_option linter.unusedVariables false
set_option linter.unusedSimpArgs false

def laws_FnExecuteKind.j0 : Nat → Int → List Int → Bool → List Int → Bool → Bool → Option (Bool)
 | 0, _, _, _, _, _, _ => none
 | k + 1, x3, x4, x5, x6, x7, x36 => if x36 = true then (if (x5 == x7) = true then ((laws_sameInts.f k x4 x6).bind fun t532 => (some t532)) else (some false)) else ((impl_SystemBoth.f x4).bind fun t533 => (if t533 = true then ((laws_digits.f k x3).bind fun t534 => (if 5 + t534.size ≤ 9223372036854775807 then (if ((⟨#[107, 105, 110, 100, 32]⟩ : ByteArray) ++ t534).size + 16 ≤ 9223372036854775807 then ((impl_Execute.f (((⟨#[107, 105, 110, 100, 32]⟩ : ByteArray) ++ t534) ++ (⟨#[10, 98, 111, 116, 104, 10, 116, 105, 109, 101, 115, 32, 51, 32, 52, 10]⟩ : ByteArray))).bind fun t535 => (if 3 + 4 ≤ 9223372036854775807 then (if 31 < (x4.length : Int) then ((laws_digits.f k (rd x4 31)).bind fun t537 => (if 6 + t537.size ≤ 9223372036854775807 then (if (((⟨#[111, 107, 10]⟩ : ByteArray) ++ (⟨#[121, 101, 115, 10]⟩ : ByteArray)) ++ t537).size + 10 ≤ 9223372036854775807 then (some (t535.toList == ((((⟨#[111, 107, 10]⟩ : ByteArray) ++ (⟨#[121, 101, 115, 10]⟩ : ByteArray)) ++ t537) ++ (⟨#[10, 112, 111, 105, 110, 116, 115, 32, 48, 10]⟩ : ByteArray)).toList)) else (none)) else (none))) else (none)) else (none))) else (none)) else (none))) else ((laws_digits.f k x3).bind fun t538 => (if 5 + t538.size ≤ 9223372036854775807 then (if ((⟨#[107, 105, 110, 100, 32]⟩ : ByteArray) ++ t538).size + 16 ≤ 9223372036854775807 then ((impl_Execute.f (((⟨#[107, 105, 110, 100, 32]⟩ : ByteArray) ++ t538) ++ (⟨#[10, 98, 111, 116, 104, 10, 116, 105, 109, 101, 115, 32, 51, 32, 52, 10]⟩ : ByteArray))).bind fun t539 => (if 3 + 4 ≤ 9223372036854775807 then (if 31 < (x4.length : Int) then ((laws_digits.f k (rd x4 31)).bind fun t541 => (if 6 + t541.size ≤ 9223372036854775807 then (if (((⟨#[111, 107, 10]⟩ : ByteArray) ++ (⟨#[110, 111, 116, 10]⟩ : ByteArray)) ++ t541).size + 10 ≤ 9223372036854775807 then (some (t539.toList == ((((⟨#[111, 107, 10]⟩ : ByteArray) ++ (⟨#[110, 111, 116, 10]⟩ : ByteArray)) ++ t541) ++ (⟨#[10, 112, 111, 105, 110, 116, 115, 32, 48, 10]⟩ : ByteArray)).toList)) else (none)) else (none))) else (none)) else (none))) else (none)) else (none)))))
def laws_FnExecuteKind.f (k : Nat) (l0 : List Int) : Option (Bool) := if (l0.length : Int) > 1048576 then (some true) else ((spec_DrawSystemOf.f k l0).bind fun t522 => ((impl_SystemOf.f k t522).bind fun bt523 => ((spec_SystemOf.f k t522).bind fun bt527 => (if (bt523.2 != bt527.2) = true then (laws_FnExecuteKind.j0 k t522 bt523.1 bt523.2 bt527.1 bt527.2 true) else ((laws_sameInts.f k bt523.1 bt527.1).bind fun t531 => (if t531 = true then (laws_FnExecuteKind.j0 k t522 bt523.1 bt523.2 bt527.1 bt527.2 (!bt523.2)) else (laws_FnExecuteKind.j0 k t522 bt523.1 bt523.2 bt527.1 bt527.2 true)))))))
def laws_FnExecuteKind.T11 : Bool × List (List Nat × List Nat) := (true, [([], []), ([0], [0]), ([1], [1]), ([2], [2]), ([3, 1], [3]), ([], []), ([5], [5]), ([], []), ([7], [7]), ([8], [8]), ([9, 4], [9]), ([6, 10], [6, 10]), ([11], [11]), ([4, 12], [4, 12]), ([13, 10, 0, 1, 2, 3, 4, 5, 6, 7, 8, 9, 10, 11, 12, 13], [13])])
def laws_FnExecuteKind.B11 : List Nat := [0, 1, 3, 7, 15, 0, 32, 0, 128, 384, 927, 2047, 4095, 8191, 16383]
theorem laws_FnExecuteKind.tab11 : rtab .any (opsOf Tryz.f7 11) = laws_FnExecuteKind.T11 := by kernel_rfl
theorem laws_FnExecuteKind.bits11 : waitsOk laws_FnExecuteKind.T11.2 laws_FnExecuteKind.B11 = true := by kernel_rfl
set_option maxHeartbeats 8000000 in
set_option maxRecDepth 100000 in
theorem laws_FnExecuteKind.calls (k : Nat) (A0 : Option Addr) (c0 : Nat) (l0 : List Int) (r : Bool) (ml_ : Int) (w : World) (hm_ : w.cell? ⟨0, 0, none⟩ = some (.int .i64 ml_)) (hr0 : Kd.C (Kd.int .u8) w A0 l0.length l0) (hc0 : l0.length ≤ c0) (h : laws_FnExecuteKind.f k l0 = some r) :
  Calls Tryz.prog 7 #[.slice A0 l0.length c0] w fun e w' => e = .returned (.bool r) ∧ Below w.heap.size w w' := by
 have HR0 := Aside0.mk hr0
 have HC0 := Aside0.mk hc0
 clear hr0 hc0
 have HM_ := Aside0.mk hm_
 clear hm_
 have HB := Aside0.mk (Below.refl w.heap.size w)
 have H : (if (l0.length : Int) > 1048576 then (some true) else ((spec_DrawSystemOf.f k l0).bind fun t522 => ((impl_SystemOf.f k t522).bind fun bt523 => ((spec_SystemOf.f k t522).bind fun bt527 => (if (bt523.2 != bt527.2) = true then (laws_FnExecuteKind.j0 k t522 bt523.1 bt523.2 bt527.1 bt527.2 true) else ((laws_sameInts.f k bt523.1 bt527.1).bind fun t531 => (if t531 = true then (laws_FnExecuteKind.j0 k t522 bt523.1 bt523.2 bt527.1 bt527.2 (!bt523.2)) else (laws_FnExecuteKind.j0 k t522 bt523.1 bt523.2 bt527.1 bt527.2 true)))))))) = some r := h
 clear h
 by_cases c2 : (l0.length : Int) > 1048576
 ·rw [if_pos c2] at H
  have c2b0 : decide (1048576 < (l0.length : Int)) = true := decide_eq_true c2
  have c2b1 : decide (1048576 < l0.length) = true := decide_eq_true (by omega)
  clear c2
  obtain rfl := Option.some.inj H
  go_enter Tryz.func7, Tryz.ntmps7
  go_wp2
  go_ret
  exact ⟨ee_, bb_ HB⟩
 ·rw [if_neg c2] at H
  have c2b0 : decide (1048576 < (l0.length : Int)) = false := decide_eq_false c2
  have c2b1 : decide (1048576 < l0.length) = false := decide_eq_false (by omega)
  clear c2
  replace H := Option.bind_eq_some_iff.mp H
  obtain ⟨t522, A30, H⟩ := H
  replace H : ((impl_SystemOf.f k t522).bind fun bt523 => ((spec_SystemOf.f k t522).bind fun bt527 => (if (bt523.2 != bt527.2) = true then (laws_FnExecuteKind.j0 k t522 bt523.1 bt523.2 bt527.1 bt527.2 true) else ((laws_sameInts.f k bt523.1 bt527.1).bind fun t531 => (if t531 = true then (laws_FnExecuteKind.j0 k t522 bt523.1 bt523.2 bt527.1 bt527.2 (!bt523.2)) else (laws_FnExecuteKind.j0 k t522 bt523.1 bt523.2 bt527.1 bt527.2 true)))))) = some r := H
  have A3 := Aside0.mk A30
  clear A30
  replace H := Option.bind_eq_some_iff.mp H
  obtain ⟨⟨t523, t524⟩, A40, H⟩ := H
  replace H : ((spec_SystemOf.f k t522).bind fun bt527 => (if (t524 != bt527.2) = true then (laws_FnExecuteKind.j0 k t522 t523 t524 bt527.1 bt527.2 true) else ((laws_sameInts.f k t523 bt527.1).bind fun t531 => (if t531 = true then (laws_FnExecuteKind.j0 k t522 t523 t524 bt527.1 bt527.2 (!t524)) else (laws_FnExecuteKind.j0 k t522 t523 t524 bt527.1 bt527.2 true))))) = some r := H
  have A4 := Aside0.mk A40
  clear A40
  replace H := Option.bind_eq_some_iff.mp H
  obtain ⟨⟨t527, t528⟩, A50, H⟩ := H
  replace H : (if (t524 != t528) = true then (laws_FnExecuteKind.j0 k t522 t523 t524 t527 t528 true) else ((laws_sameInts.f k t523 t527).bind fun t531 => (if t531 = true then (laws_FnExecuteKind.j0 k t522 t523 t524 t527 t528 (!t524)) else (laws_FnExecuteKind.j0 k t522 t523 t524 t527 t528 true)))) = some r := H
  have A5 := Aside0.mk A50
  clear A50
  have HC6 := Aside0.mk H
  clear H
  go_enter Tryz.func7, Tryz.ntmps7
  go_upto_region 6 with (first | (refine goesL_ (some 13) rfl rfl Tryz.func18 (by kernel_rfl) rfl #[.slice A0 l0.length c0] rfl ll_ ?_; (with_reducible refine (spec_DrawSystemOf.calls k _ _ l0 t522 _ ?side1 ?side2 A3.out).mono ?_); (case side1 => exact ss_ HR0); (case side2 => exact HC0.out); rintro e w7 ⟨rfl, hb⟩; refine ⟨_, rfl, ?_⟩; have n0_ := Aside0.mk (below_step (bb_ HB) hb); clear HB; have HB := n0_; clear n0_; (try clear hb); (try clear hb2); (try clear hk); (try clear hi)) | (refine goesL_ (some 16) rfl rfl Tryz.func19 (by kernel_rfl) rfl #[.int .i64 t522] rfl ll_ ?_; (with_reducible refine (impl_SystemOf.calls k t522 t523 t524 _ A4.out).mono ?_); rintro e w8 ⟨v525, rfl, ho0, hb⟩; refine ⟨_, rfl, ?_⟩; have n0_ := Aside0.mk (Kd.R_lower ho0 (below_size (bb_ HB))); have n1_ := Aside0.mk (below_step (bb_ HB) hb); clear HB; have HO526 := n0_; have HB := n1_; clear n0_ n1_; (try clear hb); (try clear hb2); (try clear hk); (try clear hi); (try clear ho0)) | (refine goesL_ (some 21) rfl rfl Tryz.func20 (by kernel_rfl) rfl #[.int .i64 t522] rfl ll_ ?_; (with_reducible refine (spec_SystemOf.calls k t522 t527 t528 _ A5.out).mono ?_); rintro e w9 ⟨v529, rfl, ho0, hb⟩; refine ⟨_, rfl, ?_⟩; have n0_ := Aside0.mk (Kd.R_elder' (rr_ HO526) (Kd.R_base ho0) hb); have n1_ := Aside0.mk (Kd.R_lower (Kd.R_new' ho0 (Kd.R_lt (rr_ HO526))) (below_size (bb_ HB))); have n2_ := Aside0.mk (below_step (bb_ HB) hb); clear HO526; clear HB; have HO526 := n0_; have HO530 := n1_; have HB := n2_; clear n0_ n1_ n2_; (try clear hb); (try clear hb2); (try clear hk); (try clear hi); (try clear ho0)))
  (try simp only [Act.put, List.setIfInBounds_toArray, List.set_cons_zero, List.set_cons_succ])
  go_cut [36] (fun v36 wc => ∃ (kq : Nat) (x36_5 : Bool), v36 = .bool x36_5 ∧ Aside0 (laws_FnExecuteKind.j0 kq t522 t523 t524 t527 t528 x36_5 = some r) ∧ Aside0 (kq ≤ k) ∧ Aside0 (Kd.R (Kd.int .i64) 3 wc w.heap.size (fun k_ => some k_ ≠ (v529 : Value).ownBlock) v525 t523) ∧ Aside0 (Kd.R (Kd.int .i64) 3 wc w.heap.size (fun k_ => some k_ ≠ (v525 : Value).ownBlock) v529 t527) ∧ Aside0 (Below w.heap.size w wc))
  case first =>
   have H := HC6.out
   clear HC6
   by_cases c10 : (t524 != t528) = true
   ·rw [if_pos c10] at H
    have c10b0 : (t524 != t528) = true := c10
    (try (have c10b1 : decide (t524 = t528) = false := by simpa using c10))
    (try (have c10b2 : (t524 == t528) = false := by simpa using c10))
    (try (have c10b3 : ¬ (t524 = t528) := by simpa using c10))
    clear c10
    (first | rw [c10b0] | (simp only [i64_w, i32_w]; rw [c10b0]) | skip)
    have H' := Aside0.mk H
    clear H
    go_wp2
    go_meet
    case rel => exact ⟨_, (true), (by first | rfl | (simp; done) | (simp [*]; done)), H', ⟨by first | omega | exact Nat.le_refl _⟩, ⟨by (with_reducible repeat (first | apply Kd.R_alloc | apply Kd.R_drewN | apply Kd.R_drew)); exact Kd.R_mono HO526.out (fun _ hk => hk.2)⟩, ⟨by (with_reducible repeat (first | apply Kd.R_alloc | apply Kd.R_drewN | apply Kd.R_drew)); exact Kd.R_mono HO530.out (fun _ hk => hk.2)⟩, ⟨by repeat (first | (with_reducible first | exact HB.out | apply below_alloc | apply pw_below_drewN | apply below_drew1) | exact HB.out)⟩⟩
   ·rw [if_neg c10] at H
    have c10b0 : (t524 != t528) = false := by simpa using c10
    (try (have c10b1 : decide (t524 = t528) = true := by simpa using c10))
    (try (have c10b2 : (t524 == t528) = true := by simpa using c10))
    clear c10
    (first | rw [c10b0] | (simp only [i64_w, i32_w]; rw [c10b0]) | skip)
    replace H := Option.bind_eq_some_iff.mp H
    obtain ⟨t531, A110, H⟩ := H
    replace H : (if t531 = true then (laws_FnExecuteKind.j0 k t522 t523 t524 t527 t528 (!t524)) else (laws_FnExecuteKind.j0 k t522 t523 t524 t527 t528 true)) = some r := H
    have A11 := Aside0.mk A110
    clear A110
    by_cases c12 : t531 = true
    ·subst c12
     have H1 : (laws_FnExecuteKind.j0 k t522 t523 t524 t527 t528 (!t524)) = some r := by rw [if_pos rfl] at H; exact H
     clear H
     have H := H1
     clear H1
     have H' := Aside0.mk H
     clear H
     obtain ⟨Ao13, co13, eo13⟩ := Kd.R_slice HO526.out
     subst eo13
     obtain ⟨Ao14, co14, eo14⟩ := Kd.R_slice HO530.out
     subst eo14
     go_wp2_with (first | (go_at_call 21; (with_reducible refine (laws_sameInts.calls k _ _ t523 _ _ t527 true _ ?side1 ?side2 ?side3 ?side4 A11.out).mono ?_); (case side1 => exact cc_ HO526); (case side2 => exact (Kd.R_reads' HO526.out).2.1); (case side3 => exact cc_ HO530); (case side4 => exact (Kd.R_reads' HO530.out).2.1); rintro e w' ⟨rfl, ⟨nd, rfl⟩⟩))
     go_meet
     case rel => exact ⟨_, (!t524), (by first | rfl | (simp; done) | (simp [*]; done)), H', ⟨by first | omega | exact Nat.le_refl _⟩, ⟨by (with_reducible repeat (first | apply Kd.R_alloc | apply Kd.R_drewN | apply Kd.R_drew)); exact Kd.R_mono HO526.out (fun _ hk => hk.2)⟩, ⟨by (with_reducible repeat (first | apply Kd.R_alloc | apply Kd.R_drewN | apply Kd.R_drew)); exact Kd.R_mono HO530.out (fun _ hk => hk.2)⟩, ⟨by repeat (first | (with_reducible first | exact HB.out | apply below_alloc | apply pw_below_drewN | apply below_drew1) | exact HB.out)⟩⟩
    ·replace c12 := Bool.eq_false_iff.mpr c12
     subst c12
     have H1 : (laws_FnExecuteKind.j0 k t522 t523 t524 t527 t528 true) = some r := by rw [if_neg (show ¬ (false = true) by decide)] at H; exact H
     clear H
     have H := H1
     clear H1
     have H' := Aside0.mk H
     clear H
     obtain ⟨Ao15, co15, eo15⟩ := Kd.R_slice HO526.out
     subst eo15
     obtain ⟨Ao16, co16, eo16⟩ := Kd.R_slice HO530.out
     subst eo16
     go_wp2_with (first | (go_at_call 21; (with_reducible refine (laws_sameInts.calls k _ _ t523 _ _ t527 false _ ?side1 ?side2 ?side3 ?side4 A11.out).mono ?_); (case side1 => exact cc_ HO526); (case side2 => exact (Kd.R_reads' HO526.out).2.1); (case side3 => exact cc_ HO530); (case side4 => exact (Kd.R_reads' HO530.out).2.1); rintro e w' ⟨rfl, ⟨nd, rfl⟩⟩))
     go_meet
     case rel => exact ⟨_, (true), (by first | rfl | (simp; done) | (simp [*]; done)), H', ⟨by first | omega | exact Nat.le_refl _⟩, ⟨by (with_reducible repeat (first | apply Kd.R_alloc | apply Kd.R_drewN | apply Kd.R_drew)); exact Kd.R_mono HO526.out (fun _ hk => hk.2)⟩, ⟨by (with_reducible repeat (first | apply Kd.R_alloc | apply Kd.R_drewN | apply Kd.R_drew)); exact Kd.R_mono HO530.out (fun _ hk => hk.2)⟩, ⟨by repeat (first | (with_reducible first | exact HB.out | apply below_alloc | apply pw_below_drewN | apply below_drew1) | exact HB.out)⟩⟩
  case rest =>
   clear HC6
   try clear c1
   try clear c2
   try clear c2b0
   try clear c2b1
   try clear p2
   try clear c7
   try clear c10
   try clear c10b0
   try clear c10b1
   try clear c10b2
   try clear c12
   obtain ⟨kq, x36_5, rfl, HA, HJ5, HO_4, HO_6, HB⟩ := hcut
   cases kq with
   | zero => exact absurd HA.out (by simp [laws_FnExecuteKind.j0])
   | succ kj5 =>
    have H := HA.out
    clear HA
    simp only [laws_FnExecuteKind.j0] at H
    by_cases c17 : x36_5 = true
    ·subst c17
     have H1 : (if (t524 == t528) = true then ((laws_sameInts.f kj5 t523 t527).bind fun t532 => (some t532)) else (some false)) = some r := by rw [if_pos rfl] at H; exact H
     clear H
     have H := H1
     clear H1
     by_cases c18 : (t524 == t528) = true
     ·rw [if_pos c18] at H
      have c18b0 : (t524 == t528) = true := c18
      (try (have c18b1 : decide (t524 = t528) = true := by simpa using c18))
      (try (have c18b2 : (t524 == t528) = true := by simpa using c18))
      clear c18
      replace H := Option.bind_eq_some_iff.mp H
      obtain ⟨t532, A190, H⟩ := H
      replace H : (some t532) = some r := H
      have A19 := Aside0.mk A190
      clear A190
      obtain rfl := Option.some.inj H
      obtain ⟨Ao20, co20, eo20⟩ := Kd.R_slice HO_4.out
      subst eo20
      obtain ⟨Ao21, co21, eo21⟩ := Kd.R_slice HO_6.out
      subst eo21
      go_wp2_with (first | (go_at_call 21; (with_reducible refine (laws_sameInts.calls kj5 _ _ t523 _ _ t527 t532 _ ?side1 ?side2 ?side3 ?side4 A19.out).mono ?_); (case side1 => exact cc_ HO_4); (case side2 => exact (Kd.R_reads' HO_4.out).2.1); (case side3 => exact cc_ HO_6); (case side4 => exact (Kd.R_reads' HO_6.out).2.1); rintro e w' ⟨rfl, ⟨nd, rfl⟩⟩))
      go_ret
      exact ⟨ee_, bb_ HB⟩
     ·rw [if_neg c18] at H
      have c18b0 : (t524 == t528) = false := by simpa using c18
      (try (have c18b1 : decide (t524 = t528) = false := by simpa using c18))
      (try (have c18b2 : (t524 == t528) = false := by simpa using c18))
      (try (have c18b3 : ¬ (t524 = t528) := by simpa using c18))
      clear c18
      obtain rfl := Option.some.inj H
      go_wp2
      go_ret
      exact ⟨ee_, bb_ HB⟩
    ·replace c17 := Bool.eq_false_iff.mpr c17
     subst c17
     have H1 : ((impl_SystemBoth.f t523).bind fun t533 => (if t533 = true then ((laws_digits.f kj5 t522).bind fun t534 => (if 5 + t534.size ≤ 9223372036854775807 then (if ((⟨#[107, 105, 110, 100, 32]⟩ : ByteArray) ++ t534).size + 16 ≤ 9223372036854775807 then ((impl_Execute.f (((⟨#[107, 105, 110, 100, 32]⟩ : ByteArray) ++ t534) ++ (⟨#[10, 98, 111, 116, 104, 10, 116, 105, 109, 101, 115, 32, 51, 32, 52, 10]⟩ : ByteArray))).bind fun t535 => (if 3 + 4 ≤ 9223372036854775807 then (if 31 < (t523.length : Int) then ((laws_digits.f kj5 (rd t523 31)).bind fun t537 => (if 6 + t537.size ≤ 9223372036854775807 then (if (((⟨#[111, 107, 10]⟩ : ByteArray) ++ (⟨#[121, 101, 115, 10]⟩ : ByteArray)) ++ t537).size + 10 ≤ 9223372036854775807 then (some (t535.toList == ((((⟨#[111, 107, 10]⟩ : ByteArray) ++ (⟨#[121, 101, 115, 10]⟩ : ByteArray)) ++ t537) ++ (⟨#[10, 112, 111, 105, 110, 116, 115, 32, 48, 10]⟩ : ByteArray)).toList)) else (none)) else (none))) else (none)) else (none))) else (none)) else (none))) else ((laws_digits.f kj5 t522).bind fun t538 => (if 5 + t538.size ≤ 9223372036854775807 then (if ((⟨#[107, 105, 110, 100, 32]⟩ : ByteArray) ++ t538).size + 16 ≤ 9223372036854775807 then ((impl_Execute.f (((⟨#[107, 105, 110, 100, 32]⟩ : ByteArray) ++ t538) ++ (⟨#[10, 98, 111, 116, 104, 10, 116, 105, 109, 101, 115, 32, 51, 32, 52, 10]⟩ : ByteArray))).bind fun t539 => (if 3 + 4 ≤ 9223372036854775807 then (if 31 < (t523.length : Int) then ((laws_digits.f kj5 (rd t523 31)).bind fun t541 => (if 6 + t541.size ≤ 9223372036854775807 then (if (((⟨#[111, 107, 10]⟩ : ByteArray) ++ (⟨#[110, 111, 116, 10]⟩ : ByteArray)) ++ t541).size + 10 ≤ 9223372036854775807 then (some (t539.toList == ((((⟨#[111, 107, 10]⟩ : ByteArray) ++ (⟨#[110, 111, 116, 10]⟩ : ByteArray)) ++ t541) ++ (⟨#[10, 112, 111, 105, 110, 116, 115, 32, 48, 10]⟩ : ByteArray)).toList)) else (none)) else (none))) else (none)) else (none))) else (none)) else (none))))) = some r := by rw [if_neg (show ¬ (false = true) by decide)] at H; exact H
     clear H
     have H := H1
     clear H1
     replace H := Option.bind_eq_some_iff.mp H
     obtain ⟨t533, A220, H⟩ := H
     replace H : (if t533 = true then ((laws_digits.f kj5 t522).bind fun t534 => (if 5 + t534.size ≤ 9223372036854775807 then (if ((⟨#[107, 105, 110, 100, 32]⟩ : ByteArray) ++ t534).size + 16 ≤ 9223372036854775807 then ((impl_Execute.f (((⟨#[107, 105, 110, 100, 32]⟩ : ByteArray) ++ t534) ++ (⟨#[10, 98, 111, 116, 104, 10, 116, 105, 109, 101, 115, 32, 51, 32, 52, 10]⟩ : ByteArray))).bind fun t535 => (if 3 + 4 ≤ 9223372036854775807 then (if 31 < (t523.length : Int) then ((laws_digits.f kj5 (rd t523 31)).bind fun t537 => (if 6 + t537.size ≤ 9223372036854775807 then (if (((⟨#[111, 107, 10]⟩ : ByteArray) ++ (⟨#[121, 101, 115, 10]⟩ : ByteArray)) ++ t537).size + 10 ≤ 9223372036854775807 then (some (t535.toList == ((((⟨#[111, 107, 10]⟩ : ByteArray) ++ (⟨#[121, 101, 115, 10]⟩ : ByteArray)) ++ t537) ++ (⟨#[10, 112, 111, 105, 110, 116, 115, 32, 48, 10]⟩ : ByteArray)).toList)) else (none)) else (none))) else (none)) else (none))) else (none)) else (none))) else ((laws_digits.f kj5 t522).bind fun t538 => (if 5 + t538.size ≤ 9223372036854775807 then (if ((⟨#[107, 105, 110, 100, 32]⟩ : ByteArray) ++ t538).size + 16 ≤ 9223372036854775807 then ((impl_Execute.f (((⟨#[107, 105, 110, 100, 32]⟩ : ByteArray) ++ t538) ++ (⟨#[10, 98, 111, 116, 104, 10, 116, 105, 109, 101, 115, 32, 51, 32, 52, 10]⟩ : ByteArray))).bind fun t539 => (if 3 + 4 ≤ 9223372036854775807 then (if 31 < (t523.length : Int) then ((laws_digits.f kj5 (rd t523 31)).bind fun t541 => (if 6 + t541.size ≤ 9223372036854775807 then (if (((⟨#[111, 107, 10]⟩ : ByteArray) ++ (⟨#[110, 111, 116, 10]⟩ : ByteArray)) ++ t541).size + 10 ≤ 9223372036854775807 then (some (t539.toList == ((((⟨#[111, 107, 10]⟩ : ByteArray) ++ (⟨#[110, 111, 116, 10]⟩ : ByteArray)) ++ t541) ++ (⟨#[10, 112, 111, 105, 110, 116, 115, 32, 48, 10]⟩ : ByteArray)).toList)) else (none)) else (none))) else (none)) else (none))) else (none)) else (none)))) = some r := H
     have A22 := Aside0.mk A220
     clear A220
     by_cases c23 : t533 = true
     ·subst c23
      have H1 : ((laws_digits.f kj5 t522).bind fun t534 => (if 5 + t534.size ≤ 9223372036854775807 then (if ((⟨#[107, 105, 110, 100, 32]⟩ : ByteArray) ++ t534).size + 16 ≤ 9223372036854775807 then ((impl_Execute.f (((⟨#[107, 105, 110, 100, 32]⟩ : ByteArray) ++ t534) ++ (⟨#[10, 98, 111, 116, 104, 10, 116, 105, 109, 101, 115, 32, 51, 32, 52, 10]⟩ : ByteArray))).bind fun t535 => (if 3 + 4 ≤ 9223372036854775807 then (if 31 < (t523.length : Int) then ((laws_digits.f kj5 (rd t523 31)).bind fun t537 => (if 6 + t537.size ≤ 9223372036854775807 then (if (((⟨#[111, 107, 10]⟩ : ByteArray) ++ (⟨#[121, 101, 115, 10]⟩ : ByteArray)) ++ t537).size + 10 ≤ 9223372036854775807 then (some (t535.toList == ((((⟨#[111, 107, 10]⟩ : ByteArray) ++ (⟨#[121, 101, 115, 10]⟩ : ByteArray)) ++ t537) ++ (⟨#[10, 112, 111, 105, 110, 116, 115, 32, 48, 10]⟩ : ByteArray)).toList)) else (none)) else (none))) else (none)) else (none))) else (none)) else (none))) = some r := by rw [if_pos rfl] at H; exact H
      clear H
      have H := H1
      clear H1
      replace H := Option.bind_eq_some_iff.mp H
      obtain ⟨t534, A240, H⟩ := H
      replace H : (if 5 + t534.size ≤ 9223372036854775807 then (if ((⟨#[107, 105, 110, 100, 32]⟩ : ByteArray) ++ t534).size + 16 ≤ 9223372036854775807 then ((impl_Execute.f (((⟨#[107, 105, 110, 100, 32]⟩ : ByteArray) ++ t534) ++ (⟨#[10, 98, 111, 116, 104, 10, 116, 105, 109, 101, 115, 32, 51, 32, 52, 10]⟩ : ByteArray))).bind fun t535 => (if 3 + 4 ≤ 9223372036854775807 then (if 31 < (t523.length : Int) then ((laws_digits.f kj5 (rd t523 31)).bind fun t537 => (if 6 + t537.size ≤ 9223372036854775807 then (if (((⟨#[111, 107, 10]⟩ : ByteArray) ++ (⟨#[121, 101, 115, 10]⟩ : ByteArray)) ++ t537).size + 10 ≤ 9223372036854775807 then (some (t535.toList == ((((⟨#[111, 107, 10]⟩ : ByteArray) ++ (⟨#[121, 101, 115, 10]⟩ : ByteArray)) ++ t537) ++ (⟨#[10, 112, 111, 105, 110, 116, 115, 32, 48, 10]⟩ : ByteArray)).toList)) else (none)) else (none))) else (none)) else (none))) else (none)) else (none)) = some r := H
      have A24 := Aside0.mk A240
      clear A240
      by_cases c25 : 5 + t534.size ≤ 9223372036854775807
      ·rw [if_pos c25] at H
       have c25b0 := eq_true c25
       have c25b1 : decide (5 + t534.size ≤ 9223372036854775807) = true := decide_eq_true c25
       try have c25b2 : (9223372036854775807 < 5 + t534.size) = False := eq_false (Nat.not_lt.2 c25)
       by_cases c26 : ((⟨#[107, 105, 110, 100, 32]⟩ : ByteArray) ++ t534).size + 16 ≤ 9223372036854775807
       ·rw [if_pos c26] at H
        have c26b0 := eq_true c26
        have c26b1 : decide (((⟨#[107, 105, 110, 100, 32]⟩ : ByteArray) ++ t534).size + 16 ≤ 9223372036854775807) = true := decide_eq_true c26
        try have c26b2 : (9223372036854775807 < ((⟨#[107, 105, 110, 100, 32]⟩ : ByteArray) ++ t534).size + 16) = False := eq_false (Nat.not_lt.2 c26)
        try have c26b3 : (9223372036854775807 < 5 + t534.size + 16) = False := by have q_ := c26; simp only [ByteArray.size_append] at q_; exact eq_false (Nat.not_lt.2 q_)
        replace H := Option.bind_eq_some_iff.mp H
        obtain ⟨t535, A270, H⟩ := H
        replace H : (if 3 + 4 ≤ 9223372036854775807 then (if 31 < (t523.length : Int) then ((laws_digits.f kj5 (rd t523 31)).bind fun t537 => (if 6 + t537.size ≤ 9223372036854775807 then (if (((⟨#[111, 107, 10]⟩ : ByteArray) ++ (⟨#[121, 101, 115, 10]⟩ : ByteArray)) ++ t537).size + 10 ≤ 9223372036854775807 then (some (t535.toList == ((((⟨#[111, 107, 10]⟩ : ByteArray) ++ (⟨#[121, 101, 115, 10]⟩ : ByteArray)) ++ t537) ++ (⟨#[10, 112, 111, 105, 110, 116, 115, 32, 48, 10]⟩ : ByteArray)).toList)) else (none)) else (none))) else (none)) else (none)) = some r := H
        have A27 := Aside0.mk A270
        clear A270
        by_cases c28 : 3 + 4 ≤ 9223372036854775807
        ·rw [if_pos c28] at H
         have c28b0 := eq_true c28
         have c28b1 : decide (3 + 4 ≤ 9223372036854775807) = true := decide_eq_true c28
         try have c28b2 : (9223372036854775807 < 3 + 4) = False := eq_false (Nat.not_lt.2 c28)
         by_cases c29 : 31 < (t523.length : Int)
         ·rw [if_pos c29] at H
          have c29b0 : decide (31 < (t523.length : Int)) = true := decide_eq_true c29
          have c29b1 : decide (31 < t523.length) = true := decide_eq_true (by omega)
          clear c29
          replace H := Option.bind_eq_some_iff.mp H
          obtain ⟨t537, A300, H⟩ := H
          replace H : (if 6 + t537.size ≤ 9223372036854775807 then (if (((⟨#[111, 107, 10]⟩ : ByteArray) ++ (⟨#[121, 101, 115, 10]⟩ : ByteArray)) ++ t537).size + 10 ≤ 9223372036854775807 then (some (t535.toList == ((((⟨#[111, 107, 10]⟩ : ByteArray) ++ (⟨#[121, 101, 115, 10]⟩ : ByteArray)) ++ t537) ++ (⟨#[10, 112, 111, 105, 110, 116, 115, 32, 48, 10]⟩ : ByteArray)).toList)) else (none)) else (none)) = some r := H
          have A30 := Aside0.mk A300
          clear A300
          by_cases c31 : 6 + t537.size ≤ 9223372036854775807
          ·rw [if_pos c31] at H
           have c31b0 := eq_true c31
           have c31b1 : decide (6 + t537.size ≤ 9223372036854775807) = true := decide_eq_true c31
           try have c31b2 : (9223372036854775807 < 6 + t537.size) = False := eq_false (Nat.not_lt.2 c31)
           by_cases c32 : (((⟨#[111, 107, 10]⟩ : ByteArray) ++ (⟨#[121, 101, 115, 10]⟩ : ByteArray)) ++ t537).size + 10 ≤ 9223372036854775807
           ·rw [if_pos c32] at H
            have c32b0 := eq_true c32
            have c32b1 : decide ((((⟨#[111, 107, 10]⟩ : ByteArray) ++ (⟨#[121, 101, 115, 10]⟩ : ByteArray)) ++ t537).size + 10 ≤ 9223372036854775807) = true := decide_eq_true c32
            try have c32b2 : (9223372036854775807 < (((⟨#[111, 107, 10]⟩ : ByteArray) ++ (⟨#[121, 101, 115, 10]⟩ : ByteArray)) ++ t537).size + 10) = False := eq_false (Nat.not_lt.2 c32)
            try have c32b3 : (9223372036854775807 < 3 + 4 + t537.size + 10) = False := by have q_ := c32; simp only [ByteArray.size_append] at q_; exact eq_false (Nat.not_lt.2 q_)
            try have c32b4 : (9223372036854775807 < 7 + t537.size + 10) = False := by rw [← c32b3]
            try have c32b5 : (9223372036854775807 < 7 + t537.size) = False := eq_false (fun h_ => of_eq_false c32b4 (by omega))
            obtain rfl := Option.some.inj H
            obtain ⟨Ao33, co33, eo33⟩ := Kd.R_slice HO_4.out
            subst eo33
            try go_wp2_with (first | (refine goesL_ (some 46) rfl rfl Tryz.func22 (by kernel_rfl) rfl #[.slice Ao33 t523.length co33] rfl ll_ ?_; (with_reducible refine (impl_SystemBoth.calls _ _ t523 true _ ?side1 ?side2 A22.out).mono ?_); (case side1 => exact cc_ HO_4); (case side2 => exact (Kd.R_reads' HO_4.out).2.1); rintro e w34 ⟨rfl, hb⟩; refine ⟨_, rfl, ?_⟩; have n0_ := Aside0.mk (Kd.R_below (rr_ HO_4) hb); have n1_ := Aside0.mk (Kd.R_below (rr_ HO_6) hb); have n2_ := Aside0.mk (below_step (bb_ HB) hb); clear HO_4; clear HO_6; clear HB; have HO_4 := n0_; have HO_6 := n1_; have HB := n2_; clear n0_ n1_ n2_; (try clear hb); (try clear hb2); (try clear hk); (try clear hi)))
            have n0_ := Aside0.mk (Kd.R_drew HO_4.out)
            have n1_ := Aside0.mk (Kd.R_drew HO_6.out)
            have n2_ := Aside0.mk (below_drew1 HB.out)
            clear HO_4
            clear HO_6
            clear HB
            have HO_4 := n0_
            have HO_6 := n1_
            have HB := n2_
            clear n0_ n1_ n2_
            have p536 : 0 ≤ (31 : Int) := (by omega)
            have q536 : 31 < (t523.length : Int) := dd_
            obtain ⟨ad536, e536, hx536_0⟩ := Kd.at_int (Kd.R_reads' HO_4.out).2.2 31 p536 q536
            cases e536
            (try simp only [show (31 : Int).toNat = 31 from rfl, Nat.reduceMul, Nat.reduceEqDiff, Go.Addr.add, ↓reduceIte] at hx536_0)
            have qi536 : (31 < t523.length) = True := eq_true (by omega)
            (try rw [show ((31 : Int)).toNat = 31 from rfl] at hx536_0)
            replace p536 := eq_true p536
            replace q536 := eq_true q536
            refine start_ (n := 15) (S := fun w' => w'.cell? ⟨ad536.block, ad536.off + 31, none⟩ = some (.int .i64 (rd t523 31))) (ds := []) #[F_,F_,F_,F_,F_,F_,F_,F_,F_,F_,F_,F_,F_,F_,F_] (by kernel_rfl) rfl rfl (hx536_0) (fun hHeld => ?_); refine with_tabW laws_FnExecuteKind.tab11 laws_FnExecuteKind.bits11 (fun HT_ HW_ => ?_)
            generalize w34.drew = w35 at HO_4 HO_6 HB hx536_0 hHeld ⊢
            refine p_ 0 47 (m_ 15 1) HT_.out ?_
            refine p_ 5 52 (m_ 15 33) HT_.out ?_
            refine p_ 6 53 (m_ 15 97) HT_.out ?_
            refine p_ 7 54 (m_ 15 225) HT_.out ?_
            refine p_ 8 55 (m_ 15 481) HT_.out ?_
            refine t1_ 9 56 (m_ 15 993) HT_.out HW_.out hHeld ?_
            refine one_ (i := 1) (N := some 48) (m_ 15 995) rfl rfl (one_of HT_.out (by kernel_rfl)) (by decide) (fun K hK => ?_)
            refine goes_ Tryz.func17 (by kernel_rfl) rfl #[.int .i64 t522] (by rfl) rfl rfl ll_ ?_
            with_reducible refine (laws_digits.calls kj5 t522 t534 _ A24.out).mono ?_
            rintro e w36 ⟨rfl, hb⟩
            have HS0_ := (hb.cell (World.block_lt_of_cell? _ _ (hHeld))).trans (hHeld)
            refine ⟨_, rfl, ?_⟩
            have n0_ := Aside0.mk (Kd.R_below (rr_ HO_4) hb)
            have n1_ := Aside0.mk (Kd.R_below (rr_ HO_6) hb)
            have n2_ := Aside0.mk (below_step (bb_ HB) hb)
            clear HO_4
            clear HO_6
            clear HB
            have HO_4 := n0_
            have HO_6 := n1_
            have HB := n2_
            clear n0_ n1_ n2_
            (try clear hb)
            (try clear hb2)
            (try clear hk)
            (try clear hi)
            refine hK.out _ _ (HS0_) (fun hHeld => ?_)
            clear hK K
            refine norm_ (a' := ?_) ?_ ?_; rotate_left; (show Act.put _ (some 48) _ = _; simp only [Act.put, List.setIfInBounds_toArray, List.set_cons_zero, List.set_cons_succ, i64_w, i32_w]; rfl)
            refine p_ 2 49 (m_ 15 999) HT_.out ?_
            refine p_ 3 50 (m_ 15 1007) HT_.out ?_
            refine one_ (i := 4) (N := some 51) (m_ 15 1023) rfl rfl (one_of HT_.out (by kernel_rfl)) (by decide) (fun K hK => ?_)
            refine goes_ Tryz.func10 (by kernel_rfl) rfl #[.string (((⟨#[107, 105, 110, 100, 32]⟩ : ByteArray) ++ t534) ++ (⟨#[10, 98, 111, 116, 104, 10, 116, 105, 109, 101, 115, 32, 51, 32, 52, 10]⟩ : ByteArray))] (by rfl) rfl rfl ll_ ?_
            with_reducible refine (impl_Execute.calls (((⟨#[107, 105, 110, 100, 32]⟩ : ByteArray) ++ t534) ++ (⟨#[10, 98, 111, 116, 104, 10, 116, 105, 109, 101, 115, 32, 51, 32, 52, 10]⟩ : ByteArray)) t535 ml_ _ ?sidem A27.out).mono ?_
            (case sidem => exact hc_ HB HM_.out)
            rintro e w37 ⟨rfl, hb⟩
            have HS0_ := (hb.cell (World.block_lt_of_cell? _ _ (hHeld))).trans (hHeld)
            refine ⟨_, rfl, ?_⟩
            have n0_ := Aside0.mk (Kd.R_below (rr_ HO_4) hb)
            have n1_ := Aside0.mk (Kd.R_below (rr_ HO_6) hb)
            have n2_ := Aside0.mk (below_step (bb_ HB) hb)
            clear HO_4
            clear HO_6
            clear HB
            have HO_4 := n0_
            have HO_6 := n1_
            have HB := n2_
            clear n0_ n1_ n2_
            (try clear hb)
            (try clear hb2)
            (try clear hk)
            (try clear hi)
            refine hK.out _ _ (HS0_) (fun hHeld => ?_)
            clear hK K
            refine norm_ (a' := ?_) ?_ ?_; rotate_left; (show Act.put _ (some 51) _ = _; simp only [Act.put, List.setIfInBounds_toArray, List.set_cons_zero, List.set_cons_succ, i64_w, i32_w]; rfl)
            refine one_ (i := 10) (N := some 57) (m_ 15 2047) rfl rfl (one_of HT_.out (by kernel_rfl)) (by decide) (fun K hK => ?_)
            refine goes_ Tryz.func17 (by kernel_rfl) rfl #[.int .i64 (rd t523 31)] (by rfl) rfl rfl ll_ ?_
            with_reducible refine (laws_digits.calls kj5 (rd t523 31) t537 _ A30.out).mono ?_
            rintro e w38 ⟨rfl, hb⟩
            have HS0_ := (hb.cell (World.block_lt_of_cell? _ _ (hHeld))).trans (hHeld)
            refine ⟨_, rfl, ?_⟩
            have n0_ := Aside0.mk (Kd.R_below (rr_ HO_4) hb)
            have n1_ := Aside0.mk (Kd.R_below (rr_ HO_6) hb)
            have n2_ := Aside0.mk (below_step (bb_ HB) hb)
            clear HO_4
            clear HO_6
            clear HB
            have HO_4 := n0_
            have HO_6 := n1_
            have HB := n2_
            clear n0_ n1_ n2_
            (try clear hb)
            (try clear hb2)
            (try clear hk)
            (try clear hi)
            refine hK.out _ _ (HS0_) (fun hHeld => ?_)
            clear hK K
            refine norm_ (a' := ?_) ?_ ?_; rotate_left; (show Act.put _ (some 57) _ = _; simp only [Act.put, List.setIfInBounds_toArray, List.set_cons_zero, List.set_cons_succ, i64_w, i32_w]; rfl)
            refine p_ 11 58 (m_ 15 4095) HT_.out ?_
            refine p_ 12 59 (m_ 15 8191) HT_.out ?_
            refine p_ 13 60 (m_ 15 16383) HT_.out ?_
            refine p_ 14 2 (m_ 15 32767) HT_.out ?_
            refine done_ (done_of HT_.out (by kernel_rfl)) ?_
            try go_wp2
            go_ret
            exact ⟨ee_, bb_ HB⟩
           ·rw [if_neg c32] at H
            exact absurd H (by simp)
          ·rw [if_neg c31] at H
           exact absurd H (by simp)
         ·rw [if_neg c29] at H
          exact absurd H (by simp)
        ·rw [if_neg c28] at H
         exact absurd H (by simp)
       ·rw [if_neg c26] at H
        exact absurd H (by simp)
      ·rw [if_neg c25] at H
       exact absurd H (by simp)
     ·replace c23 := Bool.eq_false_iff.mpr c23
      subst c23
      have H1 : ((laws_digits.f kj5 t522).bind fun t538 => (if 5 + t538.size ≤ 9223372036854775807 then (if ((⟨#[107, 105, 110, 100, 32]⟩ : ByteArray) ++ t538).size + 16 ≤ 9223372036854775807 then ((impl_Execute.f (((⟨#[107, 105, 110, 100, 32]⟩ : ByteArray) ++ t538) ++ (⟨#[10, 98, 111, 116, 104, 10, 116, 105, 109, 101, 115, 32, 51, 32, 52, 10]⟩ : ByteArray))).bind fun t539 => (if 3 + 4 ≤ 9223372036854775807 then (if 31 < (t523.length : Int) then ((laws_digits.f kj5 (rd t523 31)).bind fun t541 => (if 6 + t541.size ≤ 9223372036854775807 then (if (((⟨#[111, 107, 10]⟩ : ByteArray) ++ (⟨#[110, 111, 116, 10]⟩ : ByteArray)) ++ t541).size + 10 ≤ 9223372036854775807 then (some (t539.toList == ((((⟨#[111, 107, 10]⟩ : ByteArray) ++ (⟨#[110, 111, 116, 10]⟩ : ByteArray)) ++ t541) ++ (⟨#[10, 112, 111, 105, 110, 116, 115, 32, 48, 10]⟩ : ByteArray)).toList)) else (none)) else (none))) else (none)) else (none))) else (none)) else (none))) = some r := by rw [if_neg (show ¬ (false = true) by decide)] at H; exact H
      clear H
      have H := H1
      clear H1
      replace H := Option.bind_eq_some_iff.mp H
      obtain ⟨t538, A390, H⟩ := H
      replace H : (if 5 + t538.size ≤ 9223372036854775807 then (if ((⟨#[107, 105, 110, 100, 32]⟩ : ByteArray) ++ t538).size + 16 ≤ 9223372036854775807 then ((impl_Execute.f (((⟨#[107, 105, 110, 100, 32]⟩ : ByteArray) ++ t538) ++ (⟨#[10, 98, 111, 116, 104, 10, 116, 105, 109, 101, 115, 32, 51, 32, 52, 10]⟩ : ByteArray))).bind fun t539 => (if 3 + 4 ≤ 9223372036854775807 then (if 31 < (t523.length : Int) then ((laws_digits.f kj5 (rd t523 31)).bind fun t541 => (if 6 + t541.size ≤ 9223372036854775807 then (if (((⟨#[111, 107, 10]⟩ : ByteArray) ++ (⟨#[110, 111, 116, 10]⟩ : ByteArray)) ++ t541).size + 10 ≤ 9223372036854775807 then (some (t539.toList == ((((⟨#[111, 107, 10]⟩ : ByteArray) ++ (⟨#[110, 111, 116, 10]⟩ : ByteArray)) ++ t541) ++ (⟨#[10, 112, 111, 105, 110, 116, 115, 32, 48, 10]⟩ : ByteArray)).toList)) else (none)) else (none))) else (none)) else (none))) else (none)) else (none)) = some r := H
      have A39 := Aside0.mk A390
      clear A390
      by_cases c40 : 5 + t538.size ≤ 9223372036854775807
      ·rw [if_pos c40] at H
       have c40b0 := eq_true c40
       have c40b1 : decide (5 + t538.size ≤ 9223372036854775807) = true := decide_eq_true c40
       try have c40b2 : (9223372036854775807 < 5 + t538.size) = False := eq_false (Nat.not_lt.2 c40)
       by_cases c41 : ((⟨#[107, 105, 110, 100, 32]⟩ : ByteArray) ++ t538).size + 16 ≤ 9223372036854775807
       ·rw [if_pos c41] at H
        have c41b0 := eq_true c41
        have c41b1 : decide (((⟨#[107, 105, 110, 100, 32]⟩ : ByteArray) ++ t538).size + 16 ≤ 9223372036854775807) = true := decide_eq_true c41
        try have c41b2 : (9223372036854775807 < ((⟨#[107, 105, 110, 100, 32]⟩ : ByteArray) ++ t538).size + 16) = False := eq_false (Nat.not_lt.2 c41)
        try have c41b3 : (9223372036854775807 < 5 + t538.size + 16) = False := by have q_ := c41; simp only [ByteArray.size_append] at q_; exact eq_false (Nat.not_lt.2 q_)
        replace H := Option.bind_eq_some_iff.mp H
        obtain ⟨t539, A420, H⟩ := H
        replace H : (if 3 + 4 ≤ 9223372036854775807 then (if 31 < (t523.length : Int) then ((laws_digits.f kj5 (rd t523 31)).bind fun t541 => (if 6 + t541.size ≤ 9223372036854775807 then (if (((⟨#[111, 107, 10]⟩ : ByteArray) ++ (⟨#[110, 111, 116, 10]⟩ : ByteArray)) ++ t541).size + 10 ≤ 9223372036854775807 then (some (t539.toList == ((((⟨#[111, 107, 10]⟩ : ByteArray) ++ (⟨#[110, 111, 116, 10]⟩ : ByteArray)) ++ t541) ++ (⟨#[10, 112, 111, 105, 110, 116, 115, 32, 48, 10]⟩ : ByteArray)).toList)) else (none)) else (none))) else (none)) else (none)) = some r := H
        have A42 := Aside0.mk A420
        clear A420
        by_cases c43 : 3 + 4 ≤ 9223372036854775807
        ·rw [if_pos c43] at H
         have c43b0 := eq_true c43
         have c43b1 : decide (3 + 4 ≤ 9223372036854775807) = true := decide_eq_true c43
         try have c43b2 : (9223372036854775807 < 3 + 4) = False := eq_false (Nat.not_lt.2 c43)
         by_cases c44 : 31 < (t523.length : Int)
         ·rw [if_pos c44] at H
          have c44b0 : decide (31 < (t523.length : Int)) = true := decide_eq_true c44
          have c44b1 : decide (31 < t523.length) = true := decide_eq_true (by omega)
          clear c44
          replace H := Option.bind_eq_some_iff.mp H
          obtain ⟨t541, A450, H⟩ := H
          replace H : (if 6 + t541.size ≤ 9223372036854775807 then (if (((⟨#[111, 107, 10]⟩ : ByteArray) ++ (⟨#[110, 111, 116, 10]⟩ : ByteArray)) ++ t541).size + 10 ≤ 9223372036854775807 then (some (t539.toList == ((((⟨#[111, 107, 10]⟩ : ByteArray) ++ (⟨#[110, 111, 116, 10]⟩ : ByteArray)) ++ t541) ++ (⟨#[10, 112, 111, 105, 110, 116, 115, 32, 48, 10]⟩ : ByteArray)).toList)) else (none)) else (none)) = some r := H
          have A45 := Aside0.mk A450
          clear A450
          by_cases c46 : 6 + t541.size ≤ 9223372036854775807
          ·rw [if_pos c46] at H
           have c46b0 := eq_true c46
           have c46b1 : decide (6 + t541.size ≤ 9223372036854775807) = true := decide_eq_true c46
           try have c46b2 : (9223372036854775807 < 6 + t541.size) = False := eq_false (Nat.not_lt.2 c46)
           by_cases c47 : (((⟨#[111, 107, 10]⟩ : ByteArray) ++ (⟨#[110, 111, 116, 10]⟩ : ByteArray)) ++ t541).size + 10 ≤ 9223372036854775807
           ·rw [if_pos c47] at H
            have c47b0 := eq_true c47
            have c47b1 : decide ((((⟨#[111, 107, 10]⟩ : ByteArray) ++ (⟨#[110, 111, 116, 10]⟩ : ByteArray)) ++ t541).size + 10 ≤ 9223372036854775807) = true := decide_eq_true c47
            try have c47b2 : (9223372036854775807 < (((⟨#[111, 107, 10]⟩ : ByteArray) ++ (⟨#[110, 111, 116, 10]⟩ : ByteArray)) ++ t541).size + 10) = False := eq_false (Nat.not_lt.2 c47)
            try have c47b3 : (9223372036854775807 < 3 + 4 + t541.size + 10) = False := by have q_ := c47; simp only [ByteArray.size_append] at q_; exact eq_false (Nat.not_lt.2 q_)
            try have c47b4 : (9223372036854775807 < 7 + t541.size + 10) = False := by rw [← c47b3]
            try have c47b5 : (9223372036854775807 < 7 + t541.size) = False := eq_false (fun h_ => of_eq_false c47b4 (by omega))
            obtain rfl := Option.some.inj H
            obtain ⟨Ao48, co48, eo48⟩ := Kd.R_slice HO_4.out
            subst eo48
            try go_wp2_with (first | (refine goesL_ (some 46) rfl rfl Tryz.func22 (by kernel_rfl) rfl #[.slice Ao48 t523.length co48] rfl ll_ ?_; (with_reducible refine (impl_SystemBoth.calls _ _ t523 false _ ?side1 ?side2 A22.out).mono ?_); (case side1 => exact cc_ HO_4); (case side2 => exact (Kd.R_reads' HO_4.out).2.1); rintro e w49 ⟨rfl, hb⟩; refine ⟨_, rfl, ?_⟩; have n0_ := Aside0.mk (Kd.R_below (rr_ HO_4) hb); have n1_ := Aside0.mk (Kd.R_below (rr_ HO_6) hb); have n2_ := Aside0.mk (below_step (bb_ HB) hb); clear HO_4; clear HO_6; clear HB; have HO_4 := n0_; have HO_6 := n1_; have HB := n2_; clear n0_ n1_ n2_; (try clear hb); (try clear hb2); (try clear hk); (try clear hi)))
            have n0_ := Aside0.mk (Kd.R_drew HO_4.out)
            have n1_ := Aside0.mk (Kd.R_drew HO_6.out)
            have n2_ := Aside0.mk (below_drew1 HB.out)
            clear HO_4
            clear HO_6
            clear HB
            have HO_4 := n0_
            have HO_6 := n1_
            have HB := n2_
            clear n0_ n1_ n2_
            have p540 : 0 ≤ (31 : Int) := (by omega)
            have q540 : 31 < (t523.length : Int) := dd_
            obtain ⟨ad540, e540, hx540_0⟩ := Kd.at_int (Kd.R_reads' HO_4.out).2.2 31 p540 q540
            cases e540
            (try simp only [show (31 : Int).toNat = 31 from rfl, Nat.reduceMul, Nat.reduceEqDiff, Go.Addr.add, ↓reduceIte] at hx540_0)
            have qi540 : (31 < t523.length) = True := eq_true (by omega)
            (try rw [show ((31 : Int)).toNat = 31 from rfl] at hx540_0)
            replace p540 := eq_true p540
            replace q540 := eq_true q540
            refine start_ (n := 15) (S := fun w' => w'.cell? ⟨ad540.block, ad540.off + 31, none⟩ = some (.int .i64 (rd t523 31))) (ds := []) #[F_,F_,F_,F_,F_,F_,F_,F_,F_,F_,F_,F_,F_,F_,F_] (by kernel_rfl) rfl rfl (hx540_0) (fun hHeld => ?_); refine with_tabW laws_FnExecuteKind.tab11 laws_FnExecuteKind.bits11 (fun HT_ HW_ => ?_)
            generalize w49.drew = w50 at HO_4 HO_6 HB hx540_0 hHeld ⊢
            refine p_ 0 47 (m_ 15 1) HT_.out ?_
            refine p_ 5 52 (m_ 15 33) HT_.out ?_
            refine p_ 6 53 (m_ 15 97) HT_.out ?_
            refine p_ 7 54 (m_ 15 225) HT_.out ?_
            refine p_ 8 55 (m_ 15 481) HT_.out ?_
            refine t1_ 9 56 (m_ 15 993) HT_.out HW_.out hHeld ?_
            refine one_ (i := 1) (N := some 48) (m_ 15 995) rfl rfl (one_of HT_.out (by kernel_rfl)) (by decide) (fun K hK => ?_)
            refine goes_ Tryz.func17 (by kernel_rfl) rfl #[.int .i64 t522] (by rfl) rfl rfl ll_ ?_
            with_reducible refine (laws_digits.calls kj5 t522 t538 _ A39.out).mono ?_
            rintro e w51 ⟨rfl, hb⟩
            have HS0_ := (hb.cell (World.block_lt_of_cell? _ _ (hHeld))).trans (hHeld)
            refine ⟨_, rfl, ?_⟩
            have n0_ := Aside0.mk (Kd.R_below (rr_ HO_4) hb)
            have n1_ := Aside0.mk (Kd.R_below (rr_ HO_6) hb)
            have n2_ := Aside0.mk (below_step (bb_ HB) hb)
            clear HO_4
            clear HO_6
            clear HB
            have HO_4 := n0_
            have HO_6 := n1_
            have HB := n2_
            clear n0_ n1_ n2_
            (try clear hb)
            (try clear hb2)
            (try clear hk)
            (try clear hi)
            refine hK.out _ _ (HS0_) (fun hHeld => ?_)
            clear hK K
            refine norm_ (a' := ?_) ?_ ?_; rotate_left; (show Act.put _ (some 48) _ = _; simp only [Act.put, List.setIfInBounds_toArray, List.set_cons_zero, List.set_cons_succ, i64_w, i32_w]; rfl)
            refine p_ 2 49 (m_ 15 999) HT_.out ?_
            refine p_ 3 50 (m_ 15 1007) HT_.out ?_
            refine one_ (i := 4) (N := some 51) (m_ 15 1023) rfl rfl (one_of HT_.out (by kernel_rfl)) (by decide) (fun K hK => ?_)
            refine goes_ Tryz.func10 (by kernel_rfl) rfl #[.string (((⟨#[107, 105, 110, 100, 32]⟩ : ByteArray) ++ t538) ++ (⟨#[10, 98, 111, 116, 104, 10, 116, 105, 109, 101, 115, 32, 51, 32, 52, 10]⟩ : ByteArray))] (by rfl) rfl rfl ll_ ?_
            with_reducible refine (impl_Execute.calls (((⟨#[107, 105, 110, 100, 32]⟩ : ByteArray) ++ t538) ++ (⟨#[10, 98, 111, 116, 104, 10, 116, 105, 109, 101, 115, 32, 51, 32, 52, 10]⟩ : ByteArray)) t539 ml_ _ ?sidem A42.out).mono ?_
            (case sidem => exact hc_ HB HM_.out)
            rintro e w52 ⟨rfl, hb⟩
            have HS0_ := (hb.cell (World.block_lt_of_cell? _ _ (hHeld))).trans (hHeld)
            refine ⟨_, rfl, ?_⟩
            have n0_ := Aside0.mk (Kd.R_below (rr_ HO_4) hb)
            have n1_ := Aside0.mk (Kd.R_below (rr_ HO_6) hb)
            have n2_ := Aside0.mk (below_step (bb_ HB) hb)
            clear HO_4
            clear HO_6
            clear HB
            have HO_4 := n0_
            have HO_6 := n1_
            have HB := n2_
            clear n0_ n1_ n2_
            (try clear hb)
            (try clear hb2)
            (try clear hk)
            (try clear hi)
            refine hK.out _ _ (HS0_) (fun hHeld => ?_)
            clear hK K
            refine norm_ (a' := ?_) ?_ ?_; rotate_left; (show Act.put _ (some 51) _ = _; simp only [Act.put, List.setIfInBounds_toArray, List.set_cons_zero, List.set_cons_succ, i64_w, i32_w]; rfl)
            refine one_ (i := 10) (N := some 57) (m_ 15 2047) rfl rfl (one_of HT_.out (by kernel_rfl)) (by decide) (fun K hK => ?_)
            refine goes_ Tryz.func17 (by kernel_rfl) rfl #[.int .i64 (rd t523 31)] (by rfl) rfl rfl ll_ ?_
            with_reducible refine (laws_digits.calls kj5 (rd t523 31) t541 _ A45.out).mono ?_
            rintro e w53 ⟨rfl, hb⟩
            have HS0_ := (hb.cell (World.block_lt_of_cell? _ _ (hHeld))).trans (hHeld)
            refine ⟨_, rfl, ?_⟩
            have n0_ := Aside0.mk (Kd.R_below (rr_ HO_4) hb)
            have n1_ := Aside0.mk (Kd.R_below (rr_ HO_6) hb)
            have n2_ := Aside0.mk (below_step (bb_ HB) hb)
            clear HO_4
            clear HO_6
            clear HB
            have HO_4 := n0_
            have HO_6 := n1_
            have HB := n2_
            clear n0_ n1_ n2_
            (try clear hb)
            (try clear hb2)
            (try clear hk)
            (try clear hi)
            refine hK.out _ _ (HS0_) (fun hHeld => ?_)
            clear hK K
            refine norm_ (a' := ?_) ?_ ?_; rotate_left; (show Act.put _ (some 57) _ = _; simp only [Act.put, List.setIfInBounds_toArray, List.set_cons_zero, List.set_cons_succ, i64_w, i32_w]; rfl)
            refine p_ 11 58 (m_ 15 4095) HT_.out ?_
            refine p_ 12 59 (m_ 15 8191) HT_.out ?_
            refine p_ 13 60 (m_ 15 16383) HT_.out ?_
            refine p_ 14 2 (m_ 15 32767) HT_.out ?_
            refine done_ (done_of HT_.out (by kernel_rfl)) ?_
            try go_wp2
            go_ret
            exact ⟨ee_, bb_ HB⟩
           ·rw [if_neg c47] at H
            exact absurd H (by simp)
          ·rw [if_neg c46] at H
           exact absurd H (by simp)
         ·rw [if_neg c44] at H
          exact absurd H (by simp)
        ·rw [if_neg c43] at H
         exact absurd H (by simp)
       ·rw [if_neg c41] at H
        exact absurd H (by simp)
      ·rw [if_neg c40] at H
       exact absurd H (by simp)
def laws_FnExecuteKind.Pure : Prop := ∀ (l0 : List Int), l0.length ≤ maxLen → l0.length * 1 ≤ 140737488351232 → (∀ x ∈ l0, (Lit.int .u8 x).wf = true) → ∃ k, laws_FnExecuteKind.f k l0 = some true
theorem laws_FnExecuteKind.walk (P : laws_FnExecuteKind.Pure) (a0 : Option Addr) (len0 cap0 : Nat) (z0 : List Int) (ml_ : Int) (w : World) (hm_ : w.cell? ⟨0, 0, none⟩ = some (.int .i64 ml_)) (w0 : (a0 = none ∧ len0 = 0 ∧ cap0 = 0 ∧ z0 = []) ∨ ∃ x, a0 = some x ∧ len0 ≤ cap0 ∧ cap0 ≤ maxLen ∧ z0.length = cap0 ∧ (∀ i, i < z0.length → w.cell? (x.add i) = some (.int .u8 (z0.getD i 0))) ∧ ∀ n ∈ z0, (Lit.int .u8 n).wf = true) (y0 : len0 * 1 ≤ 140737488351232) :
  Calls Tryz.prog 7 #[.slice a0 len0 cap0] w fun e w' => e = .returned (.bool true) ∧ Below w.heap.size w w' := by
 obtain ⟨l0, rfl, hr0, hm0, hw0, hc0⟩ := ReadsInt.ofRowC w0
 obtain ⟨k, h⟩ := P l0 hm0 y0 hw0
 refine (laws_FnExecuteKind.calls k _ _ l0 true ml_ w hm_ (Kd.C_of_reads (d := (0 : Int)) (h1 := fun _ => rfl) hr0) hc0 h).mono ?_
 rintro e w' ⟨rfl, hd⟩
 exact ⟨rfl, hd⟩
end Go.Proofs.YtiobedekgnfjcaaGreatDoor.P

set_option linter.unusedVariables false
set_option linter.unusedSimpArgs false
namespace Go.Proofs.YtiobedekgnfjcaaGreatDoor.Pure
open Go.RowKit Go.Proofs.YtiobedekgnfjcaaGreatDoor.P Go.Proofs.YtiobedekgnfjcaaGreatDoorW.PrintWords Go.Proofs.YtiobedekgnfjcaaGreatDoorW.PrintLast Go.Proofs.YtiobedekgnfjcaaGreatDoor.X

def kindT (c : Int) : ByteArray := ((⟨#[107, 105, 110, 100, 32]⟩ : ByteArray) ++ dg c) ++ (⟨#[10, 98, 111, 116, 104, 10, 116, 105, 109, 101, 115, 32, 51, 32, 52, 10]⟩ : ByteArray)
def saidW (q : Bool) : ByteArray := if q = true then ⟨#[121, 101, 115, 10]⟩ else ⟨#[110, 111, 116, 10]⟩
def kindA (c : Int) : ByteArray := (((⟨#[111, 107, 10]⟩ : ByteArray) ++ saidW (sysB (kindL c) && bothP (kindL c))) ++ dg (rd (kindL c) 31)) ++ (⟨#[10, 112, 111, 105, 110, 116, 115, 32, 48, 10]⟩ : ByteArray)
theorem exec_kind : ∀ i : Fin 5, impl_Execute.f (kindT (i.val : Int)) = some (kindA (i.val : Int)) := by decide +kernel
theorem FnExecuteKind : laws_FnExecuteKind.Pure := by
  intro l0 _ _ hu
  refine Ev.rounds ?_
  unfold laws_FnExecuteKind.f
  by_cases hb : (l0.length : Int) > 1048576
  · exact Ev.pos hb (Ev.done rfl)
  refine Ev.neg hb ?_
  obtain ⟨s, hs, eo⟩ := open_ev l0 hu
  obtain ⟨v, hv, ev⟩ := pick_ev hs (p := 0) (by omega) (by omega) (n := 7) (by omega) (by omega)
  obtain ⟨c, hc⟩ : ∃ c, v - 1 = c := ⟨_, rfl⟩
  refine Ev.bind (a := c) ?_ ?_
  · unfold spec_DrawSystemOf.f
    exact Ev.fix eo (Ev.bind ev (Ev.done (by rw [w64 (by omega) (by omega), hc])))
  refine Ev.bind (implSystemOf_ev c) (Ev.bind (specSystemOf_ev c) ?_)
  by_cases hk : 0 ≤ c ∧ c < 5
  case neg =>
    rw [if_neg hk]
    refine Ev.neg (by decide) (Ev.bind (sameInts_ev [] [] (by decide)) (Ev.pos (by decide) (Ev.step (fun k => by rw [laws_FnExecuteKind.j0]) ?_)))
    exact Ev.pos (by decide) (Ev.pos (by decide) (Ev.bind (sameInts_ev [] [] (by decide)) (Ev.done rfl)))
  case pos =>
  rw [if_pos hk]
  dsimp only
  have hn := kind_nines c hk.1 hk.2
  have hl : (kindL c).length = 81 := by unfold ninesB at hn; simp only [Bool.and_eq_true, decide_eq_true_eq] at hn; exact hn.1
  have h31 : 0 ≤ rd (kindL c) 31 ∧ rd (kindL c) 31 < 9 := nines_rd hn (by omega) (by omega)
  have he := five (P := fun c => impl_Execute.f (kindT c) = some (kindA c)) exec_kind c hk.1 hk.2
  unfold kindA at he
  refine Ev.neg (by decide) (Ev.bind (sameInts_ev _ _ (by omega)) (Ev.pos (by simp) (Ev.step (fun k => by rw [laws_FnExecuteKind.j0]) ?_)))
  refine Ev.neg (by decide) (Ev.fix (show impl_SystemBoth.f (kindL c) = some (sysB (kindL c) && bothP (kindL c)) from rfl) ?_)
  cases hq : (sysB (kindL c) && bothP (kindL c)) with
  | true =>
    rw [hq] at he
    refine Ev.pos rfl (Ev.bind (digits_ev c hk.1 (by omega)) (Ev.pos (by rw [dg_size]; omega) (Ev.pos (by simp only [ByteArray.size_append, dg_size]; decide) (Ev.fix he ?_))))
    refine Ev.pos (by decide) (Ev.pos (by omega) (Ev.bind (digits_ev _ h31.1 (by omega)) (Ev.pos (by rw [dg_size]; omega) (Ev.pos (by simp only [ByteArray.size_append, dg_size]; decide) (Ev.done ?_)))))
    simp [saidW]
  | false =>
    rw [hq] at he
    refine Ev.neg (by decide) (Ev.bind (digits_ev c hk.1 (by omega)) (Ev.pos (by rw [dg_size]; omega) (Ev.pos (by simp only [ByteArray.size_append, dg_size]; decide) (Ev.fix he ?_))))
    refine Ev.pos (by decide) (Ev.pos (by omega) (Ev.bind (digits_ev _ h31.1 (by omega)) (Ev.pos (by rw [dg_size]; omega) (Ev.pos (by simp only [ByteArray.size_append, dg_size]; decide) (Ev.done ?_)))))
    simp [saidW]
end Go.Proofs.YtiobedekgnfjcaaGreatDoor.Pure

namespace Go.Proofs.YtiobedekgnfjcaaGreatDoor.fnExecuteKind
open Go.ChangeShapes Go.WideShapes Go.ChangeAt Go.RowKit
open Go.ChangeMaps (open_string shut_string)
set_option linter.unusedVariables false
theorem own : ownKnob Tryz.prog.godebug = none := by kernel_rfl
theorem laidOut : laidOutB Tryz.prog = true := by kernel_rfl
def IsRow (k : IntKind) (w : World) (a : Option Addr) (len cap : Nat) (zs : List Int) : Prop :=
  (a = none ∧ len = 0 ∧ cap = 0 ∧ zs = []) ∨
  ∃ x, a = some x ∧ len ≤ cap ∧ cap ≤ maxLen ∧ zs.length = cap ∧ (∀ i, i < zs.length → w.cell? (x.add i) = some (.int k (zs.getD i 0))) ∧ ∀ n ∈ zs, (Lit.int k n).wf = true
set_option maxRecDepth 100000 in
theorem lifted (os : Os) (started : os.Started) (H : Type) (enc : TypeId × Value → H) :
    ReturnsInHanded {} Tryz.checked os 7 .any (fun w args => (Rows.fnExecuteKindSpec.pre enc Tryz.prog Tryz.f7 Rows.fnExecuteKindRow.domain false w args ∧ laidMetH Tryz.prog Rows.fnExecuteKindRow.laid w) ∧ sizedMet enc Tryz.prog Tryz.f7 (OpenSpec.ofChange Rows.fnExecuteKindSpec) false w args) (Rows.fnExecuteKindSpec.post enc Tryz.prog Tryz.f7 false true false false) := by
  refine X.handed_and_shaped (C := Tryz.checked) (X := fun w _ => laidMetH Tryz.prog Rows.fnExecuteKindRow.laid w) (fun _ _ _ hh h => h.of_heap hh) own started (by kernel_rfl) Tryz.func7
    (ChangeSpec.witness_shaped (enc := enc) (C := Tryz.checked) (os := os) (X := fun w _ => laidMetH Tryz.prog Rows.fnExecuteKindRow.laid w) false (World.laidAll Tryz.prog os Rows.fnExecuteKindRow.laid) #[.slice none 0 0] 8 (World.laidAll_os _ _ _)
      (World.shaped_of_ZipB (by kernel_rfl) (by kernel_rfl)) (by kernel_rfl) (by kernel_rfl) (by kernel_rfl)
      (by rw [MakeChecks.laidMetH_plain _ _ _ (by kernel_rfl)]; exact laidMet_laidAll _ (by kernel_rfl) (by kernel_rfl))) ?_
  intro W base args ds gs before hval0 hW hcnd hsz0 _ hsh _
  obtain ⟨ml_, hm_⟩ := Tryz.laysM146.s1_3 W hsh
  have hsz : (DataW.weightsEach Tryz.prog (Tryz.f7.params.toList ++ Rows.fnExecuteKindSpec.plain.varTypes Tryz.prog) (ds ++ gs)).all (· ≤ reachBytes) = true := hsz0
  have hval : ∀ (j : Nat) t v, Tryz.f7.params[j]? = some t → args[j]? = some v → Value.okWide Tryz.prog W .any base t v := hval0
  have hW' := hW
  obtain ⟨p, q, hA0, hV, rfl, hfz, hnd⟩ := hW
  have hA : DataW.TrodAll enc Tryz.prog W 0 (fun _ => true) true Tryz.f7.params.toList args.toList ds p := hA0
  rw [Tryz.params7] at hA hval hsz
  obtain ⟨v0, vs0, d0, ds0, p0, q0, hargs, rfl, rfl, h0, r0⟩ := trodAll_cons hA
  obtain ⟨rfl, rfl, rfl⟩ := trodAll_nil r0
  obtain rfl : args = #[v0] := by cases args; simp_all
  obtain ⟨rfl, rfl⟩ := trodVars_none hV
  obtain ⟨a0, len0, cap0, rfl⟩ := okWide_slice Tryz.underlying22 (hval 0 22 v0 rfl rfl)
  have k0 := h0
  have lt0 : ∀ x ∈ p0, x.block < W.heap.size := by obtain ⟨m, hm⟩ := k0; exact DataW.trod_lt m _ _ _ hm
  obtain ⟨z0, w0⟩ : ∃ zs, IsRow .u8 W a0 len0 cap0 zs := by
    obtain ⟨fuel, hf⟩ := h0
    rcases open_ints Tryz.underlying22 Tryz.underlying5 (by kernel_rfl) hf with ⟨hcs, _⟩ | ⟨x, l, c, zs, hcs, _, hl, hm, hz, _, hcell, hwz⟩
    · simp [Value.cells] at hcs
      obtain ⟨rfl, rfl, rfl⟩ := hcs
      exact ⟨[], .inl ⟨rfl, rfl, rfl, rfl⟩⟩
    · simp [Value.cells] at hcs
      obtain ⟨rfl, rfl, rfl⟩ := hcs
      exact ⟨zs, .inr ⟨_, rfl, hl, hm, by simpa using hz, hcell, hwz⟩⟩
  have y0 : len0 * 1 ≤ 140737488351232 := Go.Proofs.YtiobedekgnfjcaaGreatDoorW.PrintWords.sized_ints hsz (j := 0) (t := 22) rfl rfl Tryz.underlying22 Tryz.underlying5 (by kernel_rfl) (by kernel_rfl) h0
  clear hA0 hval0 hsz0 hsz
  refine (P.laws_FnExecuteKind.walk Pure.FnExecuteKind a0 len0 cap0 z0 ml_ W hm_ w0 y0).mono fun e W' ⟨he, bel⟩ => ?_
  subst he
  exact ⟨_, rfl, _, _, _, [], _, [], hW', trodAll_mk1 (shut_bool Tryz.underlying4 _), (trodAll_cons_mk (Below.trod laidOut (by kernel_rfl) (of_decide_eq_true (by kernel_rfl)) k0 bel lt0) trodAll_mk0), rfl, bel.frame _, fun h => by cases h⟩
theorem over : Rows.fnExecuteKindRow.holds Tryz.pinned (OpenSpec.ofChange Rows.fnExecuteKindSpec) :=
  OpenClaim.holds_of_wide 7 Tryz.f7 rfl rfl rfl rfl rfl rfl rfl ⟨rfl, rfl, rfl, rfl, rfl⟩ rfl rfl rfl rfl rfl (by kernel_rfl) Tryz.func7 (by kernel_rfl)
    (of_decide_eq_true (by kernel_rfl)) (by unfold Func.isWrapper; first | (rw [if_pos (by decide +kernel)]; kernel_rfl) | (rw [if_neg (by decide +kernel)]; exact ⟨rfl, rfl⟩))
    (fun os started H enc _ => lifted os started H enc)
theorem proved : Rows.FnExecuteKindSaid := over
theorem card : Rows.FnExecuteKindCardSaid :=
  Claim7.holds_tied_plain_at .later [] Rows.fnExecuteKindCard.laidKinds true Rows.fnExecuteKindCard.stood.harness true proved (fun _ h => by cases h) (by kernel_rfl) (fun _ h => by cases h) fnExecuteKind_row_tie rfl ⟨rfl, rfl⟩ (by kernel_rfl) (by kernel_rfl)
    (fun f fn hf hfn => by
      obtain rfl : f = 7 := Option.some.inj ((show Tryz.prog.funcNamed Rows.fnExecuteKindRow.func = some 7 by kernel_rfl).symm.trans hf) |>.symm
      obtain rfl : fn = Tryz.f7 := (Option.some.inj (Tryz.func7.symm.trans hfn)).symm
      refine ⟨by kernel_rfl, fun j t ht => ?_⟩
      rw [Tryz.params7] at ht
      have hm : t ∈ Tryz.f7.params.toList := by rw [Tryz.params7]; simpa using Array.mem_of_getElem? ht
      have hall : (Tryz.f7.params.toList.all fun u => !Tryz.prog.wantsStandIn u) = true := by kernel_rfl
      exact (show Tryz.prog.wantsStandIn t = false by simpa using List.all_eq_true.1 hall t hm))
    (by kernel_rfl)
#print axioms card
end Go.Proofs.YtiobedekgnfjcaaGreatDoor.fnExecuteKind
namespace Go.Proofs.YtiobedekgnfjcaaGreatDoor
theorem fnExecuteKind_holds : Rows.FnExecuteKindCardSaid := fnExecuteKind.card
end Go.Proofs.YtiobedekgnfjcaaGreatDoor
