/- The law FnExecuteAdd of the given program: for every input the call returns true, and each argument reads afterwards as it read before. No conditions. (Part 3 of 3; the last part holds the theorem.) -/
import Derived.Shelf.LaysM
import Derived.Shelf.Strings.Split
import Derived.Shelf.Strings.SplitShaped
import Derived.Shelf.Strings.Cut
import Derived.Shelf.Strings.OnBuilder
import Derived.Shelf.Strconv.Itoa3
import Derived.Shelf.Strconv.Atoi
import Derived.Shelf.Strings.SlTrimAscii
import Derived.Test.YtiobedekgnfjcaaGreatDoorProg
import Derived.Test.YtiobedekgnfjcaaGreatDoorMFnExecuteAdd0
import Derived.Lib.SplitLaws
import Derived.Lib.AtoiErrMem
import Derived.WalkKit
import Derived.ProofKit
import Derived.Deep.LoopGhost
import Derived.Shelf.Abstract
import Derived.Deep.RegionHeld3
import Derived.Test.YtiobedekgnfjcaaGreatDoorMFnExecuteAdd1
import Derived.Test.YtiobedekgnfjcaaGreatDoorRows
import Derived.OpenShut
import Derived.ShutString
import Derived.ChangeOld
import Derived.Below
import Derived.SizedLaws
import Derived.LaidMore
import Derived.Lay
import Derived.LaidLaws
import Derived.SevenTiedAt
import Derived.Test.YtiobedekgnfjcaaGreatDoorTie
import Derived.Test.YtiobedekgnfjcaaGreatDoorCards
namespace Go.Proofs
open Go.Shelf
def Tryz.lays156_ren : Go.Shelf.Ren := ⟨fun | 156 => 92 | 165 => 162 | 166 => 163 | 169 => 164 | 240 => 223 | 241 => 224 | 276 => 270 | 277 => 271 | n => n, fun | 31 => 46 | 9 => 9 | 3 => 3 | 4 => 4 | 0 => 0 | 20 => 20 | 72 => 123 | 76 => 88 | 70 => 121 | 37 => 22 | 75 => 87 | 127 => 155 | 164 => 188 | 5 => 5 | 80 => 125 | n => n, fun | n => n⟩
theorem Tryz.lays156 : Go.Proofs.Lays.n156 Tryz.prog Tryz.lays156_ren := {
  mixed := by kernel_rfl
  f156 := Tryz.func92.trans (congrArg some (by kernel_rfl))
  f165 := Tryz.func162.trans (congrArg some (by kernel_rfl))
  f166 := Tryz.func163.trans (congrArg some (by kernel_rfl))
  f169 := Tryz.func164.trans (congrArg some (by kernel_rfl))
  f240 := Tryz.func223.trans (congrArg some (by kernel_rfl))
  f241 := Tryz.func224.trans (congrArg some (by kernel_rfl))
  f276 := Tryz.func270.trans (congrArg some (by kernel_rfl))
  f277 := Tryz.func271.trans (congrArg some (by kernel_rfl))
  t0 := Tryz.underlying0
  a0 := Tryz.isAgg0
  z0 := Tryz.sizeOf0
  v0 := Tryz.zeroValue0
  t3 := Tryz.underlying3
  a3 := Tryz.isAgg3
  z3 := Tryz.sizeOf3
  v3 := Tryz.zeroValue3
  t4 := Tryz.underlying4
  a4 := Tryz.isAgg4
  z4 := Tryz.sizeOf4
  v4 := Tryz.zeroValue4
  t9 := Tryz.underlying9
  a9 := Tryz.isAgg9
  z9 := Tryz.sizeOf9
  v9 := Tryz.zeroValue9
  t20 := Tryz.underlying20
  a20 := Tryz.isAgg20
  z20 := Tryz.sizeOf20
  v20 := Tryz.zeroValue20
  t31 := Tryz.underlying46
  a31 := Tryz.isAgg46
  z31 := Tryz.sizeOf46
  v31 := Tryz.zeroValue46
  t37 := Tryz.underlying22
  a37 := Tryz.isAgg22
  z37 := Tryz.sizeOf22
  v37 := Tryz.zeroValue22
  t70 := Tryz.underlying121
  a70 := Tryz.isAgg121
  z70 := Tryz.sizeOf121
  v70 := Tryz.zeroValue121
  t72 := Tryz.underlying123
  a72 := Tryz.isAgg123
  z72 := Tryz.sizeOf123
  v72 := Tryz.zeroValue123
  t75 := Tryz.underlying87
  a75 := Tryz.isAgg87
  z75 := Tryz.sizeOf87
  v75 := Tryz.zeroValue87
  t76 := Tryz.underlying88
  a76 := Tryz.isAgg88
  z76 := Tryz.sizeOf88
  v76 := Tryz.zeroValue88
  t127 := Tryz.underlying155
  a127 := Tryz.isAgg155
  z127 := Tryz.sizeOf155
  v127 := Tryz.zeroValue155
  t164 := Tryz.underlying188
  a164 := Tryz.isAgg188
  z164 := Tryz.sizeOf188
  v164 := Tryz.zeroValue188 }
theorem Tryz.Builder_Extra_156 : Builder.Extra Tryz.prog Tryz.lays156_ren := {
  sizeBuilder := by kernel_rfl
  liesBuilder := by kernel_rfl
  t5 := Tryz.underlying5
  a5 := Tryz.isAgg5
  z5 := Tryz.sizeOf5
  v5 := Tryz.zeroValue5
  infoByte := by kernel_rfl
  cellsByte := by kernel_rfl
  sizeByte := by kernel_rfl
  neB5 := by decide }
open Go.RowKit in
theorem Tryz.strings_Join (bk o c : Nat) (xs : List ByteArray) (sep : ByteArray) (w : World) (hcells : ∀ (j : Nat) x, xs[j]? = some x → w.cell? ⟨bk, o + j, none⟩ = some (.string x)) (hbk : bk < w.heap.size) (hN : xs.length ≤ 140737488355328) (hcap : xs.length ≤ c) (hlen : (Lib.join (xs.map (·.data.toList)) sep.data.toList).length ≤ 140737488355328) :
    Calls Tryz.prog 92 #[.slice (some ⟨bk, o, none⟩) xs.length c, .string sep] w fun e w' => e = .returned (.string ⟨(Lib.join (xs.map (·.data.toList)) sep.data.toList).toArray⟩) ∧ Below w.heap.size w w' := Any.strings_Join Tryz.lays156 Tryz.Builder_Extra_156 bk o c xs sep w hcells hbk hN hcap hlen
def Tryz.lays160_ren : Go.Shelf.Ren := ⟨fun | 160 => 90 | 232 => 154 | 231 => 153 | 227 => 155 | 234 => 157 | 233 => 156 | 236 => 159 | 235 => 158 | 228 => 215 | 271 => 217 | 151 => 216 | 197 => 123 | 120 => 266 | 152 => 265 | 260 => 193 | 137 => 284 | 119 => 285 | 224 => 196 | 225 => 195 | 217 => 194 | 266 => 239 | n => n, fun | 9 => 9 | 4 => 4 | 3 => 3 | 5 => 5 | 117 => 116 | 116 => 115 | 0 => 0 | 124 => 119 | 21 => 21 | 105 => 101 | 46 => 140 | 119 => 162 | 139 => 165 | 138 => 164 | n => n, fun | 3 => 2 | 4 => 3 | n => n⟩
theorem Tryz.lays160 : Go.Proofs.Lays.n160 Tryz.prog Tryz.lays160_ren := {
  mixed := by kernel_rfl
  f119 := Tryz.func285.trans (congrArg some (by kernel_rfl))
  f120 := Tryz.func266.trans (congrArg some (by kernel_rfl))
  f137 := Tryz.func284.trans (congrArg some (by kernel_rfl))
  f151 := Tryz.func216.trans (congrArg some (by kernel_rfl))
  f152 := Tryz.func265.trans (congrArg some (by kernel_rfl))
  f160 := Tryz.func90.trans (congrArg some (by kernel_rfl))
  f197 := Tryz.func123.trans (congrArg some (by kernel_rfl))
  f217 := Tryz.func194.trans (congrArg some (by kernel_rfl))
  f224 := Tryz.func196.trans (congrArg some (by kernel_rfl))
  f225 := Tryz.func195.trans (congrArg some (by kernel_rfl))
  f227 := Tryz.func155.trans (congrArg some (by kernel_rfl))
  f228 := Tryz.func215.trans (congrArg some (by kernel_rfl))
  f231 := Tryz.func153.trans (congrArg some (by kernel_rfl))
  f232 := Tryz.func154.trans (congrArg some (by kernel_rfl))
  f233 := Tryz.func156.trans (congrArg some (by kernel_rfl))
  f234 := Tryz.func157.trans (congrArg some (by kernel_rfl))
  f235 := Tryz.func158.trans (congrArg some (by kernel_rfl))
  f236 := Tryz.func159.trans (congrArg some (by kernel_rfl))
  f260 := Tryz.func193.trans (congrArg some (by kernel_rfl))
  f266 := Tryz.func239.trans (congrArg some (by kernel_rfl))
  f271 := Tryz.func217.trans (congrArg some (by kernel_rfl))
  t0 := Tryz.underlying0
  a0 := Tryz.isAgg0
  z0 := Tryz.sizeOf0
  v0 := Tryz.zeroValue0
  t3 := Tryz.underlying3
  a3 := Tryz.isAgg3
  z3 := Tryz.sizeOf3
  v3 := Tryz.zeroValue3
  t4 := Tryz.underlying4
  a4 := Tryz.isAgg4
  z4 := Tryz.sizeOf4
  v4 := Tryz.zeroValue4
  t5 := Tryz.underlying5
  a5 := Tryz.isAgg5
  z5 := Tryz.sizeOf5
  v5 := Tryz.zeroValue5
  t9 := Tryz.underlying9
  a9 := Tryz.isAgg9
  z9 := Tryz.sizeOf9
  v9 := Tryz.zeroValue9
  t21 := Tryz.underlying21
  a21 := Tryz.isAgg21
  z21 := Tryz.sizeOf21
  v21 := Tryz.zeroValue21
  t46 := Tryz.underlying140
  a46 := Tryz.isAgg140
  z46 := Tryz.sizeOf140
  v46 := Tryz.zeroValue140
  t105 := Tryz.underlying101
  a105 := Tryz.isAgg101
  z105 := Tryz.sizeOf101
  v105 := Tryz.zeroValue101
  t116 := Tryz.underlying115
  a116 := Tryz.isAgg115
  z116 := Tryz.sizeOf115
  t117 := Tryz.underlying116
  a117 := Tryz.isAgg116
  z117 := Tryz.sizeOf116
  v117 := Tryz.zeroValue116
  t119 := Tryz.underlying162
  a119 := Tryz.isAgg162
  z119 := Tryz.sizeOf162
  t124 := Tryz.underlying119
  a124 := Tryz.isAgg119
  z124 := Tryz.sizeOf119
  v124 := Tryz.zeroValue119
  t138 := Tryz.underlying164
  a138 := Tryz.isAgg164
  z138 := Tryz.sizeOf164
  v138 := Tryz.zeroValue164
  t139 := Tryz.underlying165
  a139 := Tryz.isAgg165
  z139 := Tryz.sizeOf165
  v139 := Tryz.zeroValue165
  g3 := by kernel_rfl
  g4 := by kernel_rfl }
open Go.RowKit in
theorem Tryz.strings_Trim (s cutset : ByteArray) (w : World) (hs : s.size ≤ 9223372036854775807) (hcs : cutset.size < 4294967281) (hascii : ∀ (j : Nat) b, cutset.data.toList[j]? = some b → b.toNat < 128) :
    Calls Tryz.prog 90 #[.string s, .string cutset] w fun e w' => e = .returned (.string ⟨(Lib.trimS s.data.toList cutset.data.toList).toArray⟩) ∧ Below w.heap.size w w' := Any.strings_Trim_laid Tryz.lays160 (by kernel_rfl) s cutset w hs hcs hascii
def Tryz.lays172_ren : Go.Shelf.Ren := ⟨fun | 172 => 91 | 244 => 160 | 245 => 161 | 247 => 218 | 279 => 219 | 280 => 220 | 281 => 221 | 282 => 222 | 287 => 267 | 316 => 268 | 171 => 30 | 205 => 269 | 321 => 286 | 322 => 287 | 243 => 55 | 246 => 96 | 283 => 167 | 284 => 168 | 285 => 169 | 286 => 170 | 129 => 226 | 317 => 225 | 318 => 227 | 319 => 228 | 320 => 229 | 337 => 272 | 338 => 273 | n => n, fun | 9 => 9 | 3 => 3 | 75 => 87 | 76 => 88 | 4 => 4 | 5 => 5 | 167 => 149 | 37 => 22 | 0 => 0 | 85 => 150 | 2 => 2 | 168 => 152 | 53 => 127 | 175 => 183 | 46 => 140 | 210 => 186 | 127 => 155 | 145 => 203 | 143 => 201 | 21 => 21 | 171 => 126 | 173 => 130 | 212 => 157 | 51 => 158 | 20 => 20 | 213 => 159 | 232 => 204 | 233 => 205 | 80 => 125 | n => n, fun | 15 => 4 | 16 => 5 | 17 => 1 | 18 => 6 | 19 => 7 | n => n⟩
theorem Tryz.lays172 : Go.Proofs.Lays.n172 Tryz.prog Tryz.lays172_ren := {
  mixed := by kernel_rfl
  f129 := Tryz.func226.trans (congrArg some (by kernel_rfl))
  f171 := Tryz.func30.trans (congrArg some (by kernel_rfl))
  f172 := Tryz.func91.trans (congrArg some (by kernel_rfl))
  f205 := Tryz.func269.trans (congrArg some (by kernel_rfl))
  f243 := Tryz.func55.trans (congrArg some (by kernel_rfl))
  f244 := Tryz.func160.trans (congrArg some (by kernel_rfl))
  f245 := Tryz.func161.trans (congrArg some (by kernel_rfl))
  f246 := Tryz.func96.trans (congrArg some (by kernel_rfl))
  f247 := Tryz.func218.trans (congrArg some (by kernel_rfl))
  f279 := Tryz.func219.trans (congrArg some (by kernel_rfl))
  f280 := Tryz.func220.trans (congrArg some (by kernel_rfl))
  f281 := Tryz.func221.trans (congrArg some (by kernel_rfl))
  f282 := Tryz.func222.trans (congrArg some (by kernel_rfl))
  f283 := Tryz.func167.trans (congrArg some (by kernel_rfl))
  f284 := Tryz.func168.trans (congrArg some (by kernel_rfl))
  f285 := Tryz.func169.trans (congrArg some (by kernel_rfl))
  f286 := Tryz.func170.trans (congrArg some (by kernel_rfl))
  f287 := Tryz.func267.trans (congrArg some (by kernel_rfl))
  f316 := Tryz.func268.trans (congrArg some (by kernel_rfl))
  f317 := Tryz.func225.trans (congrArg some (by kernel_rfl))
  f318 := Tryz.func227.trans (congrArg some (by kernel_rfl))
  f319 := Tryz.func228.trans (congrArg some (by kernel_rfl))
  f320 := Tryz.func229.trans (congrArg some (by kernel_rfl))
  f321 := Tryz.func286.trans (congrArg some (by kernel_rfl))
  f322 := Tryz.func287.trans (congrArg some (by kernel_rfl))
  f337 := Tryz.func272.trans (congrArg some (by kernel_rfl))
  f338 := Tryz.func273.trans (congrArg some (by kernel_rfl))
  t0 := Tryz.underlying0
  a0 := Tryz.isAgg0
  z0 := Tryz.sizeOf0
  v0 := Tryz.zeroValue0
  t2 := Tryz.underlying2
  a2 := Tryz.isAgg2
  z2 := Tryz.sizeOf2
  v2 := Tryz.zeroValue2
  t3 := Tryz.underlying3
  a3 := Tryz.isAgg3
  z3 := Tryz.sizeOf3
  v3 := Tryz.zeroValue3
  t4 := Tryz.underlying4
  a4 := Tryz.isAgg4
  z4 := Tryz.sizeOf4
  v4 := Tryz.zeroValue4
  t5 := Tryz.underlying5
  a5 := Tryz.isAgg5
  z5 := Tryz.sizeOf5
  v5 := Tryz.zeroValue5
  t9 := Tryz.underlying9
  a9 := Tryz.isAgg9
  z9 := Tryz.sizeOf9
  v9 := Tryz.zeroValue9
  t20 := Tryz.underlying20
  a20 := Tryz.isAgg20
  z20 := Tryz.sizeOf20
  v20 := Tryz.zeroValue20
  t21 := Tryz.underlying21
  a21 := Tryz.isAgg21
  z21 := Tryz.sizeOf21
  v21 := Tryz.zeroValue21
  t37 := Tryz.underlying22
  a37 := Tryz.isAgg22
  z37 := Tryz.sizeOf22
  v37 := Tryz.zeroValue22
  t46 := Tryz.underlying140
  a46 := Tryz.isAgg140
  z46 := Tryz.sizeOf140
  v46 := Tryz.zeroValue140
  t51 := Tryz.underlying158
  a51 := Tryz.isAgg158
  z51 := Tryz.sizeOf158
  v51 := Tryz.zeroValue158
  t53 := Tryz.underlying127
  a53 := Tryz.isAgg127
  z53 := Tryz.sizeOf127
  v53 := Tryz.zeroValue127
  t75 := Tryz.underlying87
  a75 := Tryz.isAgg87
  z75 := Tryz.sizeOf87
  v75 := Tryz.zeroValue87
  t76 := Tryz.underlying88
  a76 := Tryz.isAgg88
  z76 := Tryz.sizeOf88
  v76 := Tryz.zeroValue88
  t85 := Tryz.underlying150
  a85 := Tryz.isAgg150
  z85 := Tryz.sizeOf150
  v85 := Tryz.zeroValue150
  t127 := Tryz.underlying155
  a127 := Tryz.isAgg155
  z127 := Tryz.sizeOf155
  v127 := Tryz.zeroValue155
  t143 := Tryz.underlying201
  a143 := Tryz.isAgg201
  z143 := Tryz.sizeOf201
  v143 := Tryz.zeroValue201
  t145 := Tryz.underlying203
  a145 := Tryz.isAgg203
  z145 := Tryz.sizeOf203
  v145 := Tryz.zeroValue203
  t167 := Tryz.underlying149
  a167 := Tryz.isAgg149
  z167 := Tryz.sizeOf149
  v167 := Tryz.zeroValue149
  t168 := Tryz.underlying152
  a168 := Tryz.isAgg152
  z168 := Tryz.sizeOf152
  v168 := Tryz.zeroValue152
  t171 := Tryz.underlying126
  a171 := Tryz.isAgg126
  z171 := Tryz.sizeOf126
  v171 := Tryz.zeroValue126
  t173 := Tryz.underlying130
  a173 := Tryz.isAgg130
  z173 := Tryz.sizeOf130
  v173 := Tryz.zeroValue130
  t175 := Tryz.underlying183
  a175 := Tryz.isAgg183
  z175 := Tryz.sizeOf183
  v175 := Tryz.zeroValue183
  t210 := Tryz.underlying186
  a210 := Tryz.isAgg186
  z210 := Tryz.sizeOf186
  v210 := Tryz.zeroValue186
  t212 := Tryz.underlying157
  a212 := Tryz.isAgg157
  z212 := Tryz.sizeOf157
  v212 := Tryz.zeroValue157
  t213 := Tryz.underlying159
  a213 := Tryz.isAgg159
  z213 := Tryz.sizeOf159
  t232 := Tryz.underlying204
  a232 := Tryz.isAgg204
  z232 := Tryz.sizeOf204
  v232 := Tryz.zeroValue204
  t233 := Tryz.underlying205
  a233 := Tryz.isAgg205
  z233 := Tryz.sizeOf205
  v233 := Tryz.zeroValue205
  g15 := by kernel_rfl
  g16 := by kernel_rfl
  g17 := by kernel_rfl
  g18 := by kernel_rfl
  g19 := by kernel_rfl }
open Go.RowKit in
theorem Tryz.strconv_Atoi (s : ByteArray) (n : Int) (hl : s.size ≤ 18) (h : Lib.atoi s.data.toList = some n) (w : World) :
    Calls Tryz.prog 91 #[.string s] w fun e w' => e = .returned (.tuple #[.int .i64 n, .nilIface]) ∧ ∃ t, w' = Lib.bytesWorld w 5 t := Any.strconv_Atoi Tryz.lays172 s n hl h w
def Tryz.lays171_ren : Go.Shelf.Ren := ⟨fun | 171 => 30 | 243 => 55 | 246 => 96 | 283 => 167 | 284 => 168 | 285 => 169 | 286 => 170 | 129 => 226 | 317 => 225 | 318 => 227 | 319 => 228 | 320 => 229 | 337 => 272 | 338 => 273 | n => n, fun | 3 => 3 | 9 => 9 | 2 => 2 | 4 => 4 | 171 => 126 | 0 => 0 | 53 => 127 | 37 => 22 | 5 => 5 | 173 => 130 | 212 => 157 | 51 => 158 | 20 => 20 | 213 => 159 | 46 => 140 | 232 => 204 | 233 => 205 | n => n, fun | 17 => 1 | 18 => 6 | 19 => 7 | n => n⟩
theorem Tryz.lays171 : Go.Proofs.Lays.n171 Tryz.prog Tryz.lays171_ren := {
  mixed := by kernel_rfl
  f129 := Tryz.func226.trans (congrArg some (by kernel_rfl))
  f171 := Tryz.func30.trans (congrArg some (by kernel_rfl))
  f243 := Tryz.func55.trans (congrArg some (by kernel_rfl))
  f246 := Tryz.func96.trans (congrArg some (by kernel_rfl))
  f283 := Tryz.func167.trans (congrArg some (by kernel_rfl))
  f284 := Tryz.func168.trans (congrArg some (by kernel_rfl))
  f285 := Tryz.func169.trans (congrArg some (by kernel_rfl))
  f286 := Tryz.func170.trans (congrArg some (by kernel_rfl))
  f317 := Tryz.func225.trans (congrArg some (by kernel_rfl))
  f318 := Tryz.func227.trans (congrArg some (by kernel_rfl))
  f319 := Tryz.func228.trans (congrArg some (by kernel_rfl))
  f320 := Tryz.func229.trans (congrArg some (by kernel_rfl))
  f337 := Tryz.func272.trans (congrArg some (by kernel_rfl))
  f338 := Tryz.func273.trans (congrArg some (by kernel_rfl))
  t0 := Tryz.underlying0
  a0 := Tryz.isAgg0
  z0 := Tryz.sizeOf0
  v0 := Tryz.zeroValue0
  t2 := Tryz.underlying2
  a2 := Tryz.isAgg2
  z2 := Tryz.sizeOf2
  v2 := Tryz.zeroValue2
  t3 := Tryz.underlying3
  a3 := Tryz.isAgg3
  z3 := Tryz.sizeOf3
  v3 := Tryz.zeroValue3
  t4 := Tryz.underlying4
  a4 := Tryz.isAgg4
  z4 := Tryz.sizeOf4
  v4 := Tryz.zeroValue4
  t5 := Tryz.underlying5
  a5 := Tryz.isAgg5
  z5 := Tryz.sizeOf5
  v5 := Tryz.zeroValue5
  t9 := Tryz.underlying9
  a9 := Tryz.isAgg9
  z9 := Tryz.sizeOf9
  v9 := Tryz.zeroValue9
  t20 := Tryz.underlying20
  a20 := Tryz.isAgg20
  z20 := Tryz.sizeOf20
  v20 := Tryz.zeroValue20
  t37 := Tryz.underlying22
  a37 := Tryz.isAgg22
  z37 := Tryz.sizeOf22
  v37 := Tryz.zeroValue22
  t46 := Tryz.underlying140
  a46 := Tryz.isAgg140
  z46 := Tryz.sizeOf140
  v46 := Tryz.zeroValue140
  t51 := Tryz.underlying158
  a51 := Tryz.isAgg158
  z51 := Tryz.sizeOf158
  v51 := Tryz.zeroValue158
  t53 := Tryz.underlying127
  a53 := Tryz.isAgg127
  z53 := Tryz.sizeOf127
  v53 := Tryz.zeroValue127
  t171 := Tryz.underlying126
  a171 := Tryz.isAgg126
  z171 := Tryz.sizeOf126
  v171 := Tryz.zeroValue126
  t173 := Tryz.underlying130
  a173 := Tryz.isAgg130
  z173 := Tryz.sizeOf130
  v173 := Tryz.zeroValue130
  t212 := Tryz.underlying157
  a212 := Tryz.isAgg157
  z212 := Tryz.sizeOf157
  v212 := Tryz.zeroValue157
  t213 := Tryz.underlying159
  a213 := Tryz.isAgg159
  z213 := Tryz.sizeOf159
  t232 := Tryz.underlying204
  a232 := Tryz.isAgg204
  z232 := Tryz.sizeOf204
  v232 := Tryz.zeroValue204
  t233 := Tryz.underlying205
  a233 := Tryz.isAgg205
  z233 := Tryz.sizeOf205
  v233 := Tryz.zeroValue205
  g17 := by kernel_rfl
  g18 := by kernel_rfl
  g19 := by kernel_rfl }
open Go.RowKit Go.Sort Go.Lib in
theorem Tryz.strconv_Itoa_small (i : Nat) (hi : i < 100) (w : World) :
    Calls Tryz.prog 30 #[.int .i64 i] w fun e w' => e = .returned (.string ⟨(Lib.decDigits i).toArray⟩) ∧ w' = w := Any.strconv_Itoa_small Tryz.lays171 i hi w
def Tryz.lays145_ren : Go.Shelf.Ren := ⟨fun | 145 => 46 | 220 => 76 | 219 => 125 | 217 => 194 | 225 => 195 | 224 => 196 | 267 => 197 | 266 => 239 | 314 => 240 | n => n, fun | 9 => 9 | 4 => 4 | 59 => 60 | 3 => 3 | 5 => 5 | 46 => 140 | 146 => 166 | 51 => 158 | n => n, fun | 1 => 0 | n => n⟩
theorem Tryz.lays145 : Go.Proofs.Lays.n145 Tryz.prog Tryz.lays145_ren := {
  mixed := by kernel_rfl
  f145 := Tryz.func46.trans (congrArg some (by kernel_rfl))
  f217 := Tryz.func194.trans (congrArg some (by kernel_rfl))
  f219 := Tryz.func125.trans (congrArg some (by kernel_rfl))
  f220 := Tryz.func76.trans (congrArg some (by kernel_rfl))
  f224 := Tryz.func196.trans (congrArg some (by kernel_rfl))
  f225 := Tryz.func195.trans (congrArg some (by kernel_rfl))
  f266 := Tryz.func239.trans (congrArg some (by kernel_rfl))
  f267 := Tryz.func197.trans (congrArg some (by kernel_rfl))
  f314 := Tryz.func240.trans (congrArg some (by kernel_rfl))
  t3 := Tryz.underlying3
  a3 := Tryz.isAgg3
  z3 := Tryz.sizeOf3
  v3 := Tryz.zeroValue3
  t4 := Tryz.underlying4
  a4 := Tryz.isAgg4
  z4 := Tryz.sizeOf4
  v4 := Tryz.zeroValue4
  t5 := Tryz.underlying5
  a5 := Tryz.isAgg5
  z5 := Tryz.sizeOf5
  v5 := Tryz.zeroValue5
  t9 := Tryz.underlying9
  a9 := Tryz.isAgg9
  z9 := Tryz.sizeOf9
  v9 := Tryz.zeroValue9
  t46 := Tryz.underlying140
  a46 := Tryz.isAgg140
  z46 := Tryz.sizeOf140
  v46 := Tryz.zeroValue140
  t51 := Tryz.underlying158
  a51 := Tryz.isAgg158
  z51 := Tryz.sizeOf158
  v51 := Tryz.zeroValue158
  t59 := Tryz.underlying60
  a59 := Tryz.isAgg60
  z59 := Tryz.sizeOf60
  v59 := Tryz.zeroValue60
  t146 := Tryz.underlying166
  a146 := Tryz.isAgg166
  z146 := Tryz.sizeOf166
  v146 := Tryz.zeroValue166
  g1 := by kernel_rfl }
open Go.RowKit Go.Lib in
theorem Tryz.strings_Cut (s sep : ByteArray) (m : Int) (w : World) (hs : s.size < 4294967281) (hm : w.cell? ⟨0, 0, none⟩ = some (.int .i64 m)) :
    Calls Tryz.prog 46 #[.string s, .string sep] w fun e w' => e = .returned (.tuple #[.string ⟨(Lib.cut s.data.toList sep.data.toList).1.toArray⟩, .string ⟨(Lib.cut s.data.toList sep.data.toList).2.1.toArray⟩, .bool (Lib.cut s.data.toList sep.data.toList).2.2]) ∧ ∃ n, w' = w.drewN n := Any.strings_Cut Tryz.lays145 s sep m w hs hm
def Tryz.lays146_ren : Go.Shelf.Ren := ⟨fun | 146 => 28 | 221 => 45 | 268 => 73 | 138 => 74 | 143 => 75 | 195 => 122 | 197 => 123 | 218 => 124 | 219 => 125 | 260 => 193 | 217 => 194 | 225 => 195 | 224 => 196 | 267 => 197 | 266 => 239 | 314 => 240 | n => n, fun | 9 => 9 | 31 => 46 | 3 => 3 | 4 => 4 | 0 => 0 | 105 => 101 | 21 => 21 | 5 => 5 | 46 => 140 | 119 => 162 | 139 => 165 | 138 => 164 | 146 => 166 | 51 => 158 | n => n, fun | 1 => 0 | 3 => 2 | 4 => 3 | n => n⟩
theorem Tryz.lays146 : Go.Proofs.Lays.n146 Tryz.prog Tryz.lays146_ren := {
  mixed := by kernel_rfl
  f138 := Tryz.func74.trans (congrArg some (by kernel_rfl))
  f143 := Tryz.func75.trans (congrArg some (by kernel_rfl))
  f146 := Tryz.func28.trans (congrArg some (by kernel_rfl))
  f195 := Tryz.func122.trans (congrArg some (by kernel_rfl))
  f197 := Tryz.func123.trans (congrArg some (by kernel_rfl))
  f217 := Tryz.func194.trans (congrArg some (by kernel_rfl))
  f218 := Tryz.func124.trans (congrArg some (by kernel_rfl))
  f219 := Tryz.func125.trans (congrArg some (by kernel_rfl))
  f221 := Tryz.func45.trans (congrArg some (by kernel_rfl))
  f224 := Tryz.func196.trans (congrArg some (by kernel_rfl))
  f225 := Tryz.func195.trans (congrArg some (by kernel_rfl))
  f260 := Tryz.func193.trans (congrArg some (by kernel_rfl))
  f266 := Tryz.func239.trans (congrArg some (by kernel_rfl))
  f267 := Tryz.func197.trans (congrArg some (by kernel_rfl))
  f268 := Tryz.func73.trans (congrArg some (by kernel_rfl))
  f314 := Tryz.func240.trans (congrArg some (by kernel_rfl))
  t0 := Tryz.underlying0
  a0 := Tryz.isAgg0
  z0 := Tryz.sizeOf0
  v0 := Tryz.zeroValue0
  t3 := Tryz.underlying3
  a3 := Tryz.isAgg3
  z3 := Tryz.sizeOf3
  v3 := Tryz.zeroValue3
  t4 := Tryz.underlying4
  a4 := Tryz.isAgg4
  z4 := Tryz.sizeOf4
  v4 := Tryz.zeroValue4
  t5 := Tryz.underlying5
  a5 := Tryz.isAgg5
  z5 := Tryz.sizeOf5
  v5 := Tryz.zeroValue5
  t9 := Tryz.underlying9
  a9 := Tryz.isAgg9
  z9 := Tryz.sizeOf9
  v9 := Tryz.zeroValue9
  t21 := Tryz.underlying21
  a21 := Tryz.isAgg21
  z21 := Tryz.sizeOf21
  v21 := Tryz.zeroValue21
  t31 := Tryz.underlying46
  a31 := Tryz.isAgg46
  z31 := Tryz.sizeOf46
  v31 := Tryz.zeroValue46
  t46 := Tryz.underlying140
  a46 := Tryz.isAgg140
  z46 := Tryz.sizeOf140
  v46 := Tryz.zeroValue140
  t51 := Tryz.underlying158
  a51 := Tryz.isAgg158
  z51 := Tryz.sizeOf158
  v51 := Tryz.zeroValue158
  t105 := Tryz.underlying101
  a105 := Tryz.isAgg101
  z105 := Tryz.sizeOf101
  v105 := Tryz.zeroValue101
  t119 := Tryz.underlying162
  a119 := Tryz.isAgg162
  z119 := Tryz.sizeOf162
  t138 := Tryz.underlying164
  a138 := Tryz.isAgg164
  z138 := Tryz.sizeOf164
  v138 := Tryz.zeroValue164
  t139 := Tryz.underlying165
  a139 := Tryz.isAgg165
  z139 := Tryz.sizeOf165
  v139 := Tryz.zeroValue165
  t146 := Tryz.underlying166
  a146 := Tryz.isAgg166
  z146 := Tryz.sizeOf166
  v146 := Tryz.zeroValue166
  g1 := by kernel_rfl
  g3 := by kernel_rfl
  g4 := by kernel_rfl }
open Go.RowKit Go.Lib in
theorem Tryz.strings_Split (s sep : ByteArray) (m : Int) (w : World) (hs : s.size < 4294967281) (hm : w.cell? ⟨0, 0, none⟩ = some (.int .i64 m)) (h1 : 1 ≤ sep.size) :
    Calls Tryz.prog 28 #[.string s, .string sep] w fun e w' =>
      e = .returned (.slice (some ⟨w.heap.size, 0, none⟩) (Lib.countB s sep + 1) (Lib.countB s sep + 1)) ∧ w' = w.alloc (.cells ((Lib.splitB sep 0 (Lib.countB s sep) s).map Value.string).toArray 9) := Any.strings_Split Tryz.lays146 (by kernel_rfl) s sep m w hs hm h1
def Tryz.laysM146_ren : Go.Shelf.Ren := ⟨fun | 146 => 28 | 221 => 45 | 268 => 73 | 138 => 74 | 143 => 75 | 195 => 122 | 197 => 123 | 218 => 124 | 219 => 125 | 260 => 193 | 217 => 194 | 225 => 195 | 224 => 196 | 267 => 197 | 266 => 239 | 314 => 240 | n => n, fun | 9 => 9 | 31 => 46 | 3 => 3 | 4 => 4 | 0 => 0 | 105 => 101 | 21 => 21 | 5 => 5 | 46 => 140 | 119 => 162 | 139 => 165 | 138 => 164 | 146 => 166 | 51 => 158 | n => n, fun | 1 => 0 | 3 => 2 | 4 => 3 | n => n⟩
theorem Tryz.laysM146 : Go.Proofs.LaysM.n146 Tryz.prog Tryz.laysM146_ren := {
  mixed := by kernel_rfl
  f138 := Tryz.func74.trans (congrArg some (by kernel_rfl))
  f143 := Tryz.func75.trans (congrArg some (by kernel_rfl))
  f146 := Tryz.func28.trans (congrArg some (by kernel_rfl))
  f195 := Tryz.func122.trans (congrArg some (by kernel_rfl))
  f197 := Tryz.func123.trans (congrArg some (by kernel_rfl))
  f217 := Tryz.func194.trans (congrArg some (by kernel_rfl))
  f218 := Tryz.func124.trans (congrArg some (by kernel_rfl))
  f219 := Tryz.func125.trans (congrArg some (by kernel_rfl))
  f221 := Tryz.func45.trans (congrArg some (by kernel_rfl))
  f224 := Tryz.func196.trans (congrArg some (by kernel_rfl))
  f225 := Tryz.func195.trans (congrArg some (by kernel_rfl))
  f260 := Tryz.func193.trans (congrArg some (by kernel_rfl))
  f266 := Tryz.func239.trans (congrArg some (by kernel_rfl))
  f267 := Tryz.func197.trans (congrArg some (by kernel_rfl))
  f268 := Tryz.func73.trans (congrArg some (by kernel_rfl))
  f314 := Tryz.func240.trans (congrArg some (by kernel_rfl))
  t0 := Tryz.underlying0
  a0 := Tryz.isAgg0
  z0 := Tryz.sizeOf0
  v0 := Tryz.zeroValue0
  t3 := Tryz.underlying3
  a3 := Tryz.isAgg3
  z3 := Tryz.sizeOf3
  v3 := Tryz.zeroValue3
  t4 := Tryz.underlying4
  a4 := Tryz.isAgg4
  z4 := Tryz.sizeOf4
  v4 := Tryz.zeroValue4
  t5 := Tryz.underlying5
  a5 := Tryz.isAgg5
  z5 := Tryz.sizeOf5
  v5 := Tryz.zeroValue5
  t9 := Tryz.underlying9
  a9 := Tryz.isAgg9
  z9 := Tryz.sizeOf9
  v9 := Tryz.zeroValue9
  t21 := Tryz.underlying21
  a21 := Tryz.isAgg21
  z21 := Tryz.sizeOf21
  v21 := Tryz.zeroValue21
  t31 := Tryz.underlying46
  a31 := Tryz.isAgg46
  z31 := Tryz.sizeOf46
  v31 := Tryz.zeroValue46
  t46 := Tryz.underlying140
  a46 := Tryz.isAgg140
  z46 := Tryz.sizeOf140
  v46 := Tryz.zeroValue140
  t51 := Tryz.underlying158
  a51 := Tryz.isAgg158
  z51 := Tryz.sizeOf158
  v51 := Tryz.zeroValue158
  t105 := Tryz.underlying101
  a105 := Tryz.isAgg101
  z105 := Tryz.sizeOf101
  v105 := Tryz.zeroValue101
  t119 := Tryz.underlying162
  a119 := Tryz.isAgg162
  z119 := Tryz.sizeOf162
  t138 := Tryz.underlying164
  a138 := Tryz.isAgg164
  z138 := Tryz.sizeOf164
  v138 := Tryz.zeroValue164
  t139 := Tryz.underlying165
  a139 := Tryz.isAgg165
  z139 := Tryz.sizeOf165
  v139 := Tryz.zeroValue165
  t146 := Tryz.underlying166
  a146 := Tryz.isAgg166
  z146 := Tryz.sizeOf166
  v146 := Tryz.zeroValue166
  g1 := by kernel_rfl
  g3 := by kernel_rfl
  g4 := by kernel_rfl
  i0 := by kernel_rfl
  i3 := by kernel_rfl
  i4 := by kernel_rfl
  i5 := by kernel_rfl
  i9 := by kernel_rfl
  i21 := by kernel_rfl
  i31 := by kernel_rfl
  i46 := by kernel_rfl
  i51 := by kernel_rfl
  i105 := by kernel_rfl
  i138 := by kernel_rfl
  i139 := by kernel_rfl
  i146 := by kernel_rfl
  m1 := by kernel_rfl
  s1_3 := fun w h => Go.Proofs.cell_of_shapedOpen_int (zero := #[.int .i64 0]) (t := 3) h (of_decide_eq_true (by kernel_rfl)) (by kernel_rfl) rfl (by kernel_rfl) (by kernel_rfl) Tryz.underlying3
  m3 := by kernel_rfl
  m4 := by kernel_rfl }
end Go.Proofs

set_option linter.unusedVariables false
set_option linter.unusedSimpArgs false
namespace Go.Proofs.YtiobedekgnfjcaaGreatDoor.P
open Go.RowKit Go.Proofs.YtiobedekgnfjcaaGreatDoorW.PrintWords Go.Proofs.YtiobedekgnfjcaaGreatDoorW.PrintLast

theorem strRow (w : World) (xs : List ByteArray) (hm : xs.length ≤ 9223372036854775807) :
    Kd.R Kd.string 9 (w.alloc (.cells (xs.map Value.string).toArray 9)) w.heap.size (fun _ => True) (.slice (some ⟨w.heap.size, 0, none⟩) xs.length xs.length) xs := by
  refine Kd.R_of_own ?_ (fun _ _ => trivial)
  have h := World.ownsRow_lit (base := w.heap.size) (e := 9) (size := 1) w (xs.map Value.string).toArray xs.length (Nat.le_refl _) (by simpa [maxLen] using hm) (by simp)
  simpa [encs] using h
def strings_Split.f (s sep : ByteArray) : Option (List ByteArray) := if s.size < 4294967281 ∧ 1 ≤ sep.size then some (Lib.splitB sep 0 (Lib.countB s sep) s) else none
theorem strings_Split.calls (s sep : ByteArray) (r : List ByteArray) (m : Int) (w : World) (hm : w.cell? ⟨0, 0, none⟩ = some (.int .i64 m)) (h : strings_Split.f s sep = some r) :
    Calls Tryz.prog 28 #[.string s, .string sep] w fun e w' => ∃ v0_ : Value, e = .returned v0_ ∧ Kd.R Kd.string 9 w' w.heap.size (fun _ => True) v0_ r ∧ Below w.heap.size w w' := by
  unfold strings_Split.f at h
  by_cases hc : s.size < 4294967281 ∧ 1 ≤ sep.size
  case neg => rw [if_neg hc] at h; cases h
  rw [if_pos hc] at h
  obtain rfl := Option.some.inj h
  refine (Tryz.strings_Split s sep m w hc.1 hm hc.2).mono ?_
  rintro e w' ⟨rfl, rfl⟩
  have hl := Lib.splitB_all sep hc.2 0 _ s rfl
  have hle := Lib.countB_le sep hc.2 s.size s (Nat.le_refl _)
  have h2 := strRow w (Lib.splitB sep 0 (Lib.countB s sep) s) (by rw [hl]; omega)
  rw [hl] at h2
  exact ⟨_, rfl, h2, below_alloc (Below.refl _ _) _⟩
def tenB : ByteArray := ⟨#[48, 49, 50, 51, 52, 53, 54, 55, 56, 57]⟩
def strings_Trim.f (s cut : ByteArray) : Option ByteArray := if s.size ≤ 9223372036854775807 ∧ cut = tenB then some ⟨(Lib.trimS s.data.toList cut.data.toList).toArray⟩ else none
theorem strings_Trim.calls (s cut : ByteArray) (r : ByteArray) (w : World) (h : strings_Trim.f s cut = some r) :
    Calls Tryz.prog 90 #[.string s, .string cut] w fun e w' => e = .returned (.string r) ∧ Below w.heap.size w w' := by
  unfold strings_Trim.f at h
  by_cases hc : s.size ≤ 9223372036854775807 ∧ cut = tenB
  case neg => rw [if_neg hc] at h; cases h
  rw [if_pos hc] at h
  obtain rfl := Option.some.inj h
  obtain ⟨hs, rfl⟩ := hc
  exact Tryz.strings_Trim s tenB w hs (by decide) (ascii_of_all (by decide))
def strconv_Atoi_91.f (s : ByteArray) : Option (Int × Option Int) := if s.size ≤ 18 then (Lib.atoi s.data.toList).map fun n => (n, none) else none
theorem strconv_Atoi_91.calls (s : ByteArray) (r1 : Int) (r2 : Option Int) (w : World) (h : strconv_Atoi_91.f s = some (r1, r2)) :
    Calls Tryz.prog 91 #[.string s] w fun e w' => e = .returned (.tuple #[.int .i64 r1, errW r2]) ∧ Below w.heap.size w w' := by
  unfold strconv_Atoi_91.f at h
  by_cases hc : s.size ≤ 18
  case neg => rw [if_neg hc] at h; cases h
  rw [if_pos hc] at h
  obtain ⟨n, hn, he⟩ := Option.map_eq_some_iff.1 h
  obtain ⟨rfl, rfl⟩ := Prod.mk.inj he
  refine (Tryz.strconv_Atoi s n hc hn w).mono ?_
  rintro e w' ⟨rfl, t, rfl⟩
  exact ⟨rfl, Lib.bytesWorld_below _ _ _⟩
def itoaL (n : Nat) : List UInt8 := if n < 10 then [UInt8.ofNat (48 + n)] else [UInt8.ofNat (48 + n / 10), UInt8.ofNat (48 + n % 10)]
theorem itoaL_eq (n : Nat) (h : n < 100) : Lib.decDigits n = itoaL n := by
  unfold itoaL Lib.decDigits
  by_cases h1 : n < 10
  · rw [dif_pos h1, if_pos h1]
  · rw [dif_neg h1, if_neg h1]
    unfold Lib.decDigits
    rw [dif_pos (by omega)]
    rfl
def strconv_Itoa_30.f (n : Int) : Option ByteArray := if 0 ≤ n ∧ n < 100 then some ⟨(itoaL n.toNat).toArray⟩ else none
theorem strconv_Itoa_30.calls (n : Int) (r : ByteArray) (w : World) (h : strconv_Itoa_30.f n = some r) :
    Calls Tryz.prog 30 #[.int .i64 n] w fun e w' => e = .returned (.string r) ∧ Drawn0 w w' := by
  unfold strconv_Itoa_30.f at h
  by_cases hc : 0 ≤ n ∧ n < 100
  case neg => rw [if_neg hc] at h; cases h
  rw [if_pos hc] at h
  obtain rfl := Option.some.inj h
  obtain ⟨i, rfl⟩ : ∃ i : Nat, n = i := ⟨n.toNat, by omega⟩
  refine (Tryz.strconv_Itoa_small i (by omega) w).mono ?_
  rintro e w' ⟨rfl, rfl⟩
  exact ⟨by rw [itoaL_eq i (by omega)]; rfl, Drawn0.refl _⟩
def strings_Join.f (l : List ByteArray) (sep : ByteArray) : Option ByteArray := if l.length ≤ 140737488355328 ∧ (Lib.join (l.map (·.data.toList)) sep.data.toList).length ≤ 140737488355328 then some ⟨(Lib.join (l.map (·.data.toList)) sep.data.toList).toArray⟩ else none
end Go.Proofs.YtiobedekgnfjcaaGreatDoor.P

set_option linter.unusedVariables false
set_option linter.unusedSimpArgs false
namespace Go.Proofs.YtiobedekgnfjcaaGreatDoor.X
open Go.RowKit Go.Proofs.YtiobedekgnfjcaaGreatDoorW.PrintWords Go.Proofs.YtiobedekgnfjcaaGreatDoorW.PrintLast Go.Proofs.YtiobedekgnfjcaaGreatDoor.P

structure DeskV (W : World) (B b : Nat) (A : Option Addr) (c : Nat) (t : List Int) (vp : Value) (p : List Int) : Prop where
  hB : B ≤ b
  c0 : W.cell? ⟨b, 0, none⟩ = some (.slice A t.length c)
  c1 : W.cell? ⟨b, 1, none⟩ = some vp
  f0 : W.frozen? ⟨b, 0, none⟩ = false
  f1 : W.frozen? ⟨b, 1, none⟩ = false
  ht : Kd.R (Kd.int .i64) 3 W B (fun q => q ≠ b ∧ some q ≠ vp.ownBlock) (.slice A t.length c) t
  hp : Kd.R (Kd.int .i64) 3 W B (fun q => q ≠ b) vp p
theorem DeskV.below {W W' : World} {B b : Nat} {A : Option Addr} {c : Nat} {t : List Int} {vp : Value} {p : List Int} (h : DeskV W B b A c t vp p) (hb : Below W.heap.size W W') : DeskV W' B b A c t vp p :=
  have l : b < W.heap.size := World.block_lt_of_cell? W _ h.c0
  ⟨h.hB, (hb.cell (p := ⟨b, 0, none⟩) l).trans h.c0, (hb.cell (p := ⟨b, 1, none⟩) l).trans h.c1, (hb.frozen (p := ⟨b, 0, none⟩) l).trans h.f0, (hb.frozen (p := ⟨b, 1, none⟩) l).trans h.f1, Kd.R_below h.ht hb, Kd.R_below h.hp hb⟩
theorem DeskV.read {W : World} {B b : Nat} {A : Option Addr} {c : Nat} {t : List Int} {vp : Value} {p : List Int} (h : DeskV W B b A c t vp p) : Kd.C (Kd.int .i64) W A t.length t := (Kd.R_reads' h.ht).2.2
theorem DeskV.cap {W : World} {B b : Nat} {A : Option Addr} {c : Nat} {t : List Int} {vp : Value} {p : List Int} (h : DeskV W B b A c t vp p) : t.length ≤ c := (Kd.R_reads' h.ht).2.1
structure RunAt (W : World) (B b : Nat) (vp : Value) (t' p' : List Int) (W' : World) : Prop where
  desk : ∃ A' c' vp', DeskV W' B b A' c' t' vp' p'
  bl : Below B W W'
  far : ∀ k, k < W.heap.size → k ≠ b → some k ≠ vp.ownBlock → W'.heap[k]? = W.heap[k]?
theorem RunAt.same {W W' : World} {B b : Nat} {A : Option Addr} {c : Nat} {t : List Int} {vp : Value} {p : List Int} (h : DeskV W B b A c t vp p) (hb : Below W.heap.size W W') : RunAt W B b vp t p W' :=
  have l : b < W.heap.size := World.block_lt_of_cell? W _ h.c0
  ⟨⟨_, _, _, h.below hb⟩, hb.mono (by have := h.hB; omega), fun k hk _ _ => hb.block k hk⟩
theorem cut_calls (s word rest : ByteArray) (has : Bool) (m : Int) (w : World) (hs : s.size < 4294967281) (hm : w.cell? ⟨0, 0, none⟩ = some (.int .i64 m)) (h : Lib.cut s.data.toList [32] = (word.data.toList, rest.data.toList, has)) :
    Calls Tryz.prog 46 #[.string s, .string ⟨#[32]⟩] w fun e w' => e = .returned (.tuple #[.string word, .string rest, .bool has]) ∧ ∃ n, w' = w.drewN n := by
  have hc := Tryz.strings_Cut s ⟨#[32]⟩ m w hs hm
  rw [show (⟨#[32]⟩ : ByteArray).data.toList = [32] from rfl, h] at hc
  exact hc
end Go.Proofs.YtiobedekgnfjcaaGreatDoor.X

set_option linter.unusedVariables false
set_option linter.unusedSimpArgs false
namespace Go.Proofs.YtiobedekgnfjcaaGreatDoor.X
open Go.RowKit Go.Proofs.YtiobedekgnfjcaaGreatDoorW.PrintWords Go.Proofs.YtiobedekgnfjcaaGreatDoorW.PrintLast Go.Proofs.YtiobedekgnfjcaaGreatDoor.P

abbrev StepF := List Int → List Int → ByteArray → Option ((List Int × List Int) × ByteArray)
def linesOf (text : ByteArray) : List ByteArray := Lib.splitB ⟨#[10]⟩ 0 (Lib.countB text ⟨#[10]⟩) text
def execL (step : StepF) : List ByteArray → List Int → List Int → ByteArray → Option ((List Int × List Int) × ByteArray)
  | [], t, p, out => some ((t, p), out)
  | l :: ls, t, p, out => (step t p l).bind fun r => if out.size + (r.2.size + 1) ≤ 9223372036854775807 then execL step ls r.1.1 r.1.2 (out ++ (r.2 ++ ⟨#[10]⟩)) else none
def pointsW : ByteArray := ⟨#[112, 111, 105, 110, 116, 115, 32]⟩
def execF (step : StepF) (k : Nat) (text : ByteArray) : Option ByteArray :=
  if text.size ≤ 600 then (impl_tableOf.f k 0).bind fun t => (execL step (linesOf text).dropLast t [] ⟨#[]⟩).bind fun r =>
    (strconv_Itoa_30.f (r.1.2.length : Int)).bind fun d => if r.2.size + 100 ≤ 9223372036854775807 ∧ d.size ≤ 2 then some (((r.2 ++ pointsW) ++ d) ++ ⟨#[10]⟩) else none
  else some ⟨#[116, 111, 111, 32, 108, 111, 110, 103, 10]⟩
theorem lines_len (text : ByteArray) : (linesOf text).length = Lib.countB text ⟨#[10]⟩ + 1 := Lib.splitB_all ⟨#[10]⟩ (by decide) 0 _ text rfl
theorem lines_pos (text : ByteArray) : 1 ≤ (linesOf text).length := by rw [lines_len]; omega
theorem lines_le (text : ByteArray) : (linesOf text).length ≤ text.size + 1 := by rw [lines_len]; have := Lib.countB_le ⟨#[10]⟩ (by decide) text.size text (Nat.le_refl _); omega
theorem lines_drop (text : ByteArray) (i : Int) (n : Nat) (l : ByteArray) (hn : (linesOf text).length = n + 1) (i0 : 0 ≤ i) (ci : i < n) (hl : rdOf ByteArray.empty (linesOf text) i = l) :
    (linesOf text).dropLast.drop i.toNat = l :: (linesOf text).dropLast.drop (i + 1).toNat := by
  have hd : i.toNat < (linesOf text).dropLast.length := by rw [List.length_dropLast]; omega
  rw [List.drop_eq_getElem_cons hd, show (i + 1).toNat = i.toNat + 1 by omega]
  congr 1
  rw [List.getElem_dropLast, ← hl]
  unfold rdOf
  rw [List.getD_eq_getElem?_getD, List.getElem?_eq_getElem (by omega)]
  rfl
theorem splitB_size (sep : ByteArray) : ∀ (k : Nat) (s l : ByteArray), l ∈ Lib.splitB sep 0 k s → l.size ≤ s.size
  | 0, s, l, h => by
    simp only [Lib.splitB, List.mem_singleton] at h
    subst h
    exact Nat.le_refl _
  | k + 1, s, l, h => by
    unfold Lib.splitB at h
    by_cases hc : (Lib.indexB s sep == -1) = true
    · rw [if_pos hc] at h
      simp only [List.mem_singleton] at h
      subst h
      exact Nat.le_refl _
    · rw [if_neg hc] at h
      rcases List.mem_cons.1 h with rfl | h
      · simp only [ByteArray.size_extract]; omega
      · have := splitB_size sep k _ l h
        simp only [ByteArray.size_extract] at this
        omega
theorem lines_size (text l : ByteArray) (h : l ∈ linesOf text) (h6 : text.size ≤ 600) : l.size ≤ 600 := Nat.le_trans (splitB_size _ _ _ _ h) h6
theorem lines_kept {W W' : World} {B b : Nat} {ok : Nat → Prop} {vl vp : Value} {ls : List ByteArray} {p : List Int} (hR : Kd.R Kd.string 9 W B (fun q => q ≠ b) vl ls) (hp : Kd.R (Kd.int .i64) 3 W B ok vp p)
    (far : ∀ k, k < W.heap.size → k ≠ b → some k ≠ vp.ownBlock → W'.heap[k]? = W.heap[k]?) : Kd.R Kd.string 9 W' B (fun q => q ≠ b) vl ls := by
  refine Kd.R_mono (Kd.R_move (Kd.R_bound hR) (fun k hk => far k hk.2.2.1 hk.1 (fun e => ?_))) (fun k hk => hk.1)
  obtain ⟨_, _, _, q, hq, cells, hc⟩ := hk
  obtain ⟨_, _, _, q', hq', cells', hc'⟩ := (Kd.R_bound hp).1 k e.symm
  rw [hc] at hc'
  have e1 : q = 9 := List.mem_singleton.1 hq
  have e2 : q' = 3 := List.mem_singleton.1 hq'
  subst e1
  subst e2
  injection hc' with hc'
  injection hc' with _ hc'
  exact absurd hc' (by decide)
def StepOk (step : StepF) (m : Int) : Prop :=
  ∀ (W : World) (B b : Nat) (A : Option Addr) (c : Nat) (t : List Int) (vp : Value) (p : List Int) (l : ByteArray) (r : (List Int × List Int) × ByteArray), DeskV W B b A c t vp p → W.cell? ⟨0, 0, none⟩ = some (.int .i64 m) → l.size ≤ 600 → step t p l = some r →
    Calls Tryz.prog 29 #[.pointer (some ⟨b, 0, none⟩), .string l] W fun e w' => e = .returned (.string r.2) ∧ RunAt W B b vp r.1.1 r.1.2 w'
set_option maxRecDepth 100000 in
set_option maxHeartbeats 8000000 in
theorem execute_calls (step : StepF) (m : Int) (hstep : StepOk step m) (k : Nat) (text out : ByteArray) (w : World) (hm : w.cell? ⟨0, 0, none⟩ = some (.int .i64 m)) (h : execF step k text = some out) :
    Calls Tryz.prog 10 #[.string text] w fun e w' => e = .returned (.string out) ∧ Below w.heap.size w w' := by
  unfold execF at h
  by_cases h6 : text.size ≤ 600
  case neg =>
    rw [if_neg h6] at h
    obtain rfl := Option.some.inj h
    have d1 : decide (600 < (text.size : Int)) = true := decide_eq_true (by omega)
    have d2 : decide (600 < text.size) = true := decide_eq_true (by omega)
    clear h6
    go_enter Tryz.func10, Tryz.ntmps10
    go_wp2
    go_ret
    exact ⟨rfl, Below.refl _ _⟩
  case pos =>
  rw [if_pos h6] at h
  replace h := Option.bind_eq_some_iff.1 h
  obtain ⟨t0, ht0, h⟩ := h
  replace h := Option.bind_eq_some_iff.1 h
  obtain ⟨⟨⟨tf, pf⟩, of⟩, hl, h⟩ := h
  replace h := Option.bind_eq_some_iff.1 h
  obtain ⟨d, hd, h⟩ := h
  by_cases hz : of.size + 100 ≤ 9223372036854775807 ∧ d.size ≤ 2
  case neg => simp only [if_neg hz] at h; cases h
  simp only [if_pos hz] at h
  obtain rfl := Option.some.inj h
  have d1 : decide (600 < (text.size : Int)) = false := decide_eq_false (by omega)
  have d2 : decide (600 < text.size) = false := decide_eq_false (by omega)
  have HT := Aside0.mk (impl_tableOf.calls k 0 t0 w ht0)
  have HS := Aside0.mk hstep
  have HM := Aside0.mk hm
  have HL := Aside0.mk hl
  have HD := Aside0.mk (fun w => strconv_Itoa_30.calls _ d w hd)
  have HZ := Aside0.mk hz
  have HX := Aside0.mk h6
  clear h h6 hl hd hz ht0 hm hstep
  go_enter Tryz.func10, Tryz.ntmps10
  go_wp2_with fail
  refine HT.out.mono ?_
  rintro e w1 ⟨vt, rfl, ho, hb⟩
  obtain ⟨At, ct, rfl⟩ := Kd.R_slice ho
  have HO := Aside0.mk ho
  have HB := Aside0.mk hb
  clear ho hb HT
  go_wp2_with fail
  have hc0 : (w1.alloc (.cells #[.slice At t0.length ct, .slice none 0 0] 45)).cell? ⟨w1.heap.size, 0, none⟩ = some (.slice At t0.length ct) := World.cell?_alloc_new w1 _ _ 0
  have hc1 : (w1.alloc (.cells #[.slice At t0.length ct, .slice none 0 0] 45)).cell? ⟨w1.heap.size, 1, none⟩ = some (.slice none 0 0) := World.cell?_alloc_new w1 _ _ 1
  have hf0 : (w1.alloc (.cells #[.slice At t0.length ct, .slice none 0 0] 45)).frozen? ⟨w1.heap.size, 0, none⟩ = false := World.frozen?_alloc_new w1 _ _ 0
  have hf1 : (w1.alloc (.cells #[.slice At t0.length ct, .slice none 0 0] 45)).frozen? ⟨w1.heap.size, 1, none⟩ = false := World.frozen?_alloc_new w1 _ _ 1
  have hba : Below w1.heap.size w1 (w1.alloc (.cells #[.slice At t0.length ct, .slice none 0 0] 45)) := below_alloc (Below.refl _ _) _
  have hdk : DeskV (w1.alloc (.cells #[.slice At t0.length ct, .slice none 0 0] 45)) w.heap.size w1.heap.size At ct t0 (.slice none 0 0) [] :=
    ⟨HB.out.size, hc0, hc1, hf0, hf1, Kd.R_below (Kd.R_mono (Kd.R_bound HO.out) (fun k hk => ⟨by have := hk.2.2.1; omega, by simp [Value.ownBlock]⟩)) hba, Kd.R_nil _ _ _ _ _⟩
  have hb2 := bstep HB.out hba
  generalize w1.alloc (.cells #[.slice At t0.length ct, .slice none 0 0] 45) = W1 at hdk hb2 ⊢
  clear hc0 hc1 hf0 hf1 hba HO
  obtain ⟨b, hbe⟩ : ∃ b, w1.heap.size = b := ⟨_, rfl⟩
  rw [hbe] at hdk ⊢
  clear hbe HB
  have hml := World.block_lt_of_cell? w _ HM.out
  have hm1 := (hb2.cell hml).trans HM.out
  refine (strings_Split.calls text ⟨#[10]⟩ (linesOf text) m W1 hm1 (by unfold strings_Split.f linesOf; rw [if_pos ⟨by have := HX.out; omega, by decide⟩])).mono ?_
  rintro e W2 ⟨vl, rfl, hol, hbl⟩
  obtain ⟨Al, cl, rfl⟩ := Kd.R_slice hol
  have hlb : b < W1.heap.size := World.block_lt_of_cell? _ _ hdk.c0
  have HDK := Aside0.mk (hdk.below hbl)
  have HB := Aside0.mk (bstep hb2 hbl)
  have HR := Aside0.mk (show Kd.R Kd.string 9 W2 w.heap.size (fun q => q ≠ b) (.slice Al (linesOf text).length cl) (linesOf text) from
    Kd.R_lower (Kd.R_mono (Kd.R_bound hol) (fun k hk => by have := hk.2.1; omega)) hb2.size)
  obtain ⟨n, hn⟩ : ∃ n, (linesOf text).length = n + 1 := ⟨(linesOf text).length - 1, by have := lines_pos text; omega⟩
  have hcl := (Kd.R_reads' hol).2.1
  rw [hn] at hcl HR ⊢
  have hnb : n ≤ 600 := by have := lines_le text; have := HX.out; omega
  have zn : IntKind.i64.wrap (n : Int) = n := by rw [IntKind.wrap_i64]; omega
  have q2 : (n : Int) ≤ (cl : Int) := by omega
  have q3 : n ≤ cl := by omega
  have HN := Aside0.mk hn
  clear hdk hb2 hol hbl hlb hm1 hn hcl
  go_wp2_with fail
  go_loopg [4, 22] n (fun kq v4 v22 w' => ∃ (i : Int) (t p : List Int) (o : ByteArray) (A : Option Addr) (c : Nat) (vp : Value), v22 = .int .i64 i ∧ v4 = .string o ∧ Aside0 (0 ≤ i ∧ i ≤ n) ∧ Aside0 ((n : Int) - i ≤ kq) ∧ Aside0 (execL step ((linesOf text).dropLast.drop i.toNat) t p o = some ((tf, pf), of)) ∧ Aside0 (DeskV w' w.heap.size b A c t vp p) ∧ Aside0 (Kd.R Kd.string 9 w' w.heap.size (fun q => q ≠ b) (.slice Al (n + 1) cl) (linesOf text)) ∧ Aside0 (Below w.heap.size w w'))
  case atStart => exact ⟨0, _, _, _, _, _, _, rfl, rfl, ⟨by omega⟩, ⟨by omega⟩, HL, HDK, HR, HB⟩
  case round =>
    clear HL HDK HR HB
    obtain ⟨i, t, p, o, A, c, vp, rfl, rfl, HI, HK, HL, HDK, HR, HB⟩ := hrel
    have i0 : 0 ≤ i := HI.out.1
    by_cases ci : i < n
    case pos =>
      obtain ⟨ad, e1, g1⟩ := Kd.at_string (Kd.R_reads' HR.out).2.2 i i0 (by have := HN.out; clear zn; omega)
      subst e1
      obtain ⟨l, hl⟩ : ∃ l, rdOf ByteArray.empty (linesOf text) i = l := ⟨_, rfl⟩
      rw [hl] at g1
      have hdrop : (linesOf text).dropLast.drop i.toNat = l :: (linesOf text).dropLast.drop (i + 1).toNat := lines_drop text i n l HN.out i0 ci hl
      have hle : l.size ≤ 600 := lines_size text l (by
        have : l ∈ (linesOf text).dropLast.drop i.toNat := by rw [hdrop]; exact List.mem_cons_self
        exact (List.dropLast_sublist _).subset (List.mem_of_mem_drop this)) HX.out
      have hel := HL.out
      rw [hdrop] at hel
      simp only [execL] at hel
      obtain ⟨⟨⟨t', p'⟩, s2⟩, hst, hel⟩ := Option.bind_eq_some_iff.1 hel
      by_cases hz : o.size + (s2.size + 1) ≤ 9223372036854775807
      case neg => simp only [if_neg hz] at hel; cases hel
      simp only [if_pos hz] at hel
      have hml := World.block_lt_of_cell? w _ HM.out
      have HC := Aside0.mk (HS.out wr w.heap.size b A c t vp p l _ HDK.out ((HB.out.cell hml).trans HM.out) hle hst)
      have HEL := Aside0.mk hel
      have z1 : (9223372036854775807 < s2.size + 1) = False := eq_false (by omega)
      have z2 : (9223372036854775807 < o.size + (s2.size + 1)) = False := eq_false (by omega)
      have zi : IntKind.i64.wrap (i + 1) = i + 1 := by rw [IntKind.wrap_i64]; have := HI.out; omega
      have HG := Aside0.mk hnb
      clear hl hdrop hle hel hst hz hml hnb
      go_wp2_with fail
      refine HC.out.mono ?_
      rintro e w3 ⟨rfl, hra⟩
      obtain ⟨A', c', vp', hdk'⟩ := hra.desk
      have HDK3 := Aside0.mk hdk'
      have HR3 := Aside0.mk (lines_kept HR.out HDK.out.hp hra.far)
      have HB3 := Aside0.mk (HB.out.trans hra.bl)
      clear hra hdk' HDK HR HB HC HL
      go_wp2
      go_roundg (n - (i.toNat + 1))
      case measure => have := HK.out; omega
      case rel => exact ⟨i + 1, _, _, _, _, _, _, rfl, rfl, ⟨by omega⟩, ⟨by have := HG.out; omega⟩, HEL, HDK3, HR3, HB3⟩
    case neg =>
      have hi : i = n := by have := HI.out; omega
      subst hi
      have hel := HL.out
      rw [show (n : Int).toNat = n from rfl, List.drop_of_length_le (by rw [List.length_dropLast, HN.out]; omega)] at hel
      simp only [execL, Option.some.injEq, Prod.mk.injEq] at hel
      obtain ⟨⟨rfl, rfl⟩, rfl⟩ := hel
      obtain ⟨Ap, cp, rfl⟩ := Kd.R_slice HDK.out.hp
      have hc1 := HDK.out.c1
      have y1 : (9223372036854775807 < o.size + 7) = False := eq_false (by have := HZ.out; omega)
      have y2 : (9223372036854775807 < o.size + 7 + d.size) = False := eq_false (by have := HZ.out; omega)
      have y3 : (9223372036854775807 < o.size + 7 + d.size + 1) = False := eq_false (by have := HZ.out; omega)
      clear HL HDK HR ci HN zn hnb q2 q3
      go_wp2_with (go_at_call 30; with_reducible refine (HD.out _).mono ?_; rintro e w' ⟨rfl, ⟨nd, rfl⟩⟩)
      go_ret
      exact ⟨rfl, pw_below_drewN HB.out _⟩
end Go.Proofs.YtiobedekgnfjcaaGreatDoor.X

namespace Go.Proofs.YtiobedekgnfjcaaGreatDoor.P
open Go.RowKit Go.Proofs.YtiobedekgnfjcaaGreatDoorW.PrintWords Go.Proofs.YtiobedekgnfjcaaGreatDoorW.PrintLast Go.Proofs.YtiobedekgnfjcaaGreatDoorW.PrintMore
set_option linter.unusedVariables false
set_option linter.unusedSimpArgs false

def impl_readNumbers.l0 : Nat → List Int → List ByteArray → Int → Int → Option (List Int × Bool)
 | 0, _, _, _, _ => none
 | k + 1, x7, x19, x20, x21 => if x21 < x20 then (if 0 ≤ x21 then (if x21 < (x19.length : Int) then (if ((rdOf ByteArray.empty x19 x21).size : Int) < 1 then (some (([] : List Int), false)) else (if ((rdOf ByteArray.empty x19 x21).size : Int) > 2 then (some (([] : List Int), false)) else ((strings_Trim.f (rdOf ByteArray.empty x19 x21) (⟨#[48, 49, 50, 51, 52, 53, 54, 55, 56, 57]⟩ : ByteArray)).bind fun t457 => (if t457.toList = ([] : List UInt8) then ((strconv_Atoi_91.f (rdOf ByteArray.empty x19 x21)).bind fun bt458 => (if x7.length < 17592186044416 then (impl_readNumbers.l0 k (x7 ++ [bt458.1]) x19 x20 (wrap64 (x21 + 1))) else (none))) else (some (([] : List Int), false)))))) else (none)) else (none)) else (some (x7, true))
def impl_readNumbers.f (k : Nat) (a0 : ByteArray) (a1 : Int) : Option (List Int × Bool) := (strings_Split.f a0 (⟨#[32]⟩ : ByteArray)).bind fun t450 => (if (t450.length : Int) = a1 then (impl_readNumbers.l0 k (([] : List Int)) t450 (t450.length : Int) 0) else (some (([] : List Int), false)))
set_option maxHeartbeats 8000000 in
set_option maxRecDepth 100000 in
theorem impl_readNumbers.calls (k : Nat) (a0 : ByteArray) (a1 : Int) (r1 : List Int) (r2 : Bool) (m_ : Int) (w : World) (hm_ : w.cell? ⟨0, 0, none⟩ = some (.int .i64 m_)) (h : impl_readNumbers.f k a0 a1 = some (r1, r2)) :
  Calls Tryz.prog 48 #[.string a0, .int .i64 a1] w fun e w' => ∃ v0_ : Value, e = .returned (.tuple #[v0_, .bool r2]) ∧ Kd.R (Kd.int .i64) 3 w' w.heap.size (fun _ => True) v0_ r1 ∧ Below w.heap.size w w' := by
 have HM_ := Aside0.mk hm_
 clear hm_
 have HB := Aside0.mk (Below.refl w.heap.size w)
 have H : ((strings_Split.f a0 (⟨#[32]⟩ : ByteArray)).bind fun t450 => (if (t450.length : Int) = a1 then (impl_readNumbers.l0 k (([] : List Int)) t450 (t450.length : Int) 0) else (some (([] : List Int), false)))) = some (r1, r2) := h
 clear h
 replace H := Option.bind_eq_some_iff.mp H
 obtain ⟨t450, A30, H⟩ := H
 replace H : (if (t450.length : Int) = a1 then (impl_readNumbers.l0 k (([] : List Int)) t450 (t450.length : Int) 0) else (some (([] : List Int), false))) = some (r1, r2) := H
 have A3 := Aside0.mk A30
 clear A30
 by_cases c4 : (t450.length : Int) = a1
 ·rw [if_pos c4] at H
  have c4b0 : ((t450.length : Int) == a1) = true := beq_iff_eq.mpr c4
  have c4b1 : ((t450.length : Int) != a1) = false := bne_eq_false_iff_eq.mpr c4
  clear c4
  obtain ⟨y453, hy453⟩ : ∃ y_ : List Int, y_ = (([] : List Int)) := ⟨_, rfl⟩
  replace H : (impl_readNumbers.l0 k y453 t450 (t450.length : Int) 0) = some (r1, r2) := by first | (rw [hy453]; with_reducible exact H) | (have H2_ := (Option.bind_some _ _).symm.trans H; rw [hy453]; with_reducible exact H2_) | (have H2_ := (Option.bind_some _ _).symm.trans H; with_reducible exact H2_) | with_reducible exact H | (rw [hy453]; exact H) | exact H
  have Ny453 := Aside0.mk hy453
  clear hy453
  have H' := Aside0.mk H
  clear H
  go_enter Tryz.func48, Tryz.ntmps48
  go_wp2_with (first | (refine goesL_ (some 13) rfl rfl Tryz.func28 (by kernel_rfl) rfl #[.string a0, .string (⟨#[32]⟩ : ByteArray)] rfl ll_ ?_; (with_reducible refine (strings_Split.calls a0 (⟨#[32]⟩ : ByteArray) t450 m_ _ HM_.out A3.out).mono ?_); rintro e w5 ⟨v451, rfl, ho0, hb⟩; refine ⟨_, rfl, ?_⟩; have n0_ := Aside0.mk (Kd.R_lower ho0 (below_size (bb_ HB))); have n1_ := Aside0.mk (below_step (bb_ HB) hb); clear HB; have HO452 := n0_; have HB := n1_; clear n0_ n1_; (try clear hb); (try clear hb2); (try clear hk); (try clear hi); (try clear ho0); obtain ⟨Ao6, co6, eo6⟩ := Kd.R_slice HO452.out; subst eo6) | ((with_reducible refine gate_dst (N := 18) rfl ?_); refine Kd.R_lit (Kd.int .i64) _ 3 ?hg (N := 18) ?hd (xs := ([] : List Int)) (inner := []) (ok := fun _ => True) (okp := fun _ => True) ?hr ?hp (fun _ hk => hk) trivial (Below.refl _ _) (Nat.le_refl _) (by simp) ?_; (case hd => rfl); (case hg => rfl); (case hr => first | (go_simp; done) | (go_simp; rfl)); (case hp => exact (Reps.none _ _)); intro v454 w7 ho8 hb hg_ hnew_; clear hg_ hnew_; (first | rw [← Ny453.out] at ho8 | (simp only [Int.reduceToNat] at ho8; rw [← Ny453.out] at ho8)); have n0_ := Aside0.mk (Kd.R_below (rr_ HO452) hb); have n1_ := Aside0.mk (Kd.R_lower ho8 (below_size (bb_ HB))); have n2_ := Aside0.mk (below_step (bb_ HB) hb); clear HO452; clear HB; have HO452 := n0_; have HO455 := n1_; have HB := n2_; clear n0_ n1_ n2_; clear hb ho8))
  go_loopg [7, 21] k (fun kq v7 v21 w' => ∃ (x7_1 : List Int) (x21_1 : Int), v21 = .int .i64 x21_1 ∧ Aside0 (impl_readNumbers.l0 kq x7_1 t450 (t450.length : Int) x21_1 = some (r1, r2)) ∧ Aside0 (kq ≤ k) ∧ Aside0 (Kd.R (Kd.int .i64) 3 w' w.heap.size (fun _ => True) v7 x7_1) ∧ Aside0 (Kd.R Kd.string 9 w' w.heap.size (fun _ => True) (.slice Ao6 t450.length co6) t450) ∧ Aside0 (Below w.heap.size w w'))
  case atStart => exact ⟨(y453), (0), (by first | rfl | (simp; done) | (simp [*]; done)), H', ⟨Nat.le_refl _⟩, ⟨rr_ HO455⟩, ⟨rr_ HO452⟩, ⟨by repeat (first | (with_reducible first | exact HB.out | apply below_alloc | apply pw_below_drewN | apply below_drew1) | exact HB.out)⟩⟩
  case round =>
   clear H'
   try clear c2
   try clear p2
   try clear c4
   try clear c4b0
   try clear c4b1
   obtain ⟨x7_1, x21_1, rfl, HA, HK1, HO_7, HO_19, HB⟩ := hrel
   cases gk with
   | zero => exact absurd HA.out (by simp [impl_readNumbers.l0])
   | succ k1 =>
    have H := HA.out
    clear HA
    simp only [impl_readNumbers.l0] at H
    by_cases c9 : x21_1 < (t450.length : Int)
    ·rw [if_pos c9] at H
     have c9b0 : decide (x21_1 < (t450.length : Int)) = true := decide_eq_true c9
     clear c9
     by_cases c10 : 0 ≤ x21_1
     ·rw [if_pos c10] at H
      have c10b0 : decide (0 ≤ x21_1) = true := decide_eq_true c10
      clear c10
      by_cases c11 : x21_1 < (t450.length : Int)
      ·rw [if_pos c11] at H
       have c11b0 : decide (x21_1 < (t450.length : Int)) = true := decide_eq_true c11
       clear c11
       by_cases c12 : ((rdOf ByteArray.empty t450 x21_1).size : Int) < 1
       ·rw [if_pos c12] at H
        have c12b0 : decide (((rdOf ByteArray.empty t450 x21_1).size : Int) < 1) = true := decide_eq_true c12
        have c12b1 : decide ((rdOf ByteArray.empty t450 x21_1).size < 1) = true := decide_eq_true (by omega)
        clear c12
        simp only [Option.some.injEq, Prod.mk.injEq] at H
        obtain ⟨rfl, rfl⟩ := H
        have p456 : 0 ≤ (x21_1 : Int) := dd_
        have q456 : x21_1 < (t450.length : Int) := dd_
        obtain ⟨ad456, e456, hx456_0⟩ := Kd.at_string (Kd.R_reads' HO_19.out).2.2 x21_1 p456 q456
        cases e456
        replace p456 := eq_true p456
        replace q456 := eq_true q456
        go_wp2
        go_ret2
        exact ⟨_, ee_, by first | exact Kd.R_nil _ _ _ _ _ | exact Kd.N_nil _ _ _ _ _ | exact Kd.V_nil _ _ _ _ _ | exact Kd.Q_nil _ _ _ _ _ | exact Kd.S_nil _ _ _ _ _, bb_ HB⟩
       ·rw [if_neg c12] at H
        have c12b0 : decide (((rdOf ByteArray.empty t450 x21_1).size : Int) < 1) = false := decide_eq_false c12
        have c12b1 : decide ((rdOf ByteArray.empty t450 x21_1).size < 1) = false := decide_eq_false (by omega)
        clear c12
        by_cases c13 : ((rdOf ByteArray.empty t450 x21_1).size : Int) > 2
        ·rw [if_pos c13] at H
         have c13b0 : decide (2 < ((rdOf ByteArray.empty t450 x21_1).size : Int)) = true := decide_eq_true c13
         have c13b1 : decide (2 < (rdOf ByteArray.empty t450 x21_1).size) = true := decide_eq_true (by omega)
         clear c13
         simp only [Option.some.injEq, Prod.mk.injEq] at H
         obtain ⟨rfl, rfl⟩ := H
         have p456 : 0 ≤ (x21_1 : Int) := dd_
         have q456 : x21_1 < (t450.length : Int) := dd_
         obtain ⟨ad456, e456, hx456_0⟩ := Kd.at_string (Kd.R_reads' HO_19.out).2.2 x21_1 p456 q456
         cases e456
         replace p456 := eq_true p456
         replace q456 := eq_true q456
         go_wp2
         go_ret2
         exact ⟨_, ee_, by first | exact Kd.R_nil _ _ _ _ _ | exact Kd.N_nil _ _ _ _ _ | exact Kd.V_nil _ _ _ _ _ | exact Kd.Q_nil _ _ _ _ _ | exact Kd.S_nil _ _ _ _ _, bb_ HB⟩
        ·rw [if_neg c13] at H
         have c13b0 : decide (2 < ((rdOf ByteArray.empty t450 x21_1).size : Int)) = false := decide_eq_false c13
         have c13b1 : decide (2 < (rdOf ByteArray.empty t450 x21_1).size) = false := decide_eq_false (by omega)
         clear c13
         replace H := Option.bind_eq_some_iff.mp H
         obtain ⟨t457, A140, H⟩ := H
         replace H : (if t457.toList = ([] : List UInt8) then ((strconv_Atoi_91.f (rdOf ByteArray.empty t450 x21_1)).bind fun bt458 => (if x7_1.length < 17592186044416 then (impl_readNumbers.l0 k1 (x7_1 ++ [bt458.1]) t450 (t450.length : Int) (wrap64 (x21_1 + 1))) else (none))) else (some (([] : List Int), false))) = some (r1, r2) := H
         have A14 := Aside0.mk A140
         clear A140
         by_cases c15 : t457.toList = ([] : List UInt8)
         ·rw [if_pos c15] at H
          have c15b0 : (t457.toList == ([] : List UInt8)) = true := beq_iff_eq.mpr c15
          have c15b1 : (t457.toList != ([] : List UInt8)) = false := bne_eq_false_iff_eq.mpr c15
          clear c15
          replace H := Option.bind_eq_some_iff.mp H
          obtain ⟨⟨t458, t459⟩, A160, H⟩ := H
          replace H : (if x7_1.length < 17592186044416 then (impl_readNumbers.l0 k1 (x7_1 ++ [t458]) t450 (t450.length : Int) (wrap64 (x21_1 + 1))) else (none)) = some (r1, r2) := H
          have A16 := Aside0.mk A160
          clear A160
          by_cases c17 : x7_1.length < 17592186044416
          ·rw [if_pos c17] at H
           have LMc17 := Aside0.mk c17
           clear c17
           obtain ⟨y460, hy460⟩ : ∃ y_ : List Int, y_ = (x7_1 ++ [t458]) := ⟨_, rfl⟩
           replace H : (impl_readNumbers.l0 k1 y460 t450 (t450.length : Int) (wrap64 (x21_1 + 1))) = some (r1, r2) := by first | (rw [hy460]; with_reducible exact H) | (have H2_ := (Option.bind_some _ _).symm.trans H; rw [hy460]; with_reducible exact H2_) | (have H2_ := (Option.bind_some _ _).symm.trans H; with_reducible exact H2_) | with_reducible exact H | (rw [hy460]; exact H) | exact H
           have Ny460 := Aside0.mk hy460
           clear hy460
           have H' := Aside0.mk H
           clear H
           have p456 : 0 ≤ (x21_1 : Int) := dd_
           have q456 : x21_1 < (t450.length : Int) := dd_
           obtain ⟨ad456, e456, hx456_0⟩ := Kd.at_string (Kd.R_reads' HO_19.out).2.2 x21_1 p456 q456
           cases e456
           replace p456 := eq_true p456
           replace q456 := eq_true q456
           go_wp2_with (first | (go_at_call 90; (with_reducible refine (strings_Trim.calls (rdOf ByteArray.empty t450 x21_1) (⟨#[48, 49, 50, 51, 52, 53, 54, 55, 56, 57]⟩ : ByteArray) t457 _ A14.out).mono ?_); rintro e w18 ⟨rfl, hb⟩; have n0_ := Aside0.mk (Kd.R_below (rr_ HO_7) hb); have n1_ := Aside0.mk (Kd.R_below (rr_ HO_19) hb); have n2_ := Aside0.mk (below_step (bb_ HB) hb); clear HO_7; clear HO_19; clear HB; have HO_7 := n0_; have HO_19 := n1_; have HB := n2_; clear n0_ n1_ n2_; (try clear hb); (try clear hb2); (try clear hk); (try clear hi)) | (refine goesL_ (some 40) rfl rfl Tryz.func91 (by kernel_rfl) rfl #[.string (rdOf ByteArray.empty t450 x21_1)] rfl ll_ ?_; (with_reducible refine (strconv_Atoi_91.calls (rdOf ByteArray.empty t450 x21_1) t458 t459 _ A16.out).mono ?_); rintro e w19 ⟨rfl, hb⟩; refine ⟨_, rfl, ?_⟩; have n0_ := Aside0.mk (Kd.R_below (rr_ HO_7) hb); have n1_ := Aside0.mk (Kd.R_below (rr_ HO_19) hb); have n2_ := Aside0.mk (below_step (bb_ HB) hb); clear HO_7; clear HO_19; clear HB; have HO_7 := n0_; have HO_19 := n1_; have HB := n2_; clear n0_ n1_ n2_; (try clear hb); (try clear hb2); (try clear hk); (try clear hi); (try simp only [errW_none, errW_some])) | (at_builtin; refine Kd.R_append (Kd.int .i64) (w0 := w) w.heap.size rfl (.tmp 43) (.tmp 45) 31 3 (.int .i64 0) 8 rfl Tryz.underlying31 info3 rfl (by decide) (by omega) u7 x7_1 t458 [.int .i64 t458] (fun _ => True) (fun _ => False) rfl rfl ?aP (fun _ hk => hk.elim) ?aF ?aO ?aB ?aS ?aL ?_; (case aP => exact rfl); (case aB => exact (bb_ HB)); (case aF => exact (fun _ _ => trivial)); (case aO => exact (rr_ HO_7)); (case aS => exact (below_size (bb_ HB))); (case aL => have := LMc17.out; omega); intro v461 w20 ho hb hg hat; rw [← Ny460.out] at ho; have n0_ := Aside0.mk (Kd.R_over' (rr_ HO_19) (Kd.R_typed (rr_ HO_7)) (by decide) hg); have n1_ := Aside0.mk (hb); have n2_ := Aside0.mk (ho); clear HO_19; clear HB; clear HO_7; have HO_19 := n0_; have HB := n1_; have HO462 := n2_; clear n0_ n1_ n2_; clear ho hb hg hat))
           go_roundg k1
           case measure => have := HK1.out; omega
           case rel => exact ⟨(y460), (wrap64 (x21_1 + 1)), (by first | rfl | (simp; done) | (simp [*]; done)), H', ⟨by have := HK1.out; omega⟩, ⟨rr_ HO462⟩, ⟨rr_ HO_19⟩, ⟨by repeat (first | (with_reducible first | exact HB.out | apply below_alloc | apply pw_below_drewN | apply below_drew1) | exact HB.out)⟩⟩
          ·rw [if_neg c17] at H
           exact absurd H (by simp)
         ·rw [if_neg c15] at H
          have c15b0 : (t457.toList == ([] : List UInt8)) = false := beq_eq_false_iff_ne.mpr c15
          have c15b1 : (t457.toList != ([] : List UInt8)) = true := bne_iff_ne.mpr c15
          simp only [Option.some.injEq, Prod.mk.injEq] at H
          obtain ⟨rfl, rfl⟩ := H
          have p456 : 0 ≤ (x21_1 : Int) := dd_
          have q456 : x21_1 < (t450.length : Int) := dd_
          obtain ⟨ad456, e456, hx456_0⟩ := Kd.at_string (Kd.R_reads' HO_19.out).2.2 x21_1 p456 q456
          cases e456
          replace p456 := eq_true p456
          replace q456 := eq_true q456
          go_wp2_with (first | (go_at_call 90; (with_reducible refine (strings_Trim.calls (rdOf ByteArray.empty t450 x21_1) (⟨#[48, 49, 50, 51, 52, 53, 54, 55, 56, 57]⟩ : ByteArray) t457 _ A14.out).mono ?_); rintro e w21 ⟨rfl, hb⟩; have n0_ := Aside0.mk (Kd.R_below (rr_ HO_7) hb); have n1_ := Aside0.mk (Kd.R_below (rr_ HO_19) hb); have n2_ := Aside0.mk (below_step (bb_ HB) hb); clear HO_7; clear HO_19; clear HB; have HO_7 := n0_; have HO_19 := n1_; have HB := n2_; clear n0_ n1_ n2_; (try clear hb); (try clear hb2); (try clear hk); (try clear hi)))
          go_ret2
          exact ⟨_, ee_, by first | exact Kd.R_nil _ _ _ _ _ | exact Kd.N_nil _ _ _ _ _ | exact Kd.V_nil _ _ _ _ _ | exact Kd.Q_nil _ _ _ _ _ | exact Kd.S_nil _ _ _ _ _, bb_ HB⟩
      ·rw [if_neg c11] at H
       exact absurd H (by simp)
     ·rw [if_neg c10] at H
      exact absurd H (by simp)
    ·rw [if_neg c9] at H
     have c9b0 : decide (x21_1 < (t450.length : Int)) = false := decide_eq_false c9
     clear c9
     simp only [Option.some.injEq, Prod.mk.injEq] at H
     obtain ⟨rfl, rfl⟩ := H
     go_wp2
     go_ret2
     exact ⟨_, ee_, by (with_reducible repeat (first | apply Kd.R_alloc | apply Kd.R_drewN | apply Kd.R_drew)); exact HO_7.out, bb_ HB⟩
 ·rw [if_neg c4] at H
  have c4b0 : ((t450.length : Int) == a1) = false := beq_eq_false_iff_ne.mpr c4
  have c4b1 : ((t450.length : Int) != a1) = true := bne_iff_ne.mpr c4
  simp only [Option.some.injEq, Prod.mk.injEq] at H
  obtain ⟨rfl, rfl⟩ := H
  go_enter Tryz.func48, Tryz.ntmps48
  go_wp2_with (first | (refine goesL_ (some 13) rfl rfl Tryz.func28 (by kernel_rfl) rfl #[.string a0, .string (⟨#[32]⟩ : ByteArray)] rfl ll_ ?_; (with_reducible refine (strings_Split.calls a0 (⟨#[32]⟩ : ByteArray) t450 m_ _ HM_.out A3.out).mono ?_); rintro e w22 ⟨v451, rfl, ho0, hb⟩; refine ⟨_, rfl, ?_⟩; have n0_ := Aside0.mk (Kd.R_lower ho0 (below_size (bb_ HB))); have n1_ := Aside0.mk (below_step (bb_ HB) hb); clear HB; have HO452 := n0_; have HB := n1_; clear n0_ n1_; (try clear hb); (try clear hb2); (try clear hk); (try clear hi); (try clear ho0); obtain ⟨Ao23, co23, eo23⟩ := Kd.R_slice HO452.out; subst eo23))
  go_ret2
  exact ⟨_, ee_, by first | exact Kd.R_nil _ _ _ _ _ | exact Kd.N_nil _ _ _ _ _ | exact Kd.V_nil _ _ _ _ _ | exact Kd.Q_nil _ _ _ _ _ | exact Kd.S_nil _ _ _ _ _, bb_ HB⟩
end Go.Proofs.YtiobedekgnfjcaaGreatDoor.P

set_option linter.unusedVariables false
set_option linter.unusedSimpArgs false
namespace Go.Proofs.YtiobedekgnfjcaaGreatDoor.X
open Go.RowKit Go.Proofs.YtiobedekgnfjcaaGreatDoorW.PrintWords Go.Proofs.YtiobedekgnfjcaaGreatDoorW.PrintLast Go.Proofs.YtiobedekgnfjcaaGreatDoor.P

set_option maxRecDepth 100000 in
set_option maxHeartbeats 8000000 in
theorem run_add_yes (k : Nat) (b : Nat) (s rest : ByteArray) (m : Int) (W : World) (hs : s.size < 4294967281) (hm : W.cell? ⟨0, 0, none⟩ = some (.int .i64 m))
    (hcut : Lib.cut s.data.toList [32] = ([97, 100, 100], rest.data.toList, true)) (x y : Int) (hn : impl_readNumbers.f k rest 2 = some ([x, y], true)) (hx : In9 x) (hy : In9 y) (r : ByteArray) (hr : strconv_Itoa_30.f (addN x y) = some r) :
    Calls Tryz.prog 29 #[.pointer (some ⟨b, 0, none⟩), .string s] W fun e w' => e = .returned (.string r) ∧ Below W.heap.size W w' := by
  have HC := Aside0.mk (cut_calls s ⟨#[97, 100, 100]⟩ rest true m W hs hm hcut)
  have HM := Aside0.mk hm
  have HR := Aside0.mk (fun w hm => impl_readNumbers.calls k rest 2 _ _ m w hm hn)
  have HA := Aside0.mk (fun w => add_calls x y hx hy w)
  have HN1 := Aside0.mk (isNine_calls x)
  have HN2 := Aside0.mk (isNine_calls y)
  rw [show isN x = true by unfold isN; simp [hx.1, hx.2]] at HN1
  rw [show isN y = true by unfold isN; simp [hy.1, hy.2]] at HN2
  have HI := Aside0.mk (fun w => strconv_Itoa_30.calls _ _ w hr)
  clear hs hm hcut hn hx hy hr
  go_enter Tryz.func29, Tryz.ntmps29
  go_wp2_with (go_at_call 46; refine HC.out.mono ?_; rintro e w1 ⟨rfl, ⟨nd, rfl⟩⟩)
  refine (HR.out _ (by simpa using HM.out)).mono ?_
  rintro e w2 ⟨v, rfl, ho, hb⟩
  obtain ⟨Ao, co, rfl⟩ := Kd.R_slice ho
  obtain ⟨ad, e1, g1⟩ := Kd.at_int (Kd.R_reads' ho).2.2 0 (by omega) (by show (0 : Int) < 2; omega)
  obtain ⟨ad', e2, g2⟩ := Kd.at_int (Kd.R_reads' ho).2.2 1 (by omega) (by show (1 : Int) < 2; omega)
  subst e1
  cases e2
  rw [show [x, y].length = 2 from rfl]
  have g1 : w2.cell? ad = some (.int .i64 x) := g1
  have g2 : w2.cell? ⟨ad.block, ad.off + 1, none⟩ = some (.int .i64 y) := g2
  have HB := Aside0.mk (bstep (Drawn0.below (w := W) ⟨⟨nd, rfl⟩⟩) hb)
  clear ho hb HC HR HM
  go_wp2_with (first | (go_at_call 35; with_reducible refine (HN1.out _).mono ?_; rintro e w' ⟨rfl, ⟨nd, rfl⟩⟩) | (go_at_call 35; with_reducible refine (HN2.out _).mono ?_; rintro e w' ⟨rfl, ⟨nd, rfl⟩⟩))
  go_region_held3 (fun w' => w'.cell? ad = some (.int .i64 x) ∧ w'.cell? ⟨ad.block, ad.off + 1, none⟩ = some (.int .i64 y))
    (go_keep)
    (first
     | (go_at_call 36; with_reducible refine (HA.out _).mono ?_; rintro e w' ⟨rfl, ⟨nd, rfl⟩⟩)
     | (go_at_call 30; with_reducible refine (HI.out _).mono ?_; rintro e w' ⟨rfl, ⟨nd, rfl⟩⟩))
  go_wp2
  go_ret
  trace_state
  exact ⟨rfl, by repeat (first | exact HB.out | apply pw_below_drewN | apply below_drew1)⟩
end Go.Proofs.YtiobedekgnfjcaaGreatDoor.X

set_option linter.unusedVariables false
set_option linter.unusedSimpArgs false
namespace Go.Proofs.YtiobedekgnfjcaaGreatDoor.X
open Go.RowKit Go.Proofs.YtiobedekgnfjcaaGreatDoorW.PrintWords Go.Proofs.YtiobedekgnfjcaaGreatDoorW.PrintLast Go.Proofs.YtiobedekgnfjcaaGreatDoor.P

def addOut (t p : List Int) : List Int × Bool → Option ((List Int × List Int) × ByteArray)
  | ([x, y], true) => if isN x = true ∧ isN y = true then (strconv_Itoa_30.f (addN x y)).map fun d => ((t, p), d) else none
  | _ => none
def stepAdd (k : Nat) : StepF := fun t p l =>
  if (Lib.cut l.data.toList [32]).1 = [97, 100, 100] ∧ (Lib.cut l.data.toList [32]).2.2 = true then (impl_readNumbers.f k ⟨(Lib.cut l.data.toList [32]).2.1.toArray⟩ 2).bind (addOut t p) else none
theorem stepAdd_ok (k : Nat) (m : Int) : StepOk (stepAdd k) m := by
  intro W B b A c t vp p l r hd hm hl h
  unfold stepAdd at h
  by_cases hc : (Lib.cut l.data.toList [32]).1 = [97, 100, 100] ∧ (Lib.cut l.data.toList [32]).2.2 = true
  case neg => rw [if_neg hc] at h; cases h
  rw [if_pos hc] at h
  obtain ⟨⟨n, ok⟩, hn, ho⟩ := Option.bind_eq_some_iff.1 h
  have key : ∃ x y : Int, n = [x, y] ∧ ok = true ∧ isN x = true ∧ isN y = true ∧ ∃ d, strconv_Itoa_30.f (addN x y) = some d ∧ r = ((t, p), d) := by
    unfold addOut at ho
    split at ho
    · rename_i x y heq
      obtain ⟨rfl, rfl⟩ := Prod.mk.inj heq
      by_cases hi : isN x = true ∧ isN y = true
      · rw [if_pos hi] at ho
        obtain ⟨d, hd', he⟩ := Option.map_eq_some_iff.1 ho
        exact ⟨x, y, rfl, rfl, hi.1, hi.2, d, hd', he.symm⟩
      · rw [if_neg hi] at ho; cases ho
    · cases ho
  obtain ⟨x, y, rfl, rfl, hx, hy, d, hd', rfl⟩ := key
  have h9 : ∀ {z : Int}, isN z = true → In9 z := fun {z} hz => by unfold isN at hz; simp only [Bool.and_eq_true, decide_eq_true_eq] at hz; exact hz
  refine (run_add_yes k b l ⟨(Lib.cut l.data.toList [32]).2.1.toArray⟩ m W (by omega) hm (by rw [← hc.1, ← hc.2]) x y hn (h9 hx) (h9 hy) d hd').mono ?_
  rintro e w' ⟨rfl, hb⟩
  exact ⟨rfl, RunAt.same hd hb⟩
end Go.Proofs.YtiobedekgnfjcaaGreatDoor.X
namespace Go.Proofs.YtiobedekgnfjcaaGreatDoor.P
open Go.RowKit Go.Proofs.YtiobedekgnfjcaaGreatDoorW.PrintWords Go.Proofs.YtiobedekgnfjcaaGreatDoorW.PrintLast
def impl_Execute.f (a0 : ByteArray) : Option ByteArray := X.execF (X.stepAdd 100) 100 a0
theorem impl_Execute.calls (a0 : ByteArray) (r : ByteArray) (m : Int) (w : World) (hm : w.cell? ⟨0, 0, none⟩ = some (.int .i64 m)) (h : impl_Execute.f a0 = some r) :
    Calls Tryz.prog 10 #[.string a0] w fun e w' => e = .returned (.string r) ∧ Below w.heap.size w w' :=
  X.execute_calls _ m (X.stepAdd_ok 100 m) 100 a0 r w hm h
end Go.Proofs.YtiobedekgnfjcaaGreatDoor.P

namespace Go.Proofs.YtiobedekgnfjcaaGreatDoor.P
open Go.RowKit Go.Proofs.YtiobedekgnfjcaaGreatDoorW.PrintWords Go.Proofs.YtiobedekgnfjcaaGreatDoorW.PrintLast
set_option linter.unusedVariables false
set_option linter.unusedSimpArgs false

def laws_FnExecuteAdd.j0 : Nat → Int → Int → Int → Int → Bool → Option (Bool)
 | 0, _, _, _, _, _ => none
 | k + 1, x3, x4, x5, x6, x27 => if x27 = true then (some (x5 == x6)) else ((laws_digits.f k x3).bind fun t519 => (if 4 + t519.size ≤ 9223372036854775807 then (if ((⟨#[97, 100, 100, 32]⟩ : ByteArray) ++ t519).size + 1 ≤ 9223372036854775807 then ((laws_digits.f k x4).bind fun t520 => (if (((⟨#[97, 100, 100, 32]⟩ : ByteArray) ++ t519) ++ (⟨#[32]⟩ : ByteArray)).size + t520.size ≤ 9223372036854775807 then (if ((((⟨#[97, 100, 100, 32]⟩ : ByteArray) ++ t519) ++ (⟨#[32]⟩ : ByteArray)) ++ t520).size + 1 ≤ 9223372036854775807 then ((impl_Execute.f (((((⟨#[97, 100, 100, 32]⟩ : ByteArray) ++ t519) ++ (⟨#[32]⟩ : ByteArray)) ++ t520) ++ (⟨#[10]⟩ : ByteArray))).bind fun t521 => ((laws_digits.f k x5).bind fun t522 => (if t522.size + 10 ≤ 9223372036854775807 then (some (t521.toList == (t522 ++ (⟨#[10, 112, 111, 105, 110, 116, 115, 32, 48, 10]⟩ : ByteArray)).toList)) else (none)))) else (none)) else (none))) else (none)) else (none)))
def laws_FnExecuteAdd.f (k : Nat) (l0 : List Int) : Option (Bool) := if (l0.length : Int) > 1048576 then (some true) else ((spec_DrawNineAdd.f k l0).bind fun bt515 => ((impl_NineAdd.f bt515.1 bt515.2).bind fun t517 => ((spec_NineAdd.f bt515.1 bt515.2).bind fun t518 => (if t517 = t518 then (laws_FnExecuteAdd.j0 k bt515.1 bt515.2 t517 t518 (decide (t517 < 0))) else (laws_FnExecuteAdd.j0 k bt515.1 bt515.2 t517 t518 true)))))
set_option maxHeartbeats 8000000 in
set_option maxRecDepth 100000 in
theorem laws_FnExecuteAdd.calls (k : Nat) (A0 : Option Addr) (c0 : Nat) (l0 : List Int) (r : Bool) (m_ : Int) (w : World) (hm_ : w.cell? ⟨0, 0, none⟩ = some (.int .i64 m_)) (hr0 : Kd.C (Kd.int .u8) w A0 l0.length l0) (hc0 : l0.length ≤ c0) (h : laws_FnExecuteAdd.f k l0 = some r) :
  Calls Tryz.prog 6 #[.slice A0 l0.length c0] w fun e w' => e = .returned (.bool r) ∧ Below w.heap.size w w' := by
 have HR0 := Aside0.mk hr0
 have HC0 := Aside0.mk hc0
 clear hr0 hc0
 have HM_ := Aside0.mk hm_
 clear hm_
 have HB := Aside0.mk (Below.refl w.heap.size w)
 have H : (if (l0.length : Int) > 1048576 then (some true) else ((spec_DrawNineAdd.f k l0).bind fun bt515 => ((impl_NineAdd.f bt515.1 bt515.2).bind fun t517 => ((spec_NineAdd.f bt515.1 bt515.2).bind fun t518 => (if t517 = t518 then (laws_FnExecuteAdd.j0 k bt515.1 bt515.2 t517 t518 (decide (t517 < 0))) else (laws_FnExecuteAdd.j0 k bt515.1 bt515.2 t517 t518 true)))))) = some r := h
 clear h
 by_cases c2 : (l0.length : Int) > 1048576
 ·rw [if_pos c2] at H
  have c2b0 : decide (1048576 < (l0.length : Int)) = true := decide_eq_true c2
  have c2b1 : decide (1048576 < l0.length) = true := decide_eq_true (by omega)
  clear c2
  obtain rfl := Option.some.inj H
  go_enter Tryz.func6, Tryz.ntmps6
  go_wp2
  go_ret
  exact ⟨ee_, bb_ HB⟩
 ·rw [if_neg c2] at H
  have c2b0 : decide (1048576 < (l0.length : Int)) = false := decide_eq_false c2
  have c2b1 : decide (1048576 < l0.length) = false := decide_eq_false (by omega)
  clear c2
  replace H := Option.bind_eq_some_iff.mp H
  obtain ⟨⟨t515, t516⟩, A30, H⟩ := H
  replace H : ((impl_NineAdd.f t515 t516).bind fun t517 => ((spec_NineAdd.f t515 t516).bind fun t518 => (if t517 = t518 then (laws_FnExecuteAdd.j0 k t515 t516 t517 t518 (decide (t517 < 0))) else (laws_FnExecuteAdd.j0 k t515 t516 t517 t518 true)))) = some r := H
  have A3 := Aside0.mk A30
  clear A30
  replace H := Option.bind_eq_some_iff.mp H
  obtain ⟨t517, A40, H⟩ := H
  replace H : ((spec_NineAdd.f t515 t516).bind fun t518 => (if t517 = t518 then (laws_FnExecuteAdd.j0 k t515 t516 t517 t518 (decide (t517 < 0))) else (laws_FnExecuteAdd.j0 k t515 t516 t517 t518 true))) = some r := H
  have A4 := Aside0.mk A40
  clear A40
  replace H := Option.bind_eq_some_iff.mp H
  obtain ⟨t518, A50, H⟩ := H
  replace H : (if t517 = t518 then (laws_FnExecuteAdd.j0 k t515 t516 t517 t518 (decide (t517 < 0))) else (laws_FnExecuteAdd.j0 k t515 t516 t517 t518 true)) = some r := H
  have A5 := Aside0.mk A50
  clear A50
  have HC6 := Aside0.mk H
  clear H
  go_enter Tryz.func6, Tryz.ntmps6
  go_upto_region 6 with (first | (refine goesL_ (some 12) rfl rfl Tryz.func14 (by kernel_rfl) rfl #[.slice A0 l0.length c0] rfl ll_ ?_; (with_reducible refine (spec_DrawNineAdd.calls k _ _ l0 t515 t516 _ ?side1 ?side2 A3.out).mono ?_); (case side1 => exact ss_ HR0); (case side2 => exact HC0.out); rintro e w7 ⟨rfl, hb⟩; refine ⟨_, rfl, ?_⟩; have n0_ := Aside0.mk (below_step (bb_ HB) hb); clear HB; have HB := n0_; clear n0_; (try clear hb); (try clear hb2); (try clear hk); (try clear hi)) | (refine goesL_ (some 17) rfl rfl Tryz.func15 (by kernel_rfl) rfl #[.int .i64 t515, .int .i64 t516] rfl ll_ ?_; (with_reducible refine (impl_NineAdd.calls t515 t516 t517 _ A4.out).mono ?_); rintro e w' ⟨rfl, ⟨nd, rfl⟩⟩; refine ⟨_, rfl, ?_⟩) | (refine goesL_ (some 20) rfl rfl Tryz.func16 (by kernel_rfl) rfl #[.int .i64 t515, .int .i64 t516] rfl ll_ ?_; (with_reducible refine (spec_NineAdd.calls t515 t516 t518 _ A5.out).mono ?_); rintro e w' ⟨rfl, ⟨nd, rfl⟩⟩; refine ⟨_, rfl, ?_⟩))
  (try simp only [Act.put, List.setIfInBounds_toArray, List.set_cons_zero, List.set_cons_succ])
  go_cut [27] (fun v27 wc => ∃ (kq : Nat) (x27_5 : Bool), v27 = .bool x27_5 ∧ Aside0 (laws_FnExecuteAdd.j0 kq t515 t516 t517 t518 x27_5 = some r) ∧ Aside0 (kq ≤ k) ∧ Aside0 (Below w.heap.size w wc))
  case first =>
   have H := HC6.out
   clear HC6
   by_cases c8 : t517 = t518
   ·rw [if_pos c8] at H
    have c8b0 : (t517 == t518) = true := beq_iff_eq.mpr c8
    have c8b1 : (t517 != t518) = false := bne_eq_false_iff_eq.mpr c8
    clear c8
    (first | rw [c8b0] | (simp only [i64_w, i32_w]; rw [c8b0]) | skip)
    have H' := Aside0.mk H
    clear H
    go_wp2
    go_meet
    case rel => exact ⟨_, (decide (t517 < 0)), (by first | rfl | (simp; done) | (simp [*]; done)), H', ⟨by first | omega | exact Nat.le_refl _⟩, ⟨by repeat (first | (with_reducible first | exact HB.out | apply below_alloc | apply pw_below_drewN | apply below_drew1) | exact HB.out)⟩⟩
   ·rw [if_neg c8] at H
    have c8b0 : (t517 == t518) = false := beq_eq_false_iff_ne.mpr c8
    have c8b1 : (t517 != t518) = true := bne_iff_ne.mpr c8
    (first | rw [c8b0] | (simp only [i64_w, i32_w]; rw [c8b0]) | skip)
    have H' := Aside0.mk H
    clear H
    go_wp2
    go_meet
    case rel => exact ⟨_, (true), (by first | rfl | (simp; done) | (simp [*]; done)), H', ⟨by first | omega | exact Nat.le_refl _⟩, ⟨by repeat (first | (with_reducible first | exact HB.out | apply below_alloc | apply pw_below_drewN | apply below_drew1) | exact HB.out)⟩⟩
  case rest =>
   clear HC6
   try clear c1
   try clear c2
   try clear c2b0
   try clear c2b1
   try clear p2
   try clear c6
   try clear c8
   try clear c8b0
   try clear c8b1
   obtain ⟨kq, x27_5, rfl, HA, HJ5, HB⟩ := hcut
   cases kq with
   | zero => exact absurd HA.out (by simp [laws_FnExecuteAdd.j0])
   | succ kj5 =>
    have H := HA.out
    clear HA
    simp only [laws_FnExecuteAdd.j0] at H
    by_cases c9 : x27_5 = true
    ·subst c9
     have H1 : (some (t517 == t518)) = some r := by rw [if_pos rfl] at H; exact H
     clear H
     have H := H1
     clear H1
     obtain rfl := Option.some.inj H
     go_wp2
     go_ret
     exact ⟨ee_, bb_ HB⟩
    ·replace c9 := Bool.eq_false_iff.mpr c9
     subst c9
     have H1 : ((laws_digits.f kj5 t515).bind fun t519 => (if 4 + t519.size ≤ 9223372036854775807 then (if ((⟨#[97, 100, 100, 32]⟩ : ByteArray) ++ t519).size + 1 ≤ 9223372036854775807 then ((laws_digits.f kj5 t516).bind fun t520 => (if (((⟨#[97, 100, 100, 32]⟩ : ByteArray) ++ t519) ++ (⟨#[32]⟩ : ByteArray)).size + t520.size ≤ 9223372036854775807 then (if ((((⟨#[97, 100, 100, 32]⟩ : ByteArray) ++ t519) ++ (⟨#[32]⟩ : ByteArray)) ++ t520).size + 1 ≤ 9223372036854775807 then ((impl_Execute.f (((((⟨#[97, 100, 100, 32]⟩ : ByteArray) ++ t519) ++ (⟨#[32]⟩ : ByteArray)) ++ t520) ++ (⟨#[10]⟩ : ByteArray))).bind fun t521 => ((laws_digits.f kj5 t517).bind fun t522 => (if t522.size + 10 ≤ 9223372036854775807 then (some (t521.toList == (t522 ++ (⟨#[10, 112, 111, 105, 110, 116, 115, 32, 48, 10]⟩ : ByteArray)).toList)) else (none)))) else (none)) else (none))) else (none)) else (none))) = some r := by rw [if_neg (show ¬ (false = true) by decide)] at H; exact H
     clear H
     have H := H1
     clear H1
     replace H := Option.bind_eq_some_iff.mp H
     obtain ⟨t519, A100, H⟩ := H
     replace H : (if 4 + t519.size ≤ 9223372036854775807 then (if ((⟨#[97, 100, 100, 32]⟩ : ByteArray) ++ t519).size + 1 ≤ 9223372036854775807 then ((laws_digits.f kj5 t516).bind fun t520 => (if (((⟨#[97, 100, 100, 32]⟩ : ByteArray) ++ t519) ++ (⟨#[32]⟩ : ByteArray)).size + t520.size ≤ 9223372036854775807 then (if ((((⟨#[97, 100, 100, 32]⟩ : ByteArray) ++ t519) ++ (⟨#[32]⟩ : ByteArray)) ++ t520).size + 1 ≤ 9223372036854775807 then ((impl_Execute.f (((((⟨#[97, 100, 100, 32]⟩ : ByteArray) ++ t519) ++ (⟨#[32]⟩ : ByteArray)) ++ t520) ++ (⟨#[10]⟩ : ByteArray))).bind fun t521 => ((laws_digits.f kj5 t517).bind fun t522 => (if t522.size + 10 ≤ 9223372036854775807 then (some (t521.toList == (t522 ++ (⟨#[10, 112, 111, 105, 110, 116, 115, 32, 48, 10]⟩ : ByteArray)).toList)) else (none)))) else (none)) else (none))) else (none)) else (none)) = some r := H
     have A10 := Aside0.mk A100
     clear A100
     by_cases c11 : 4 + t519.size ≤ 9223372036854775807
     ·rw [if_pos c11] at H
      have c11b0 := eq_true c11
      have c11b1 : decide (4 + t519.size ≤ 9223372036854775807) = true := decide_eq_true c11
      try have c11b2 : (9223372036854775807 < 4 + t519.size) = False := eq_false (Nat.not_lt.2 c11)
      by_cases c12 : ((⟨#[97, 100, 100, 32]⟩ : ByteArray) ++ t519).size + 1 ≤ 9223372036854775807
      ·rw [if_pos c12] at H
       have c12b0 := eq_true c12
       have c12b1 : decide (((⟨#[97, 100, 100, 32]⟩ : ByteArray) ++ t519).size + 1 ≤ 9223372036854775807) = true := decide_eq_true c12
       try have c12b2 : (9223372036854775807 < ((⟨#[97, 100, 100, 32]⟩ : ByteArray) ++ t519).size + 1) = False := eq_false (Nat.not_lt.2 c12)
       try have c12b3 : (9223372036854775807 < 4 + t519.size + 1) = False := by have q_ := c12; simp only [ByteArray.size_append] at q_; exact eq_false (Nat.not_lt.2 q_)
       replace H := Option.bind_eq_some_iff.mp H
       obtain ⟨t520, A130, H⟩ := H
       replace H : (if (((⟨#[97, 100, 100, 32]⟩ : ByteArray) ++ t519) ++ (⟨#[32]⟩ : ByteArray)).size + t520.size ≤ 9223372036854775807 then (if ((((⟨#[97, 100, 100, 32]⟩ : ByteArray) ++ t519) ++ (⟨#[32]⟩ : ByteArray)) ++ t520).size + 1 ≤ 9223372036854775807 then ((impl_Execute.f (((((⟨#[97, 100, 100, 32]⟩ : ByteArray) ++ t519) ++ (⟨#[32]⟩ : ByteArray)) ++ t520) ++ (⟨#[10]⟩ : ByteArray))).bind fun t521 => ((laws_digits.f kj5 t517).bind fun t522 => (if t522.size + 10 ≤ 9223372036854775807 then (some (t521.toList == (t522 ++ (⟨#[10, 112, 111, 105, 110, 116, 115, 32, 48, 10]⟩ : ByteArray)).toList)) else (none)))) else (none)) else (none)) = some r := H
       have A13 := Aside0.mk A130
       clear A130
       by_cases c14 : (((⟨#[97, 100, 100, 32]⟩ : ByteArray) ++ t519) ++ (⟨#[32]⟩ : ByteArray)).size + t520.size ≤ 9223372036854775807
       ·rw [if_pos c14] at H
        have c14b0 := eq_true c14
        have c14b1 : decide ((((⟨#[97, 100, 100, 32]⟩ : ByteArray) ++ t519) ++ (⟨#[32]⟩ : ByteArray)).size + t520.size ≤ 9223372036854775807) = true := decide_eq_true c14
        try have c14b2 : (9223372036854775807 < (((⟨#[97, 100, 100, 32]⟩ : ByteArray) ++ t519) ++ (⟨#[32]⟩ : ByteArray)).size + t520.size) = False := eq_false (Nat.not_lt.2 c14)
        try have c14b3 : (9223372036854775807 < 4 + t519.size + 1 + t520.size) = False := by have q_ := c14; simp only [ByteArray.size_append] at q_; exact eq_false (Nat.not_lt.2 q_)
        by_cases c15 : ((((⟨#[97, 100, 100, 32]⟩ : ByteArray) ++ t519) ++ (⟨#[32]⟩ : ByteArray)) ++ t520).size + 1 ≤ 9223372036854775807
        ·rw [if_pos c15] at H
         have c15b0 := eq_true c15
         have c15b1 : decide (((((⟨#[97, 100, 100, 32]⟩ : ByteArray) ++ t519) ++ (⟨#[32]⟩ : ByteArray)) ++ t520).size + 1 ≤ 9223372036854775807) = true := decide_eq_true c15
         try have c15b2 : (9223372036854775807 < ((((⟨#[97, 100, 100, 32]⟩ : ByteArray) ++ t519) ++ (⟨#[32]⟩ : ByteArray)) ++ t520).size + 1) = False := eq_false (Nat.not_lt.2 c15)
         try have c15b3 : (9223372036854775807 < 4 + t519.size + 1 + t520.size + 1) = False := by have q_ := c15; simp only [ByteArray.size_append] at q_; exact eq_false (Nat.not_lt.2 q_)
         replace H := Option.bind_eq_some_iff.mp H
         obtain ⟨t521, A160, H⟩ := H
         replace H : ((laws_digits.f kj5 t517).bind fun t522 => (if t522.size + 10 ≤ 9223372036854775807 then (some (t521.toList == (t522 ++ (⟨#[10, 112, 111, 105, 110, 116, 115, 32, 48, 10]⟩ : ByteArray)).toList)) else (none))) = some r := H
         have A16 := Aside0.mk A160
         clear A160
         replace H := Option.bind_eq_some_iff.mp H
         obtain ⟨t522, A170, H⟩ := H
         replace H : (if t522.size + 10 ≤ 9223372036854775807 then (some (t521.toList == (t522 ++ (⟨#[10, 112, 111, 105, 110, 116, 115, 32, 48, 10]⟩ : ByteArray)).toList)) else (none)) = some r := H
         have A17 := Aside0.mk A170
         clear A170
         by_cases c18 : t522.size + 10 ≤ 9223372036854775807
         ·rw [if_pos c18] at H
          have c18b0 := eq_true c18
          have c18b1 : decide (t522.size + 10 ≤ 9223372036854775807) = true := decide_eq_true c18
          try have c18b2 : (9223372036854775807 < t522.size + 10) = False := eq_false (Nat.not_lt.2 c18)
          obtain rfl := Option.some.inj H
          go_wp2_with (first | (refine goesL_ (some 32) rfl rfl Tryz.func17 (by kernel_rfl) rfl #[.int .i64 t515] rfl ll_ ?_; (with_reducible refine (laws_digits.calls kj5 t515 t519 _ A10.out).mono ?_); rintro e w19 ⟨rfl, hb⟩; refine ⟨_, rfl, ?_⟩; have n0_ := Aside0.mk (below_step (bb_ HB) hb); clear HB; have HB := n0_; clear n0_; (try clear hb); (try clear hb2); (try clear hk); (try clear hi)) | (refine goesL_ (some 36) rfl rfl Tryz.func17 (by kernel_rfl) rfl #[.int .i64 t516] rfl ll_ ?_; (with_reducible refine (laws_digits.calls kj5 t516 t520 _ A13.out).mono ?_); rintro e w20 ⟨rfl, hb⟩; refine ⟨_, rfl, ?_⟩; have n0_ := Aside0.mk (below_step (bb_ HB) hb); clear HB; have HB := n0_; clear n0_; (try clear hb); (try clear hb2); (try clear hk); (try clear hi)) | (refine goesL_ (some 39) rfl rfl Tryz.func10 (by kernel_rfl) rfl #[.string (((((⟨#[97, 100, 100, 32]⟩ : ByteArray) ++ t519) ++ (⟨#[32]⟩ : ByteArray)) ++ t520) ++ (⟨#[10]⟩ : ByteArray))] rfl ll_ ?_; (with_reducible refine (impl_Execute.calls (((((⟨#[97, 100, 100, 32]⟩ : ByteArray) ++ t519) ++ (⟨#[32]⟩ : ByteArray)) ++ t520) ++ (⟨#[10]⟩ : ByteArray)) t521 m_ _ ?sidem A16.out).mono ?_); (case sidem => exact hc_ HB HM_.out); rintro e w21 ⟨rfl, hb⟩; refine ⟨_, rfl, ?_⟩; have n0_ := Aside0.mk (below_step (bb_ HB) hb); clear HB; have HB := n0_; clear n0_; (try clear hb); (try clear hb2); (try clear hk); (try clear hi)) | (refine goesL_ (some 41) rfl rfl Tryz.func17 (by kernel_rfl) rfl #[.int .i64 t517] rfl ll_ ?_; (with_reducible refine (laws_digits.calls kj5 t517 t522 _ A17.out).mono ?_); rintro e w22 ⟨rfl, hb⟩; refine ⟨_, rfl, ?_⟩; have n0_ := Aside0.mk (below_step (bb_ HB) hb); clear HB; have HB := n0_; clear n0_; (try clear hb); (try clear hb2); (try clear hk); (try clear hi)))
          go_ret
          exact ⟨ee_, bb_ HB⟩
         ·rw [if_neg c18] at H
          exact absurd H (by simp)
        ·rw [if_neg c15] at H
         exact absurd H (by simp)
       ·rw [if_neg c14] at H
        exact absurd H (by simp)
      ·rw [if_neg c12] at H
       exact absurd H (by simp)
     ·rw [if_neg c11] at H
      exact absurd H (by simp)
def laws_FnExecuteAdd.Pure : Prop := ∀ (l0 : List Int), l0.length ≤ maxLen → l0.length * 1 ≤ 140737488351232 → (∀ x ∈ l0, (Lit.int .u8 x).wf = true) → ∃ k, laws_FnExecuteAdd.f k l0 = some true
theorem laws_FnExecuteAdd.walk (P : laws_FnExecuteAdd.Pure) (a0 : Option Addr) (len0 cap0 : Nat) (z0 : List Int) (m_ : Int) (w : World) (hm_ : w.cell? ⟨0, 0, none⟩ = some (.int .i64 m_)) (w0 : (a0 = none ∧ len0 = 0 ∧ cap0 = 0 ∧ z0 = []) ∨ ∃ x, a0 = some x ∧ len0 ≤ cap0 ∧ cap0 ≤ maxLen ∧ z0.length = cap0 ∧ (∀ i, i < z0.length → w.cell? (x.add i) = some (.int .u8 (z0.getD i 0))) ∧ ∀ n ∈ z0, (Lit.int .u8 n).wf = true) (y0 : len0 * 1 ≤ 140737488351232) :
  Calls Tryz.prog 6 #[.slice a0 len0 cap0] w fun e w' => e = .returned (.bool true) ∧ Below w.heap.size w w' := by
 obtain ⟨l0, rfl, hr0, hm0, hw0, hc0⟩ := ReadsInt.ofRowC w0
 obtain ⟨k, h⟩ := P l0 hm0 y0 hw0
 refine (laws_FnExecuteAdd.calls k _ _ l0 true m_ w hm_ (Kd.C_of_reads (d := (0 : Int)) (h1 := fun _ => rfl) hr0) hc0 h).mono ?_
 rintro e w' ⟨rfl, hd⟩
 exact ⟨rfl, hd⟩
end Go.Proofs.YtiobedekgnfjcaaGreatDoor.P

set_option linter.unusedVariables false
set_option linter.unusedSimpArgs false
namespace Go.Proofs.YtiobedekgnfjcaaGreatDoor.Pure
open Go.RowKit Go.Proofs.YtiobedekgnfjcaaGreatDoor.P Go.Proofs.YtiobedekgnfjcaaGreatDoorW.PrintWords Go.Proofs.YtiobedekgnfjcaaGreatDoorW.PrintLast Go.Proofs.YtiobedekgnfjcaaGreatDoor.X

def dg (a : Int) : ByteArray := ⟨#[UInt8.ofNat (48 + a.toNat)]⟩
theorem dg_eq : ∀ a : Fin 10, strOfNums [(wrap64 (48 + (mx 0 (a.val : Int)))) % 256] = dg (a.val : Int) := by decide +kernel
theorem dg_size (a : Int) : (dg a).size = 1 := rfl
theorem digits_ev (a : Int) (h0 : 0 ≤ a) (h1 : a < 10) : Ev (fun k => laws_digits.f k a) (dg a) := by
  refine Ev.step (fun k => by rw [laws_digits.f]) (Ev.pos h1 (Ev.done ?_))
  have := dg_eq ⟨a.toNat, by omega⟩
  simp only [Int.toNat_of_nonneg h0] at this
  rw [this]
def addT (a b : Int) : ByteArray := ((((⟨#[97, 100, 100, 32]⟩ : ByteArray) ++ dg a) ++ (⟨#[32]⟩ : ByteArray)) ++ dg b) ++ (⟨#[10]⟩ : ByteArray)
def addA (c : Int) : ByteArray := dg c ++ (⟨#[10, 112, 111, 105, 110, 116, 115, 32, 48, 10]⟩ : ByteArray)
theorem exec_add : ∀ i j : Fin 9, impl_Execute.f (addT (i.val : Int) (j.val : Int)) = some (addA (addN (i.val : Int) (j.val : Int))) := by decide +kernel
theorem nineAdd_cases : ∀ i j : Fin 11, ∃ v : Int, impl_NineAdd.f ((i.val : Int) - 1) ((j.val : Int) - 1) = some v ∧ spec_NineAdd.f ((i.val : Int) - 1) ((j.val : Int) - 1) = some v ∧ (v < 0 ∨ ((0 ≤ (i.val : Int) - 1 ∧ (i.val : Int) - 1 < 9) ∧ (0 ≤ (j.val : Int) - 1 ∧ (j.val : Int) - 1 < 9) ∧ v = addN ((i.val : Int) - 1) ((j.val : Int) - 1))) := by
  intro i j
  have h : impl_NineAdd.f ((i.val : Int) - 1) ((j.val : Int) - 1) = some ((impl_NineAdd.f ((i.val : Int) - 1) ((j.val : Int) - 1)).getD 0) ∧ spec_NineAdd.f ((i.val : Int) - 1) ((j.val : Int) - 1) = some ((impl_NineAdd.f ((i.val : Int) - 1) ((j.val : Int) - 1)).getD 0) ∧ (((impl_NineAdd.f ((i.val : Int) - 1) ((j.val : Int) - 1)).getD 0) < 0 ∨ ((0 ≤ (i.val : Int) - 1 ∧ (i.val : Int) - 1 < 9) ∧ (0 ≤ (j.val : Int) - 1 ∧ (j.val : Int) - 1 < 9) ∧ ((impl_NineAdd.f ((i.val : Int) - 1) ((j.val : Int) - 1)).getD 0) = addN ((i.val : Int) - 1) ((j.val : Int) - 1))) := by
    revert i j
    decide +kernel
  exact ⟨_, h⟩
theorem FnExecuteAdd : laws_FnExecuteAdd.Pure := by
  intro l0 _ _ hu
  refine Ev.rounds ?_
  unfold laws_FnExecuteAdd.f
  by_cases hb : (l0.length : Int) > 1048576
  · exact Ev.pos hb (Ev.done rfl)
  refine Ev.neg hb ?_
  obtain ⟨s, hs, eo⟩ := open_ev l0 hu
  obtain ⟨a, p, ha, hp, ea⟩ := nine_ev hs (p := 0) (by omega) (by omega)
  obtain ⟨b, q, hb', hq, eb⟩ := nine_ev hs (p := p) (by omega) (by omega)
  refine Ev.bind (a := (a, b)) ?_ ?_
  · unfold spec_DrawNineAdd.f
    refine Ev.bind (a := (a, b)) ?_ (Ev.done rfl)
    unfold spec_l91Two.f
    exact Ev.fix eo (Ev.bind ea (Ev.bind eb (Ev.done rfl)))
  obtain ⟨v, h1, h2, h3⟩ := nineAdd_cases ⟨(a + 1).toNat, by omega⟩ ⟨(b + 1).toNat, by omega⟩
  simp only [Int.toNat_of_nonneg (show 0 ≤ a + 1 by omega), Int.toNat_of_nonneg (show 0 ≤ b + 1 by omega), show a + 1 - 1 = a by omega, show b + 1 - 1 = b by omega] at h1 h2 h3
  refine Ev.fix h1 (Ev.fix h2 (Ev.pos rfl (Ev.step (fun k => by rw [laws_FnExecuteAdd.j0]) ?_)))
  rcases h3 with h3 | ⟨ra, rb, rfl⟩
  · exact Ev.pos (decide_eq_true h3) (Ev.done (by simp))
  · have rc := addN_range a b
    refine Ev.neg (by simp; omega) (Ev.bind (digits_ev a ra.1 (by omega)) (Ev.pos (by rw [dg_size]; omega) (Ev.pos (by rw [ByteArray.size_append, dg_size]; decide) (Ev.bind (digits_ev b rb.1 (by omega)) (Ev.pos (by simp only [ByteArray.size_append, dg_size]; decide) (Ev.pos (by simp only [ByteArray.size_append, dg_size]; decide) ?_))))))
    refine Ev.fix (nine2 (P := fun a b => impl_Execute.f (addT a b) = some (addA (addN a b))) exec_add a b ra.1 ra.2 rb.1 rb.2) (Ev.bind (digits_ev _ rc.1 (by omega)) (Ev.pos (by rw [dg_size]; omega) (Ev.done ?_)))
    unfold addA
    simp
end Go.Proofs.YtiobedekgnfjcaaGreatDoor.Pure

namespace Go.Proofs.YtiobedekgnfjcaaGreatDoor.fnExecuteAdd
open Go.ChangeShapes Go.WideShapes Go.ChangeAt Go.RowKit
open Go.ChangeMaps (open_string shut_string)
set_option linter.unusedVariables false
theorem own : ownKnob Tryz.prog.godebug = none := by kernel_rfl
theorem laidOut : laidOutB Tryz.prog = true := by kernel_rfl
def IsRow (k : IntKind) (w : World) (a : Option Addr) (len cap : Nat) (zs : List Int) : Prop :=
  (a = none ∧ len = 0 ∧ cap = 0 ∧ zs = []) ∨
  ∃ x, a = some x ∧ len ≤ cap ∧ cap ≤ maxLen ∧ zs.length = cap ∧ (∀ i, i < zs.length → w.cell? (x.add i) = some (.int k (zs.getD i 0))) ∧ ∀ n ∈ zs, (Lit.int k n).wf = true
set_option maxRecDepth 100000 in
theorem lifted (os : Os) (started : os.Started) (H : Type) (enc : TypeId × Value → H) :
    ReturnsInHanded {} Tryz.checked os 6 .any (fun w args => (Rows.fnExecuteAddSpec.pre enc Tryz.prog Tryz.f6 Rows.fnExecuteAddRow.domain false w args ∧ laidMetH Tryz.prog Rows.fnExecuteAddRow.laid w) ∧ sizedMet enc Tryz.prog Tryz.f6 (OpenSpec.ofChange Rows.fnExecuteAddSpec) false w args) (Rows.fnExecuteAddSpec.post enc Tryz.prog Tryz.f6 false true false false) := by
  refine X.handed_and_shaped (C := Tryz.checked) (X := fun w _ => laidMetH Tryz.prog Rows.fnExecuteAddRow.laid w) (fun _ _ _ hh h => h.of_heap hh) own started (by kernel_rfl) Tryz.func6
    (ChangeSpec.witness_shaped (enc := enc) (C := Tryz.checked) (os := os) (X := fun w _ => laidMetH Tryz.prog Rows.fnExecuteAddRow.laid w) false (World.laidAll Tryz.prog os Rows.fnExecuteAddRow.laid) #[.slice none 0 0] 8 (World.laidAll_os _ _ _)
      (World.shaped_of_ZipB (by kernel_rfl) (by kernel_rfl)) (by kernel_rfl) (by kernel_rfl) (by kernel_rfl)
      (by rw [MakeChecks.laidMetH_plain _ _ _ (by kernel_rfl)]; exact laidMet_laidAll _ (by kernel_rfl) (by kernel_rfl))) ?_
  intro W base args ds gs before hval0 hW hcnd hsz0 _ hsh _
  obtain ⟨m_, hm_⟩ := Tryz.laysM146.s1_3 W hsh
  have hsz : (DataW.weightsEach Tryz.prog (Tryz.f6.params.toList ++ Rows.fnExecuteAddSpec.plain.varTypes Tryz.prog) (ds ++ gs)).all (· ≤ reachBytes) = true := hsz0
  have hval : ∀ (j : Nat) t v, Tryz.f6.params[j]? = some t → args[j]? = some v → Value.okWide Tryz.prog W .any base t v := hval0
  have hW' := hW
  obtain ⟨p, q, hA0, hV, rfl, hfz, hnd⟩ := hW
  have hA : DataW.TrodAll enc Tryz.prog W 0 (fun _ => true) true Tryz.f6.params.toList args.toList ds p := hA0
  rw [Tryz.params6] at hA hval hsz
  obtain ⟨v0, vs0, d0, ds0, p0, q0, hargs, rfl, rfl, h0, r0⟩ := trodAll_cons hA
  obtain ⟨rfl, rfl, rfl⟩ := trodAll_nil r0
  obtain rfl : args = #[v0] := by cases args; simp_all
  obtain ⟨rfl, rfl⟩ := trodVars_none hV
  obtain ⟨a0, len0, cap0, rfl⟩ := okWide_slice Tryz.underlying22 (hval 0 22 v0 rfl rfl)
  have k0 := h0
  have lt0 : ∀ x ∈ p0, x.block < W.heap.size := by obtain ⟨m, hm⟩ := k0; exact DataW.trod_lt m _ _ _ hm
  obtain ⟨z0, w0⟩ : ∃ zs, IsRow .u8 W a0 len0 cap0 zs := by
    obtain ⟨fuel, hf⟩ := h0
    rcases open_ints Tryz.underlying22 Tryz.underlying5 (by kernel_rfl) hf with ⟨hcs, _⟩ | ⟨x, l, c, zs, hcs, _, hl, hm, hz, _, hcell, hwz⟩
    · simp [Value.cells] at hcs
      obtain ⟨rfl, rfl, rfl⟩ := hcs
      exact ⟨[], .inl ⟨rfl, rfl, rfl, rfl⟩⟩
    · simp [Value.cells] at hcs
      obtain ⟨rfl, rfl, rfl⟩ := hcs
      exact ⟨zs, .inr ⟨_, rfl, hl, hm, by simpa using hz, hcell, hwz⟩⟩
  have y0 : len0 * 1 ≤ 140737488351232 := Go.Proofs.YtiobedekgnfjcaaGreatDoorW.PrintWords.sized_ints hsz (j := 0) (t := 22) rfl rfl Tryz.underlying22 Tryz.underlying5 (by kernel_rfl) (by kernel_rfl) h0
  clear hA0 hval0 hsz0 hsz
  refine (P.laws_FnExecuteAdd.walk Pure.FnExecuteAdd a0 len0 cap0 z0 m_ W hm_ w0 y0).mono fun e W' ⟨he, bel⟩ => ?_
  subst he
  exact ⟨_, rfl, _, _, _, [], _, [], hW', trodAll_mk1 (shut_bool Tryz.underlying4 _), (trodAll_cons_mk (Below.trod laidOut (by kernel_rfl) (of_decide_eq_true (by kernel_rfl)) k0 bel lt0) trodAll_mk0), rfl, bel.frame _, fun h => by cases h⟩
theorem over : Rows.fnExecuteAddRow.holds Tryz.pinned (OpenSpec.ofChange Rows.fnExecuteAddSpec) :=
  OpenClaim.holds_of_wide 6 Tryz.f6 rfl rfl rfl rfl rfl rfl rfl ⟨rfl, rfl, rfl, rfl, rfl⟩ rfl rfl rfl rfl rfl (by kernel_rfl) Tryz.func6 (by kernel_rfl)
    (of_decide_eq_true (by kernel_rfl)) (by unfold Func.isWrapper; first | (rw [if_pos (by decide +kernel)]; kernel_rfl) | (rw [if_neg (by decide +kernel)]; exact ⟨rfl, rfl⟩))
    (fun os started H enc _ => lifted os started H enc)
theorem proved : Rows.FnExecuteAddSaid := over
theorem card : Rows.FnExecuteAddCardSaid :=
  Claim7.holds_tied_plain_at .later [] Rows.fnExecuteAddCard.laidKinds true Rows.fnExecuteAddCard.stood.harness true proved (fun _ h => by cases h) (by kernel_rfl) (fun _ h => by cases h) fnExecuteAdd_row_tie rfl ⟨rfl, rfl⟩ (by kernel_rfl) (by kernel_rfl)
    (fun f fn hf hfn => by
      obtain rfl : f = 6 := Option.some.inj ((show Tryz.prog.funcNamed Rows.fnExecuteAddRow.func = some 6 by kernel_rfl).symm.trans hf) |>.symm
      obtain rfl : fn = Tryz.f6 := (Option.some.inj (Tryz.func6.symm.trans hfn)).symm
      refine ⟨by kernel_rfl, fun j t ht => ?_⟩
      rw [Tryz.params6] at ht
      have hm : t ∈ Tryz.f6.params.toList := by rw [Tryz.params6]; simpa using Array.mem_of_getElem? ht
      have hall : (Tryz.f6.params.toList.all fun u => !Tryz.prog.wantsStandIn u) = true := by kernel_rfl
      exact (show Tryz.prog.wantsStandIn t = false by simpa using List.all_eq_true.1 hall t hm))
    (by kernel_rfl)
#print axioms card
end Go.Proofs.YtiobedekgnfjcaaGreatDoor.fnExecuteAdd
namespace Go.Proofs.YtiobedekgnfjcaaGreatDoor
theorem fnExecuteAdd_holds : Rows.FnExecuteAddCardSaid := fnExecuteAdd.card
end Go.Proofs.YtiobedekgnfjcaaGreatDoor
