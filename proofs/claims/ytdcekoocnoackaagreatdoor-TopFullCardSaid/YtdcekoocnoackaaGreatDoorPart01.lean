import Derived.Shelf.Strings.Builder1
import Derived.Shelf.Strings.Builder2
import Derived.Shelf.Strings.Trim
import Derived.Shelf.Small.Utf8
import Derived.Shelf.Small.Strs
import Derived.Shelf.Strconv.Atoi
import Derived.Shelf.Strconv.AtoiErrFast
import Derived.Shelf.Strconv.ParseIntEmpty
import Derived.Shelf.Strconv.AtoiFail
import Derived.Shelf.LaysM
import Derived.Shelf.Strconv.Clone
import Derived.Shelf.Strconv.SyntaxError
import Derived.Shelf.LaysC
import Derived.Shelf.Strconv.ToError
import Derived.Shelf.Strconv.Lower
import Derived.Shelf.Strconv.ParseUint10
import Derived.Shelf.Strconv.ParseUint10Empty
import Derived.Shelf.Strconv.ParseUint10Any
import Derived.Shelf.Strconv.ParseInt10
import Derived.Shelf.Strconv.AtoiLong
import Derived.Shelf.Strconv.AtoiInnerAll
import Derived.Shelf.Strconv.RangeError
import Derived.Shelf.Strconv.ToErrorRange
import Derived.Shelf.Strconv.AtoiAll
import Derived.Shelf.Strconv.ErrVarAll
import Derived.Shelf.Strings.Search1
import Derived.Shelf.Strings.Search2
import Derived.Shelf.Strings.Search3
import Derived.Shelf.Strings.Cut
import Derived.Shelf.Strings.Count
import Derived.Shelf.Strings.Shaped
import Derived.Shelf.Strings.Prefix
import Derived.Shelf.Strings.Split
import Derived.Shelf.Strings.SplitShaped
import Derived.Shelf.Strings.Runes
import Derived.Shelf.Strings.AsciiSet
import Derived.Shelf.Unicode.DecodeSlow
import Derived.Shelf.Slices.Turned
import Derived.Ground.Names2Prog
import Derived.Shelf.Slices.ReverseS
import Derived.Shelf.Slices.Clone
import Derived.Shelf.Slices.Cells
import Derived.Test.YtdcekoocnoackaaGreatDoorProg

/-
  DERIVED: THE SHELF's CONTRACTS AT THIS DUMP, IN PLAIN WORDS (tools/lay-plain.mjs out of 'TryzShelf.lean', which tools/lay-shelf.mjs wrote): THE SAME DECLARATIONS UNDER THE SAME NAMES: 'import', 'namespace', 'open', 'def', 'theorem' AND NOTHING ELSE: no command of the shelf's: FOR A HAND-IN. Each laying: the table of numbers ('.._ren') and one theorem, a field a fact of the dump's own or the kernel's comparison; each contract: ONE APPLICATION.
-/
namespace Go.Proofs
open Go.Shelf
def Tryz.lays170_ren : Go.Shelf.Ren := ⟨fun | 170 => 432 | n => n, fun | 70 => 507 | 3 => 3 | 0 => 0 | 72 => 509 | 37 => 32 | 5 => 5 | n => n, fun | n => n⟩
def Tryz.lays169_ren : Go.Shelf.Ren := ⟨fun | 169 => 356 | n => n, fun | 70 => 507 | 9 => 9 | 0 => 0 | 72 => 509 | 37 => 32 | 127 => 518 | 3 => 3 | 5 => 5 | n => n, fun | n => n⟩
def Tryz.lays241_ren : Go.Shelf.Ren := ⟨fun | 241 => 363 | 277 => 366 | n => n, fun | 70 => 507 | 3 => 3 | 0 => 0 | 72 => 509 | 37 => 32 | 5 => 5 | n => n, fun | n => n⟩
def Tryz.lays165_ren : Go.Shelf.Ren := ⟨fun | 165 => 354 | 240 => 362 | 241 => 363 | 276 => 365 | 277 => 366 | n => n, fun | 70 => 507 | 3 => 3 | 0 => 0 | 4 => 4 | 9 => 9 | 20 => 20 | 72 => 509 | 37 => 32 | 164 => 92 | 5 => 5 | n => n, fun | n => n⟩
def Tryz.lays231_ren : Go.Shelf.Ren := ⟨fun | 231 => 310 | n => n, fun | 9 => 9 | 5 => 5 | 3 => 3 | 4 => 4 | n => n, fun | n => n⟩
def Tryz.lays232_ren : Go.Shelf.Ren := ⟨fun | 232 => 311 | n => n, fun | 9 => 9 | 5 => 5 | 3 => 3 | 4 => 4 | n => n, fun | n => n⟩
def Tryz.lays160_ren : Go.Shelf.Ren := ⟨fun | 160 => 287 | 232 => 311 | 231 => 310 | 227 => 312 | 234 => 314 | 233 => 313 | 236 => 316 | 235 => 315 | 228 => 330 | 271 => 333 | 151 => 332 | 197 => 331 | 120 => 350 | 152 => 349 | 260 => 348 | 137 => 126 | 119 => 360 | 224 => 327 | 225 => 326 | 217 => 184 | 266 => 244 | n => n, fun | 9 => 9 | 4 => 4 | 3 => 3 | 5 => 5 | 117 => 472 | 116 => 471 | 0 => 0 | 124 => 475 | 21 => 21 | 105 => 486 | 46 => 22 | 119 => 513 | 139 => 516 | 138 => 515 | n => n, fun | 3 => 4 | 4 => 5 | n => n⟩
theorem Tryz.lays160 : Go.Proofs.Lays.n160 Tryz.prog Tryz.lays160_ren := {
  mixed := by kernel_rfl
  f119 := Tryz.func360.trans (congrArg some (by kernel_rfl))
  f120 := Tryz.func350.trans (congrArg some (by kernel_rfl))
  f137 := Tryz.func126.trans (congrArg some (by kernel_rfl))
  f151 := Tryz.func332.trans (congrArg some (by kernel_rfl))
  f152 := Tryz.func349.trans (congrArg some (by kernel_rfl))
  f160 := Tryz.func287.trans (congrArg some (by kernel_rfl))
  f197 := Tryz.func331.trans (congrArg some (by kernel_rfl))
  f217 := Tryz.func184.trans (congrArg some (by kernel_rfl))
  f224 := Tryz.func327.trans (congrArg some (by kernel_rfl))
  f225 := Tryz.func326.trans (congrArg some (by kernel_rfl))
  f227 := Tryz.func312.trans (congrArg some (by kernel_rfl))
  f228 := Tryz.func330.trans (congrArg some (by kernel_rfl))
  f231 := Tryz.func310.trans (congrArg some (by kernel_rfl))
  f232 := Tryz.func311.trans (congrArg some (by kernel_rfl))
  f233 := Tryz.func313.trans (congrArg some (by kernel_rfl))
  f234 := Tryz.func314.trans (congrArg some (by kernel_rfl))
  f235 := Tryz.func315.trans (congrArg some (by kernel_rfl))
  f236 := Tryz.func316.trans (congrArg some (by kernel_rfl))
  f260 := Tryz.func348.trans (congrArg some (by kernel_rfl))
  f266 := Tryz.func244.trans (congrArg some (by kernel_rfl))
  f271 := Tryz.func333.trans (congrArg some (by kernel_rfl))
  t0 := Tryz.underlying0
  a0 := Tryz.isAgg0
  z0 := Tryz.sizeOf0
  v0 := Tryz.zeroValue0
  t3 := Tryz.underlying3
  a3 := Tryz.isAgg3
  z3 := Tryz.sizeOf3
  v3 := Tryz.zeroValue3
  t4 := Tryz.underlying4
  a4 := Tryz.isAgg4
  z4 := Tryz.sizeOf4
  v4 := Tryz.zeroValue4
  t5 := Tryz.underlying5
  a5 := Tryz.isAgg5
  z5 := Tryz.sizeOf5
  v5 := Tryz.zeroValue5
  t9 := Tryz.underlying9
  a9 := Tryz.isAgg9
  z9 := Tryz.sizeOf9
  v9 := Tryz.zeroValue9
  t21 := Tryz.underlying21
  a21 := Tryz.isAgg21
  z21 := Tryz.sizeOf21
  v21 := Tryz.zeroValue21
  t46 := Tryz.underlying22
  a46 := Tryz.isAgg22
  z46 := Tryz.sizeOf22
  v46 := Tryz.zeroValue22
  t105 := Tryz.underlying486
  a105 := Tryz.isAgg486
  z105 := Tryz.sizeOf486
  v105 := Tryz.zeroValue486
  t116 := Tryz.underlying471
  a116 := Tryz.isAgg471
  z116 := Tryz.sizeOf471
  t117 := Tryz.underlying472
  a117 := Tryz.isAgg472
  z117 := Tryz.sizeOf472
  v117 := Tryz.zeroValue472
  t119 := Tryz.underlying513
  a119 := Tryz.isAgg513
  z119 := Tryz.sizeOf513
  t124 := Tryz.underlying475
  a124 := Tryz.isAgg475
  z124 := Tryz.sizeOf475
  v124 := Tryz.zeroValue475
  t138 := Tryz.underlying515
  a138 := Tryz.isAgg515
  z138 := Tryz.sizeOf515
  v138 := Tryz.zeroValue515
  t139 := Tryz.underlying516
  a139 := Tryz.isAgg516
  z139 := Tryz.sizeOf516
  v139 := Tryz.zeroValue516
  g3 := by kernel_rfl
  g4 := by kernel_rfl }
def Tryz.lays119_ren : Go.Shelf.Ren := ⟨fun | 119 => 360 | n => n, fun | 21 => 21 | 4 => 4 | n => n, fun | n => n⟩
def Tryz.lays120_ren : Go.Shelf.Ren := ⟨fun | 120 => 350 | n => n, fun | 5 => 5 | 4 => 4 | n => n, fun | n => n⟩
def Tryz.lays137_ren : Go.Shelf.Ren := ⟨fun | 137 => 126 | 217 => 184 | 266 => 244 | n => n, fun | 9 => 9 | 5 => 5 | 3 => 3 | n => n, fun | n => n⟩
def Tryz.lays244_ren : Go.Shelf.Ren := ⟨fun | 244 => 317 | 247 => 334 | 287 => 347 | 321 => 358 | 322 => 359 | n => n, fun | 9 => 9 | 3 => 3 | 75 => 25 | 4 => 4 | 5 => 5 | 167 => 489 | 37 => 32 | 0 => 0 | 85 => 490 | 2 => 2 | 53 => 49 | 175 => 484 | 46 => 22 | 21 => 21 | 80 => 30 | n => n, fun | n => n⟩
def Tryz.lays172_ren : Go.Shelf.Ren := ⟨fun | 172 => 288 | 244 => 317 | 245 => 318 | 247 => 334 | 279 => 335 | 280 => 336 | 281 => 337 | 282 => 338 | 287 => 347 | 316 => 351 | 171 => 353 | 205 => 352 | 321 => 358 | 322 => 359 | 243 => 361 | 246 => 364 | 283 => 367 | 284 => 368 | 285 => 369 | 286 => 370 | 129 => 372 | 317 => 371 | 318 => 373 | 319 => 374 | 320 => 375 | 337 => 376 | 338 => 377 | n => n, fun | 9 => 9 | 3 => 3 | 75 => 25 | 76 => 329 | 4 => 4 | 5 => 5 | 167 => 489 | 37 => 32 | 0 => 0 | 85 => 490 | 2 => 2 | 168 => 492 | 53 => 49 | 175 => 484 | 46 => 22 | 210 => 506 | 127 => 518 | 145 => 521 | 143 => 519 | 21 => 21 | 171 => 524 | 173 => 526 | 212 => 528 | 51 => 40 | 20 => 20 | 213 => 529 | 232 => 532 | 233 => 533 | 80 => 30 | n => n, fun | 15 => 2 | 16 => 3 | 17 => 6 | 18 => 7 | 19 => 8 | n => n⟩
theorem Tryz.lays172 : Go.Proofs.Lays.n172 Tryz.prog Tryz.lays172_ren := {
  mixed := by kernel_rfl
  f129 := Tryz.func372.trans (congrArg some (by kernel_rfl))
  f171 := Tryz.func353.trans (congrArg some (by kernel_rfl))
  f172 := Tryz.func288.trans (congrArg some (by kernel_rfl))
  f205 := Tryz.func352.trans (congrArg some (by kernel_rfl))
  f243 := Tryz.func361.trans (congrArg some (by kernel_rfl))
  f244 := Tryz.func317.trans (congrArg some (by kernel_rfl))
  f245 := Tryz.func318.trans (congrArg some (by kernel_rfl))
  f246 := Tryz.func364.trans (congrArg some (by kernel_rfl))
  f247 := Tryz.func334.trans (congrArg some (by kernel_rfl))
  f279 := Tryz.func335.trans (congrArg some (by kernel_rfl))
  f280 := Tryz.func336.trans (congrArg some (by kernel_rfl))
  f281 := Tryz.func337.trans (congrArg some (by kernel_rfl))
  f282 := Tryz.func338.trans (congrArg some (by kernel_rfl))
  f283 := Tryz.func367.trans (congrArg some (by kernel_rfl))
  f284 := Tryz.func368.trans (congrArg some (by kernel_rfl))
  f285 := Tryz.func369.trans (congrArg some (by kernel_rfl))
  f286 := Tryz.func370.trans (congrArg some (by kernel_rfl))
  f287 := Tryz.func347.trans (congrArg some (by kernel_rfl))
  f316 := Tryz.func351.trans (congrArg some (by kernel_rfl))
  f317 := Tryz.func371.trans (congrArg some (by kernel_rfl))
  f318 := Tryz.func373.trans (congrArg some (by kernel_rfl))
  f319 := Tryz.func374.trans (congrArg some (by kernel_rfl))
  f320 := Tryz.func375.trans (congrArg some (by kernel_rfl))
  f321 := Tryz.func358.trans (congrArg some (by kernel_rfl))
  f322 := Tryz.func359.trans (congrArg some (by kernel_rfl))
  f337 := Tryz.func376.trans (congrArg some (by kernel_rfl))
  f338 := Tryz.func377.trans (congrArg some (by kernel_rfl))
  t0 := Tryz.underlying0
  a0 := Tryz.isAgg0
  z0 := Tryz.sizeOf0
  v0 := Tryz.zeroValue0
  t2 := Tryz.underlying2
  a2 := Tryz.isAgg2
  z2 := Tryz.sizeOf2
  v2 := Tryz.zeroValue2
  t3 := Tryz.underlying3
  a3 := Tryz.isAgg3
  z3 := Tryz.sizeOf3
  v3 := Tryz.zeroValue3
  t4 := Tryz.underlying4
  a4 := Tryz.isAgg4
  z4 := Tryz.sizeOf4
  v4 := Tryz.zeroValue4
  t5 := Tryz.underlying5
  a5 := Tryz.isAgg5
  z5 := Tryz.sizeOf5
  v5 := Tryz.zeroValue5
  t9 := Tryz.underlying9
  a9 := Tryz.isAgg9
  z9 := Tryz.sizeOf9
  v9 := Tryz.zeroValue9
  t20 := Tryz.underlying20
  a20 := Tryz.isAgg20
  z20 := Tryz.sizeOf20
  v20 := Tryz.zeroValue20
  t21 := Tryz.underlying21
  a21 := Tryz.isAgg21
  z21 := Tryz.sizeOf21
  v21 := Tryz.zeroValue21
  t37 := Tryz.underlying32
  a37 := Tryz.isAgg32
  z37 := Tryz.sizeOf32
  v37 := Tryz.zeroValue32
  t46 := Tryz.underlying22
  a46 := Tryz.isAgg22
  z46 := Tryz.sizeOf22
  v46 := Tryz.zeroValue22
  t51 := Tryz.underlying40
  a51 := Tryz.isAgg40
  z51 := Tryz.sizeOf40
  v51 := Tryz.zeroValue40
  t53 := Tryz.underlying49
  a53 := Tryz.isAgg49
  z53 := Tryz.sizeOf49
  v53 := Tryz.zeroValue49
  t75 := Tryz.underlying25
  a75 := Tryz.isAgg25
  z75 := Tryz.sizeOf25
  v75 := Tryz.zeroValue25
  t76 := Tryz.underlying329
  a76 := Tryz.isAgg329
  z76 := Tryz.sizeOf329
  v76 := Tryz.zeroValue329
  t85 := Tryz.underlying490
  a85 := Tryz.isAgg490
  z85 := Tryz.sizeOf490
  v85 := Tryz.zeroValue490
  t127 := Tryz.underlying518
  a127 := Tryz.isAgg518
  z127 := Tryz.sizeOf518
  v127 := Tryz.zeroValue518
  t143 := Tryz.underlying519
  a143 := Tryz.isAgg519
  z143 := Tryz.sizeOf519
  v143 := Tryz.zeroValue519
  t145 := Tryz.underlying521
  a145 := Tryz.isAgg521
  z145 := Tryz.sizeOf521
  v145 := Tryz.zeroValue521
  t167 := Tryz.underlying489
  a167 := Tryz.isAgg489
  z167 := Tryz.sizeOf489
  v167 := Tryz.zeroValue489
  t168 := Tryz.underlying492
  a168 := Tryz.isAgg492
  z168 := Tryz.sizeOf492
  v168 := Tryz.zeroValue492
  t171 := Tryz.underlying524
  a171 := Tryz.isAgg524
  z171 := Tryz.sizeOf524
  v171 := Tryz.zeroValue524
  t173 := Tryz.underlying526
  a173 := Tryz.isAgg526
  z173 := Tryz.sizeOf526
  v173 := Tryz.zeroValue526
  t175 := Tryz.underlying484
  a175 := Tryz.isAgg484
  z175 := Tryz.sizeOf484
  v175 := Tryz.zeroValue484
  t210 := Tryz.underlying506
  a210 := Tryz.isAgg506
  z210 := Tryz.sizeOf506
  v210 := Tryz.zeroValue506
  t212 := Tryz.underlying528
  a212 := Tryz.isAgg528
  z212 := Tryz.sizeOf528
  v212 := Tryz.zeroValue528
  t213 := Tryz.underlying529
  a213 := Tryz.isAgg529
  z213 := Tryz.sizeOf529
  t232 := Tryz.underlying532
  a232 := Tryz.isAgg532
  z232 := Tryz.sizeOf532
  v232 := Tryz.zeroValue532
  t233 := Tryz.underlying533
  a233 := Tryz.isAgg533
  z233 := Tryz.sizeOf533
  v233 := Tryz.zeroValue533
  g15 := by kernel_rfl
  g16 := by kernel_rfl
  g17 := by kernel_rfl
  g18 := by kernel_rfl
  g19 := by kernel_rfl }
open Go.RowKit in
/-- strconv.Atoi: "Atoi is equivalent to ParseInt(s, 10, 0), converted to type int.": AT A DECIMAL NUMERAL OF AT MOST 18 BYTES: its value, and a nil error. The world behind the call: the one new row that the library's '[]byte(s)' lays. (LAID: no walk: one application.) -/
theorem Tryz.strconv_Atoi (s : ByteArray) (n : Int) (hl : s.size ≤ 18) (h : Lib.atoi s.data.toList = some n) (w : World) :
    Calls Tryz.prog 288 #[.string s] w fun e w' => e = .returned (.tuple #[.int .i64 n, .nilIface]) ∧ ∃ t, w' = Lib.bytesWorld w 5 t := Any.strconv_Atoi Tryz.lays172 s n hl h w
def Tryz.lays247_ren : Go.Shelf.Ren := ⟨fun | 247 => 334 | 287 => 347 | 321 => 358 | 322 => 359 | n => n, fun | 9 => 9 | 3 => 3 | 2 => 2 | 75 => 25 | 4 => 4 | 167 => 489 | 5 => 5 | 53 => 49 | 175 => 484 | 46 => 22 | 37 => 32 | 0 => 0 | 21 => 21 | 80 => 30 | n => n, fun | n => n⟩
def Tryz.laysM316_ren : Go.Shelf.Ren := ⟨fun | 316 => 351 | n => n, fun | 9 => 9 | 3 => 3 | 4 => 4 | 37 => 32 | 0 => 0 | 127 => 518 | 5 => 5 | n => n, fun | n => n⟩
def Tryz.laysM279_ren : Go.Shelf.Ren := ⟨fun | 279 => 335 | 316 => 351 | n => n, fun | 9 => 9 | 168 => 492 | 75 => 25 | 210 => 506 | 3 => 3 | 4 => 4 | 37 => 32 | 0 => 0 | 127 => 518 | 80 => 30 | 5 => 5 | n => n, fun | 15 => 2 | n => n⟩
def Tryz.laysC245_ren : Go.Shelf.Ren := ⟨fun | 245 => 318 | 279 => 335 | 280 => 336 | 281 => 337 | 282 => 338 | 316 => 351 | 171 => 353 | 205 => 352 | 243 => 361 | 246 => 364 | 283 => 367 | 284 => 368 | 285 => 369 | 286 => 370 | 129 => 372 | 317 => 371 | 318 => 373 | 319 => 374 | 320 => 375 | 337 => 376 | 338 => 377 | n => n, fun | 9 => 9 | 3 => 3 | 75 => 25 | 167 => 489 | 4 => 4 | 168 => 492 | 210 => 506 | 37 => 32 | 0 => 0 | 127 => 518 | 145 => 521 | 143 => 519 | 2 => 2 | 171 => 524 | 53 => 49 | 5 => 5 | 173 => 526 | 212 => 528 | 51 => 40 | 20 => 20 | 213 => 529 | 46 => 22 | 232 => 532 | 233 => 533 | 80 => 30 | n => n, fun | 15 => 2 | 16 => 3 | 17 => 6 | 18 => 7 | 19 => 8 | n => n⟩
def Tryz.lays321_ren : Go.Shelf.Ren := ⟨fun | 321 => 358 | n => n, fun | 5 => 5 | n => n, fun | n => n⟩
def Tryz.lays287_ren : Go.Shelf.Ren := ⟨fun | 287 => 347 | 321 => 358 | 322 => 359 | n => n, fun | 9 => 9 | 3 => 3 | 53 => 49 | 75 => 25 | 4 => 4 | 167 => 489 | 5 => 5 | 46 => 22 | 37 => 32 | 0 => 0 | 21 => 21 | 80 => 30 | n => n, fun | n => n⟩
def Tryz.laysC247_ren : Go.Shelf.Ren := ⟨fun | 247 => 334 | 287 => 347 | 321 => 358 | 322 => 359 | n => n, fun | 9 => 9 | 3 => 3 | 2 => 2 | 75 => 25 | 4 => 4 | 167 => 489 | 5 => 5 | 53 => 49 | 175 => 484 | 46 => 22 | 37 => 32 | 0 => 0 | 21 => 21 | 80 => 30 | n => n, fun | n => n⟩
def Tryz.laysC244_ren : Go.Shelf.Ren := ⟨fun | 244 => 317 | 247 => 334 | 287 => 347 | 321 => 358 | 322 => 359 | n => n, fun | 9 => 9 | 3 => 3 | 75 => 25 | 4 => 4 | 5 => 5 | 167 => 489 | 37 => 32 | 0 => 0 | 85 => 490 | 2 => 2 | 53 => 49 | 175 => 484 | 46 => 22 | 21 => 21 | 80 => 30 | n => n, fun | n => n⟩
def Tryz.laysM280_ren : Go.Shelf.Ren := ⟨fun | 280 => 336 | 316 => 351 | n => n, fun | 9 => 9 | 168 => 492 | 75 => 25 | 210 => 506 | 3 => 3 | 4 => 4 | 37 => 32 | 0 => 0 | 127 => 518 | 80 => 30 | 5 => 5 | n => n, fun | 16 => 3 | n => n⟩
def Tryz.laysC172_ren : Go.Shelf.Ren := ⟨fun | 172 => 288 | 244 => 317 | 245 => 318 | 247 => 334 | 279 => 335 | 280 => 336 | 281 => 337 | 282 => 338 | 287 => 347 | 316 => 351 | 171 => 353 | 205 => 352 | 321 => 358 | 322 => 359 | 243 => 361 | 246 => 364 | 283 => 367 | 284 => 368 | 285 => 369 | 286 => 370 | 129 => 372 | 317 => 371 | 318 => 373 | 319 => 374 | 320 => 375 | 337 => 376 | 338 => 377 | n => n, fun | 9 => 9 | 3 => 3 | 75 => 25 | 76 => 329 | 4 => 4 | 5 => 5 | 167 => 489 | 37 => 32 | 0 => 0 | 85 => 490 | 2 => 2 | 168 => 492 | 53 => 49 | 175 => 484 | 46 => 22 | 210 => 506 | 127 => 518 | 145 => 521 | 143 => 519 | 21 => 21 | 171 => 524 | 173 => 526 | 212 => 528 | 51 => 40 | 20 => 20 | 213 => 529 | 232 => 532 | 233 => 533 | 80 => 30 | n => n, fun | 15 => 2 | 16 => 3 | 17 => 6 | 18 => 7 | 19 => 8 | n => n⟩
def Tryz.lays217_ren : Go.Shelf.Ren := ⟨fun | 217 => 184 | 266 => 244 | n => n, fun | 9 => 9 | 5 => 5 | 3 => 3 | n => n, fun | n => n⟩
def Tryz.lays224_ren : Go.Shelf.Ren := ⟨fun | 224 => 327 | n => n, fun | 3 => 3 | n => n, fun | n => n⟩
def Tryz.lays314_ren : Go.Shelf.Ren := ⟨fun | 314 => 346 | n => n, fun | 9 => 9 | 51 => 40 | 3 => 3 | 4 => 4 | 5 => 5 | 46 => 22 | n => n, fun | n => n⟩
def Tryz.lays267_ren : Go.Shelf.Ren := ⟨fun | 267 => 328 | 314 => 346 | n => n, fun | 9 => 9 | 3 => 3 | 146 => 501 | 51 => 40 | 4 => 4 | 5 => 5 | 46 => 22 | n => n, fun | n => n⟩
def Tryz.lays219_ren : Go.Shelf.Ren := ⟨fun | 219 => 308 | 217 => 184 | 225 => 326 | 224 => 327 | 267 => 328 | 266 => 244 | 314 => 346 | n => n, fun | 9 => 9 | 3 => 3 | 4 => 4 | 5 => 5 | 46 => 22 | 146 => 501 | 51 => 40 | n => n, fun | 1 => 1 | n => n⟩
def Tryz.lays143_ren : Go.Shelf.Ren := ⟨fun | 143 => 284 | 219 => 308 | 217 => 184 | 225 => 326 | 224 => 327 | 267 => 328 | 266 => 244 | 314 => 346 | n => n, fun | 9 => 9 | 3 => 3 | 4 => 4 | 5 => 5 | 46 => 22 | 146 => 501 | 51 => 40 | n => n, fun | 1 => 1 | n => n⟩
def Tryz.lays144_ren : Go.Shelf.Ren := ⟨fun | 144 => 247 | 143 => 284 | 219 => 308 | 217 => 184 | 225 => 326 | 224 => 327 | 267 => 328 | 266 => 244 | 314 => 346 | n => n, fun | 9 => 9 | 4 => 4 | 3 => 3 | 5 => 5 | 46 => 22 | 146 => 501 | 51 => 40 | n => n, fun | 1 => 1 | n => n⟩
theorem Tryz.lays144 : Go.Proofs.Lays.n144 Tryz.prog Tryz.lays144_ren := {
  mixed := by kernel_rfl
  f143 := Tryz.func284.trans (congrArg some (by kernel_rfl))
  f144 := Tryz.func247.trans (congrArg some (by kernel_rfl))
  f217 := Tryz.func184.trans (congrArg some (by kernel_rfl))
  f219 := Tryz.func308.trans (congrArg some (by kernel_rfl))
  f224 := Tryz.func327.trans (congrArg some (by kernel_rfl))
  f225 := Tryz.func326.trans (congrArg some (by kernel_rfl))
  f266 := Tryz.func244.trans (congrArg some (by kernel_rfl))
  f267 := Tryz.func328.trans (congrArg some (by kernel_rfl))
  f314 := Tryz.func346.trans (congrArg some (by kernel_rfl))
  t3 := Tryz.underlying3
  a3 := Tryz.isAgg3
  z3 := Tryz.sizeOf3
  v3 := Tryz.zeroValue3
  t4 := Tryz.underlying4
  a4 := Tryz.isAgg4
  z4 := Tryz.sizeOf4
  v4 := Tryz.zeroValue4
  t5 := Tryz.underlying5
  a5 := Tryz.isAgg5
  z5 := Tryz.sizeOf5
  v5 := Tryz.zeroValue5
  t9 := Tryz.underlying9
  a9 := Tryz.isAgg9
  z9 := Tryz.sizeOf9
  v9 := Tryz.zeroValue9
  t46 := Tryz.underlying22
  a46 := Tryz.isAgg22
  z46 := Tryz.sizeOf22
  v46 := Tryz.zeroValue22
  t51 := Tryz.underlying40
  a51 := Tryz.isAgg40
  z51 := Tryz.sizeOf40
  v51 := Tryz.zeroValue40
  t146 := Tryz.underlying501
  a146 := Tryz.isAgg501
  z146 := Tryz.sizeOf501
  v146 := Tryz.zeroValue501
  g1 := by kernel_rfl }
open Go.RowKit Go.Lib in
/-- strings.Contains: "Contains reports whether substr is within s.": AT A substr OF ONE BYTE c: IT RETURNS 'decide (0 ≤ Lib.indexByte s c)'; the world is as it was. (LAID: no walk: one application.) -/
theorem Tryz.strings_Contains_one (s : ByteArray) (c : UInt8) (w : World) :
    Calls Tryz.prog 247 #[.string s, .string ⟨#[c]⟩] w fun e w' => e = .returned (.bool (decide (0 ≤ Lib.indexByte s.data.toList c))) ∧ w' = w := Any.strings_Contains_one Tryz.lays144 s c w
def Tryz.lays220_ren : Go.Shelf.Ren := ⟨fun | 220 => 286 | 219 => 308 | 217 => 184 | 225 => 326 | 224 => 327 | 267 => 328 | 266 => 244 | 314 => 346 | n => n, fun | 9 => 9 | 4 => 4 | 3 => 3 | 5 => 5 | 46 => 22 | 146 => 501 | 51 => 40 | n => n, fun | 1 => 1 | n => n⟩
def Tryz.lays145_ren : Go.Shelf.Ren := ⟨fun | 145 => 250 | 220 => 286 | 219 => 308 | 217 => 184 | 225 => 326 | 224 => 327 | 267 => 328 | 266 => 244 | 314 => 346 | n => n, fun | 9 => 9 | 4 => 4 | 59 => 413 | 3 => 3 | 5 => 5 | 46 => 22 | 146 => 501 | 51 => 40 | n => n, fun | 1 => 1 | n => n⟩
theorem Tryz.lays145 : Go.Proofs.Lays.n145 Tryz.prog Tryz.lays145_ren := {
  mixed := by kernel_rfl
  f145 := Tryz.func250.trans (congrArg some (by kernel_rfl))
  f217 := Tryz.func184.trans (congrArg some (by kernel_rfl))
  f219 := Tryz.func308.trans (congrArg some (by kernel_rfl))
  f220 := Tryz.func286.trans (congrArg some (by kernel_rfl))
  f224 := Tryz.func327.trans (congrArg some (by kernel_rfl))
  f225 := Tryz.func326.trans (congrArg some (by kernel_rfl))
  f266 := Tryz.func244.trans (congrArg some (by kernel_rfl))
  f267 := Tryz.func328.trans (congrArg some (by kernel_rfl))
  f314 := Tryz.func346.trans (congrArg some (by kernel_rfl))
  t3 := Tryz.underlying3
  a3 := Tryz.isAgg3
  z3 := Tryz.sizeOf3
  v3 := Tryz.zeroValue3
  t4 := Tryz.underlying4
  a4 := Tryz.isAgg4
  z4 := Tryz.sizeOf4
  v4 := Tryz.zeroValue4
  t5 := Tryz.underlying5
  a5 := Tryz.isAgg5
  z5 := Tryz.sizeOf5
  v5 := Tryz.zeroValue5
  t9 := Tryz.underlying9
  a9 := Tryz.isAgg9
  z9 := Tryz.sizeOf9
  v9 := Tryz.zeroValue9
  t46 := Tryz.underlying22
  a46 := Tryz.isAgg22
  z46 := Tryz.sizeOf22
  v46 := Tryz.zeroValue22
  t51 := Tryz.underlying40
  a51 := Tryz.isAgg40
  z51 := Tryz.sizeOf40
  v51 := Tryz.zeroValue40
  t59 := Tryz.underlying413
  a59 := Tryz.isAgg413
  z59 := Tryz.sizeOf413
  v59 := Tryz.zeroValue413
  t146 := Tryz.underlying501
  a146 := Tryz.isAgg501
  z146 := Tryz.sizeOf501
  v146 := Tryz.zeroValue501
  g1 := by kernel_rfl }
open Go.RowKit Go.Lib in
/-- strings.Cut: "Cut slices s around the first instance of sep, returning the text before and after sep. The found result reports whether sep appears in s. If sep does not appear in s, cut returns s, "", false.": IT RETURNS 'Lib.cut s sep'; the world is as it was but for the count of draws. (LAID: no walk: one application.) -/
theorem Tryz.strings_Cut (s sep : ByteArray) (m : Int) (w : World) (hs : s.size < 4294967281) (hm : w.cell? ⟨1, 0, none⟩ = some (.int .i64 m)) :
    Calls Tryz.prog 250 #[.string s, .string sep] w fun e w' => e = .returned (.tuple #[.string ⟨(Lib.cut s.data.toList sep.data.toList).1.toArray⟩, .string ⟨(Lib.cut s.data.toList sep.data.toList).2.1.toArray⟩, .bool (Lib.cut s.data.toList sep.data.toList).2.2]) ∧ ∃ n, w' = w.drewN n := Any.strings_Cut Tryz.lays145 s sep m w hs hm
def Tryz.lays138_ren : Go.Shelf.Ren := ⟨fun | 138 => 322 | 195 => 339 | 218 => 340 | 143 => 284 | 219 => 308 | 217 => 184 | 225 => 326 | 224 => 327 | 267 => 328 | 266 => 244 | 314 => 346 | n => n, fun | 9 => 9 | 3 => 3 | 4 => 4 | 5 => 5 | 0 => 0 | 46 => 22 | 146 => 501 | 51 => 40 | n => n, fun | 1 => 1 | n => n⟩
def Tryz.laysM219_ren : Go.Shelf.Ren := ⟨fun | 219 => 308 | 217 => 184 | 225 => 326 | 224 => 327 | 267 => 328 | 266 => 244 | 314 => 346 | n => n, fun | 9 => 9 | 3 => 3 | 4 => 4 | 5 => 5 | 46 => 22 | 146 => 501 | 51 => 40 | n => n, fun | 1 => 1 | n => n⟩
def Tryz.laysM143_ren : Go.Shelf.Ren := ⟨fun | 143 => 284 | 219 => 308 | 217 => 184 | 225 => 326 | 224 => 327 | 267 => 328 | 266 => 244 | 314 => 346 | n => n, fun | 9 => 9 | 3 => 3 | 4 => 4 | 5 => 5 | 46 => 22 | 146 => 501 | 51 => 40 | n => n, fun | 1 => 1 | n => n⟩
def Tryz.laysM144_ren : Go.Shelf.Ren := ⟨fun | 144 => 247 | 143 => 284 | 219 => 308 | 217 => 184 | 225 => 326 | 224 => 327 | 267 => 328 | 266 => 244 | 314 => 346 | n => n, fun | 9 => 9 | 4 => 4 | 3 => 3 | 5 => 5 | 46 => 22 | 146 => 501 | 51 => 40 | n => n, fun | 1 => 1 | n => n⟩
def Tryz.laysM220_ren : Go.Shelf.Ren := ⟨fun | 220 => 286 | 219 => 308 | 217 => 184 | 225 => 326 | 224 => 327 | 267 => 328 | 266 => 244 | 314 => 346 | n => n, fun | 9 => 9 | 4 => 4 | 3 => 3 | 5 => 5 | 46 => 22 | 146 => 501 | 51 => 40 | n => n, fun | 1 => 1 | n => n⟩
def Tryz.laysM145_ren : Go.Shelf.Ren := ⟨fun | 145 => 250 | 220 => 286 | 219 => 308 | 217 => 184 | 225 => 326 | 224 => 327 | 267 => 328 | 266 => 244 | 314 => 346 | n => n, fun | 9 => 9 | 4 => 4 | 59 => 413 | 3 => 3 | 5 => 5 | 46 => 22 | 146 => 501 | 51 => 40 | n => n, fun | 1 => 1 | n => n⟩
def Tryz.laysM138_ren : Go.Shelf.Ren := ⟨fun | 138 => 322 | 195 => 339 | 218 => 340 | 143 => 284 | 219 => 308 | 217 => 184 | 225 => 326 | 224 => 327 | 267 => 328 | 266 => 244 | 314 => 346 | n => n, fun | 9 => 9 | 3 => 3 | 4 => 4 | 5 => 5 | 0 => 0 | 46 => 22 | 146 => 501 | 51 => 40 | n => n, fun | 1 => 1 | n => n⟩
def Tryz.lays206_ren : Go.Shelf.Ren := ⟨fun | 206 => 294 | n => n, fun | 9 => 9 | 4 => 4 | 3 => 3 | n => n, fun | n => n⟩
theorem Tryz.lays206 : Go.Proofs.Lays.n206 Tryz.prog Tryz.lays206_ren := {
  mixed := by kernel_rfl
  f206 := Tryz.func294.trans (congrArg some (by kernel_rfl))
  t3 := Tryz.underlying3
  a3 := Tryz.isAgg3
  z3 := Tryz.sizeOf3
  v3 := Tryz.zeroValue3
  t4 := Tryz.underlying4
  a4 := Tryz.isAgg4
  z4 := Tryz.sizeOf4
  v4 := Tryz.zeroValue4
  t9 := Tryz.underlying9
  a9 := Tryz.isAgg9
  z9 := Tryz.sizeOf9
  v9 := Tryz.zeroValue9 }
open Go.RowKit Go.Lib in
/-- internal/stringslite.HasPrefix (what strings.HasPrefix calls). (LAID: no walk: one application.) -/
theorem Tryz.stringslite_HasPrefix (s p : ByteArray) (w : World) :
    Calls Tryz.prog 294 #[.string s, .string p] w fun e w' => e = .returned (.bool (Lib.hasPrefix s.data.toList p.data.toList)) ∧ w' = w := Any.stringslite_HasPrefix Tryz.lays206 s p w
def Tryz.lays99_ren : Go.Shelf.Ren := ⟨fun | 99 => 259 | 206 => 294 | n => n, fun | 9 => 9 | 4 => 4 | 3 => 3 | n => n, fun | n => n⟩
theorem Tryz.lays99 : Go.Proofs.Lays.n99 Tryz.prog Tryz.lays99_ren := {
  mixed := by kernel_rfl
  f99 := Tryz.func259.trans (congrArg some (by kernel_rfl))
  f206 := Tryz.func294.trans (congrArg some (by kernel_rfl))
  t3 := Tryz.underlying3
  a3 := Tryz.isAgg3
  z3 := Tryz.sizeOf3
  v3 := Tryz.zeroValue3
  t4 := Tryz.underlying4
  a4 := Tryz.isAgg4
  z4 := Tryz.sizeOf4
  v4 := Tryz.zeroValue4
  t9 := Tryz.underlying9
  a9 := Tryz.isAgg9
  z9 := Tryz.sizeOf9
  v9 := Tryz.zeroValue9 }
open Go.RowKit Go.Lib in
/-- strings.HasPrefix: "HasPrefix reports whether the string s begins with prefix.": IT RETURNS 'Lib.hasPrefix s prefix'; the world is as it was. (LAID: no walk: one application.) -/
theorem Tryz.strings_HasPrefix (s p : ByteArray) (w : World) :
    Calls Tryz.prog 259 #[.string s, .string p] w fun e w' => e = .returned (.bool (Lib.hasPrefix s.data.toList p.data.toList)) ∧ w' = w := Any.strings_HasPrefix Tryz.lays99 s p w
def Tryz.lays221_ren : Go.Shelf.Ren := ⟨fun | 221 => 295 | 268 => 321 | 138 => 322 | 143 => 284 | 195 => 339 | 197 => 331 | 218 => 340 | 219 => 308 | 260 => 348 | 217 => 184 | 225 => 326 | 224 => 327 | 267 => 328 | 266 => 244 | 314 => 346 | n => n, fun | 9 => 9 | 3 => 3 | 31 => 259 | 4 => 4 | 0 => 0 | 105 => 486 | 21 => 21 | 5 => 5 | 46 => 22 | 119 => 513 | 139 => 516 | 138 => 515 | 146 => 501 | 51 => 40 | n => n, fun | 1 => 1 | 3 => 4 | 4 => 5 | n => n⟩
def Tryz.lays146_ren : Go.Shelf.Ren := ⟨fun | 146 => 260 | 221 => 295 | 268 => 321 | 138 => 322 | 143 => 284 | 195 => 339 | 197 => 331 | 218 => 340 | 219 => 308 | 260 => 348 | 217 => 184 | 225 => 326 | 224 => 327 | 267 => 328 | 266 => 244 | 314 => 346 | n => n, fun | 9 => 9 | 31 => 259 | 3 => 3 | 4 => 4 | 0 => 0 | 105 => 486 | 21 => 21 | 5 => 5 | 46 => 22 | 119 => 513 | 139 => 516 | 138 => 515 | 146 => 501 | 51 => 40 | n => n, fun | 1 => 1 | 3 => 4 | 4 => 5 | n => n⟩
theorem Tryz.lays146 : Go.Proofs.Lays.n146 Tryz.prog Tryz.lays146_ren := {
  mixed := by kernel_rfl
  f138 := Tryz.func322.trans (congrArg some (by kernel_rfl))
  f143 := Tryz.func284.trans (congrArg some (by kernel_rfl))
  f146 := Tryz.func260.trans (congrArg some (by kernel_rfl))
  f195 := Tryz.func339.trans (congrArg some (by kernel_rfl))
  f197 := Tryz.func331.trans (congrArg some (by kernel_rfl))
  f217 := Tryz.func184.trans (congrArg some (by kernel_rfl))
  f218 := Tryz.func340.trans (congrArg some (by kernel_rfl))
  f219 := Tryz.func308.trans (congrArg some (by kernel_rfl))
  f221 := Tryz.func295.trans (congrArg some (by kernel_rfl))
  f224 := Tryz.func327.trans (congrArg some (by kernel_rfl))
  f225 := Tryz.func326.trans (congrArg some (by kernel_rfl))
  f260 := Tryz.func348.trans (congrArg some (by kernel_rfl))
  f266 := Tryz.func244.trans (congrArg some (by kernel_rfl))
  f267 := Tryz.func328.trans (congrArg some (by kernel_rfl))
  f268 := Tryz.func321.trans (congrArg some (by kernel_rfl))
  f314 := Tryz.func346.trans (congrArg some (by kernel_rfl))
  t0 := Tryz.underlying0
  a0 := Tryz.isAgg0
  z0 := Tryz.sizeOf0
  v0 := Tryz.zeroValue0
  t3 := Tryz.underlying3
  a3 := Tryz.isAgg3
  z3 := Tryz.sizeOf3
  v3 := Tryz.zeroValue3
  t4 := Tryz.underlying4
  a4 := Tryz.isAgg4
  z4 := Tryz.sizeOf4
  v4 := Tryz.zeroValue4
  t5 := Tryz.underlying5
  a5 := Tryz.isAgg5
  z5 := Tryz.sizeOf5
  v5 := Tryz.zeroValue5
  t9 := Tryz.underlying9
  a9 := Tryz.isAgg9
  z9 := Tryz.sizeOf9
  v9 := Tryz.zeroValue9
  t21 := Tryz.underlying21
  a21 := Tryz.isAgg21
  z21 := Tryz.sizeOf21
  v21 := Tryz.zeroValue21
  t31 := Tryz.underlying259
  a31 := Tryz.isAgg259
  z31 := Tryz.sizeOf259
  v31 := Tryz.zeroValue259
  t46 := Tryz.underlying22
  a46 := Tryz.isAgg22
  z46 := Tryz.sizeOf22
  v46 := Tryz.zeroValue22
  t51 := Tryz.underlying40
  a51 := Tryz.isAgg40
  z51 := Tryz.sizeOf40
  v51 := Tryz.zeroValue40
  t105 := Tryz.underlying486
  a105 := Tryz.isAgg486
  z105 := Tryz.sizeOf486
  v105 := Tryz.zeroValue486
  t119 := Tryz.underlying513
  a119 := Tryz.isAgg513
  z119 := Tryz.sizeOf513
  t138 := Tryz.underlying515
  a138 := Tryz.isAgg515
  z138 := Tryz.sizeOf515
  v138 := Tryz.zeroValue515
  t139 := Tryz.underlying516
  a139 := Tryz.isAgg516
  z139 := Tryz.sizeOf516
  v139 := Tryz.zeroValue516
  t146 := Tryz.underlying501
  a146 := Tryz.isAgg501
  z146 := Tryz.sizeOf501
  v146 := Tryz.zeroValue501
  g1 := by kernel_rfl
  g3 := by kernel_rfl
  g4 := by kernel_rfl }
open Go.RowKit Go.Lib in
/-- strings.Split. (LAID: no walk: one application.) -/
theorem Tryz.strings_Split (s sep : ByteArray) (m : Int) (w : World) (hs : s.size < 4294967281) (hm : w.cell? ⟨1, 0, none⟩ = some (.int .i64 m)) (h1 : 1 ≤ sep.size) :
    Calls Tryz.prog 260 #[.string s, .string sep] w fun e w' =>
      e = .returned (.slice (some ⟨w.heap.size, 0, none⟩) (Lib.countB s sep + 1) (Lib.countB s sep + 1)) ∧ w' = w.alloc (.cells ((Lib.splitB sep 0 (Lib.countB s sep) s).map Value.string).toArray 9) := Any.strings_Split Tryz.lays146 (by kernel_rfl) s sep m w hs hm h1
def Tryz.laysM146_ren : Go.Shelf.Ren := ⟨fun | 146 => 260 | 221 => 295 | 268 => 321 | 138 => 322 | 143 => 284 | 195 => 339 | 197 => 331 | 218 => 340 | 219 => 308 | 260 => 348 | 217 => 184 | 225 => 326 | 224 => 327 | 267 => 328 | 266 => 244 | 314 => 346 | n => n, fun | 9 => 9 | 31 => 259 | 3 => 3 | 4 => 4 | 0 => 0 | 105 => 486 | 21 => 21 | 5 => 5 | 46 => 22 | 119 => 513 | 139 => 516 | 138 => 515 | 146 => 501 | 51 => 40 | n => n, fun | 1 => 1 | 3 => 4 | 4 => 5 | n => n⟩
def Tryz.lays152_ren : Go.Shelf.Ren := ⟨fun | 152 => 349 | 137 => 126 | 119 => 360 | 224 => 327 | 225 => 326 | 217 => 184 | 266 => 244 | n => n, fun | 9 => 9 | 21 => 21 | 3 => 3 | 4 => 4 | 5 => 5 | 0 => 0 | 46 => 22 | n => n, fun | n => n⟩
def Tryz.lays151_ren : Go.Shelf.Ren := ⟨fun | 151 => 332 | 152 => 349 | 137 => 126 | 119 => 360 | 224 => 327 | 225 => 326 | 217 => 184 | 266 => 244 | n => n, fun | 9 => 9 | 21 => 21 | 4 => 4 | 3 => 3 | 5 => 5 | 0 => 0 | 46 => 22 | n => n, fun | n => n⟩
def Tryz.lays227_ren : Go.Shelf.Ren := ⟨fun | 227 => 312 | n => n, fun | 9 => 9 | 116 => 471 | 4 => 4 | 0 => 0 | 3 => 3 | 5 => 5 | n => n, fun | n => n⟩
def Tryz.lays228_ren : Go.Shelf.Ren := ⟨fun | 228 => 330 | n => n, fun | 124 => 475 | 5 => 5 | 4 => 4 | 0 => 0 | 116 => 471 | n => n, fun | n => n⟩
def Tryz.lays260_ren : Go.Shelf.Ren := ⟨fun | 260 => 348 | n => n, fun | 9 => 9 | 21 => 21 | 3 => 3 | 4 => 4 | 5 => 5 | 119 => 513 | 0 => 0 | 46 => 22 | 139 => 516 | 138 => 515 | n => n, fun | 3 => 4 | 4 => 5 | n => n⟩
def Tryz.lays109_ren : Go.Shelf.Ren := ⟨fun | 109 => 280 | n => n, fun | 31 => 259 | 9 => 9 | 3 => 3 | 0 => 0 | 4 => 4 | n => n, fun | n => n⟩
def Tryz.lays110_ren : Go.Shelf.Ren := ⟨fun | 110 => 236 | 109 => 280 | n => n, fun | 31 => 259 | 9 => 9 | 4 => 4 | 3 => 3 | 0 => 0 | n => n, fun | n => n⟩
def Tryz.laysNm217_ren : Go.Shelf.Ren := ⟨fun | 17 => 205 | n => n, fun | 24 => 259 | 9 => 9 | 3 => 3 | 4 => 4 | 0 => 0 | n => n, fun | n => n⟩
theorem Tryz.laysNm217 : Go.Proofs.Lays2.n17 Tryz.prog Tryz.laysNm217_ren := {
  mixed := by kernel_rfl
  f17 := Tryz.func205.trans (congrArg some (by kernel_rfl))
  t0 := Tryz.underlying0
  a0 := Tryz.isAgg0
  z0 := Tryz.sizeOf0
  v0 := Tryz.zeroValue0
  t3 := Tryz.underlying3
  a3 := Tryz.isAgg3
  z3 := Tryz.sizeOf3
  v3 := Tryz.zeroValue3
  t4 := Tryz.underlying4
  a4 := Tryz.isAgg4
  z4 := Tryz.sizeOf4
  v4 := Tryz.zeroValue4
  t9 := Tryz.underlying9
  a9 := Tryz.isAgg9
  z9 := Tryz.sizeOf9
  v9 := Tryz.zeroValue9
  t24 := Tryz.underlying259
  a24 := Tryz.isAgg259
  z24 := Tryz.sizeOf259
  v24 := Tryz.zeroValue259 }
def Tryz.laysNm215_ren : Go.Shelf.Ren := ⟨fun | 15 => 179 | n => n, fun | 22 => 208 | 3 => 3 | 4 => 4 | n => n, fun | n => n⟩
def Tryz.laysNm216_ren : Go.Shelf.Ren := ⟨fun | 16 => 203 | n => n, fun | 24 => 259 | 9 => 9 | 4 => 4 | n => n, fun | n => n⟩
open Go.RowKit Go.Lib Go.Sort in
/-- slices.Reverse at []string, of an argument. (LAID: no walk: one application.) -/
theorem Tryz.slices_Reverse_string_cells (b off n c : Nat) (Sx : Nat → ByteArray) (w : World) (hbig : n ≤ 9223372036854775807) (hc : ∀ i, i < n → w.cell? ⟨b, off + i, none⟩ = some (.string (Sx i))) (hf : ∀ j, j < n → w.frozen? ⟨b, off + j, none⟩ = false) :
    Calls Tryz.prog 205 #[.slice (some ⟨b, off, none⟩) n c] w fun e w' => e = .returned (.tuple #[]) ∧ ∃ q, w' = (w.drewN q).setCells b off ((Lib.strsOf Sx n).reverse.map encStr) := Any.slices_Reverse_string_cells Tryz.laysNm217 b off n c Sx w hbig hc hf
end Go.Proofs
