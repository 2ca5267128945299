import Derived.Test.YtihdbjilolmfiaaGreatDoorD07
import Derived.Test.YtihdbjilolmfiaaGreatDoorD02
import Derived.Test.YtihdbjilolmfiaaGreatDoorD01
import Derived.Shelf.Strings.Builder1
import Derived.Shelf.Small.Bits
import Derived.Shelf.Small.Wraps
import Derived.Shelf.Strings.BuilderF
import Derived.Shelf.Strings.BuilderK
import Derived.Shelf.Strconv.Atoi
import Derived.Shelf.Strconv.Itoa0
import Derived.Shelf.Strconv.Itoa1
import Derived.Shelf.LaysM
import Derived.Shelf.Strconv.Itoa2
import Derived.Shelf.Strconv.Itoa3
import Derived.Shelf.Strconv.AtoiErrFast
import Derived.Shelf.Strconv.ParseIntEmpty
import Derived.Shelf.Strconv.AtoiFail
import Derived.Shelf.Strconv.Clone
import Derived.Shelf.Strconv.SyntaxError
import Derived.Shelf.LaysC
import Derived.Shelf.Strconv.ToError
import Derived.Shelf.Strconv.Lower
import Derived.Shelf.Strconv.ParseUint10
import Derived.Shelf.Strconv.ParseUint10Empty
import Derived.Shelf.Strconv.ParseUint10Any
import Derived.Shelf.Strconv.ParseInt10
import Derived.Shelf.Strconv.AtoiLong
import Derived.Shelf.Strconv.AtoiInnerAll
import Derived.Shelf.Strconv.RangeError
import Derived.Shelf.Strconv.ToErrorRange
import Derived.Shelf.Strconv.AtoiAll
import Derived.Shelf.Strconv.ErrVarAll
import Derived.Shelf.Strings.Prefix
import Derived.Shelf.Strings.BuilderCap
import Derived.Ground.SlgnProg
import Derived.Shelf.SlicesE.Clone
import Derived.Test.YtihdbjilolmfiaaGreatDoorProg
set_option maxRecDepth 100000
set_option maxHeartbeats 4000000
namespace Go.Proofs
open Go.Shelf
def Tryz.lays132_ren : Go.Shelf.Ren := ⟨fun | 132 => 169 | 127 => 212 | n => n, fun | 49 => 48 | 3 => 3 | 4 => 4 | 46 => 126 | 5 => 5 | 9 => 9 | n => n, fun | n => n⟩
theorem Tryz.lays132 : Go.Proofs.Lays.n132 Tryz.prog Tryz.lays132_ren := {
 mixed := by kernel_rfl
 f127 := Tryz.func212.trans (congrArg some (by kernel_rfl))
 f132 := Tryz.func169.trans (congrArg some (by kernel_rfl))
 t3 := Tryz.underlying3
 a3 := Tryz.isAgg3
 z3 := Tryz.sizeOf3
 v3 := Tryz.zeroValue3
 t4 := Tryz.underlying4
 a4 := Tryz.isAgg4
 z4 := Tryz.sizeOf4
 v4 := Tryz.zeroValue4
 t5 := Tryz.underlying5
 a5 := Tryz.isAgg5
 z5 := Tryz.sizeOf5
 v5 := Tryz.zeroValue5
 t9 := Tryz.underlying9
 a9 := Tryz.isAgg9
 z9 := Tryz.sizeOf9
 v9 := Tryz.zeroValue9
 t46 := Tryz.underlying126
 a46 := Tryz.isAgg126
 z46 := Tryz.sizeOf126
 v46 := Tryz.zeroValue126
 t49 := Tryz.underlying48
 a49 := Tryz.isAgg48
 z49 := Tryz.sizeOf48
 v49 := Tryz.zeroValue48 }
theorem Tryz.bits_LeadingZeros16 (x : Int) (w : World) (h0 : 0 ≤ x) (h1 : x ≤ 65535) :
 Calls Tryz.prog 169 #[.int .u16 x] w fun e w' => e = .returned (.int .i64 (16 - (Lib.bitLen x.toNat : Int))) ∧ w' = w := Any.bits_LeadingZeros16 Tryz.lays132 x w h0 h1
def Tryz.lays103_ren : Go.Shelf.Ren := ⟨fun | 103 => 149 | 210 => 179 | 206 => 217 | n => n, fun | 9 => 9 | 4 => 4 | 24 => 135 | 3 => 3 | n => n, fun | n => n⟩
theorem Tryz.lays103 : Go.Proofs.Lays.n103 Tryz.prog Tryz.lays103_ren := {
 mixed := by kernel_rfl
 f103 := Tryz.func149.trans (congrArg some (by kernel_rfl))
 f206 := Tryz.func217.trans (congrArg some (by kernel_rfl))
 f210 := Tryz.func179.trans (congrArg some (by kernel_rfl))
 t3 := Tryz.underlying3
 a3 := Tryz.isAgg3
 z3 := Tryz.sizeOf3
 v3 := Tryz.zeroValue3
 t4 := Tryz.underlying4
 a4 := Tryz.isAgg4
 z4 := Tryz.sizeOf4
 v4 := Tryz.zeroValue4
 t9 := Tryz.underlying9
 a9 := Tryz.isAgg9
 z9 := Tryz.sizeOf9
 v9 := Tryz.zeroValue9
 t24 := Tryz.underlying135
 a24 := Tryz.isAgg135
 z24 := Tryz.sizeOf135
 v24 := Tryz.zeroValue135 }
open Go.RowKit in
theorem Tryz.strings_CutPrefix (s p : ByteArray) (w : World) :
 Calls Tryz.prog 149 #[.string s, .string p] w fun e w' => e = .returned (.tuple #[.string ⟨(Lib.trimPrefix s.data.toList p.data.toList).toArray⟩, .bool (Lib.hasPrefix s.data.toList p.data.toList)]) ∧ w' = w := Any.strings_CutPrefix Tryz.lays103 s p w
open Go.RowKit in
def Tryz.lays172_ren : Go.Shelf.Ren := ⟨fun | 172 => 151 | 244 => 180 | 245 => 181 | 247 => 218 | 279 => 219 | 280 => 220 | 281 => 221 | 282 => 222 | 287 => 264 | 316 => 265 | 171 => 106 | 205 => 266 | 321 => 279 | 322 => 280 | 243 => 153 | 246 => 183 | 283 => 223 | 284 => 224 | 285 => 225 | 286 => 226 | 129 => 268 | 317 => 267 | 318 => 269 | 319 => 270 | 320 => 271 | 337 => 281 | 338 => 282 | n => n, fun | 9 => 9 | 3 => 3 | 75 => 109 | 76 => 111 | 4 => 4 | 5 => 5 | 167 => 209 | 37 => 105 | 0 => 0 | 85 => 210 | 2 => 2 | 168 => 212 | 53 => 84 | 175 => 307 | 46 => 126 | 210 => 311 | 127 => 139 | 145 => 327 | 143 => 325 | 21 => 21 | 171 => 215 | 173 => 218 | 212 => 313 | 51 => 101 | 20 => 20 | 213 => 314 | 232 => 329 | 233 => 330 | 80 => 117 | n => n, fun | 15 => 1 | 16 => 2 | 17 => 3 | 18 => 4 | 19 => 5 | n => n⟩
theorem Tryz.lays172 : Go.Proofs.Lays.n172 Tryz.prog Tryz.lays172_ren := {
 mixed := by kernel_rfl
 f129 := Tryz.func268.trans (congrArg some (by kernel_rfl))
 f171 := Tryz.func106.trans (congrArg some (by kernel_rfl))
 f172 := Tryz.func151.trans (congrArg some (by kernel_rfl))
 f205 := Tryz.func266.trans (congrArg some (by kernel_rfl))
 f243 := Tryz.func153.trans (congrArg some (by kernel_rfl))
 f244 := Tryz.func180.trans (congrArg some (by kernel_rfl))
 f245 := Tryz.func181.trans (congrArg some (by kernel_rfl))
 f246 := Tryz.func183.trans (congrArg some (by kernel_rfl))
 f247 := Tryz.func218.trans (congrArg some (by kernel_rfl))
 f279 := Tryz.func219.trans (congrArg some (by kernel_rfl))
 f280 := Tryz.func220.trans (congrArg some (by kernel_rfl))
 f281 := Tryz.func221.trans (congrArg some (by kernel_rfl))
 f282 := Tryz.func222.trans (congrArg some (by kernel_rfl))
 f283 := Tryz.func223.trans (congrArg some (by kernel_rfl))
 f284 := Tryz.func224.trans (congrArg some (by kernel_rfl))
 f285 := Tryz.func225.trans (congrArg some (by kernel_rfl))
 f286 := Tryz.func226.trans (congrArg some (by kernel_rfl))
 f287 := Tryz.func264.trans (congrArg some (by kernel_rfl))
 f316 := Tryz.func265.trans (congrArg some (by kernel_rfl))
 f317 := Tryz.func267.trans (congrArg some (by kernel_rfl))
 f318 := Tryz.func269.trans (congrArg some (by kernel_rfl))
 f319 := Tryz.func270.trans (congrArg some (by kernel_rfl))
 f320 := Tryz.func271.trans (congrArg some (by kernel_rfl))
 f321 := Tryz.func279.trans (congrArg some (by kernel_rfl))
 f322 := Tryz.func280.trans (congrArg some (by kernel_rfl))
 f337 := Tryz.func281.trans (congrArg some (by kernel_rfl))
 f338 := Tryz.func282.trans (congrArg some (by kernel_rfl))
 t0 := Tryz.underlying0
 a0 := Tryz.isAgg0
 z0 := Tryz.sizeOf0
 v0 := Tryz.zeroValue0
 t2 := Tryz.underlying2
 a2 := Tryz.isAgg2
 z2 := Tryz.sizeOf2
 v2 := Tryz.zeroValue2
 t3 := Tryz.underlying3
 a3 := Tryz.isAgg3
 z3 := Tryz.sizeOf3
 v3 := Tryz.zeroValue3
 t4 := Tryz.underlying4
 a4 := Tryz.isAgg4
 z4 := Tryz.sizeOf4
 v4 := Tryz.zeroValue4
 t5 := Tryz.underlying5
 a5 := Tryz.isAgg5
 z5 := Tryz.sizeOf5
 v5 := Tryz.zeroValue5
 t9 := Tryz.underlying9
 a9 := Tryz.isAgg9
 z9 := Tryz.sizeOf9
 v9 := Tryz.zeroValue9
 t20 := Tryz.underlying20
 a20 := Tryz.isAgg20
 z20 := Tryz.sizeOf20
 v20 := Tryz.zeroValue20
 t21 := Tryz.underlying21
 a21 := Tryz.isAgg21
 z21 := Tryz.sizeOf21
 v21 := Tryz.zeroValue21
 t37 := Tryz.underlying105
 a37 := Tryz.isAgg105
 z37 := Tryz.sizeOf105
 v37 := Tryz.zeroValue105
 t46 := Tryz.underlying126
 a46 := Tryz.isAgg126
 z46 := Tryz.sizeOf126
 v46 := Tryz.zeroValue126
 t51 := Tryz.underlying101
 a51 := Tryz.isAgg101
 z51 := Tryz.sizeOf101
 v51 := Tryz.zeroValue101
 t53 := Tryz.underlying84
 a53 := Tryz.isAgg84
 z53 := Tryz.sizeOf84
 v53 := Tryz.zeroValue84
 t75 := Tryz.underlying109
 a75 := Tryz.isAgg109
 z75 := Tryz.sizeOf109
 v75 := Tryz.zeroValue109
 t76 := Tryz.underlying111
 a76 := Tryz.isAgg111
 z76 := Tryz.sizeOf111
 v76 := Tryz.zeroValue111
 t85 := Tryz.underlying210
 a85 := Tryz.isAgg210
 z85 := Tryz.sizeOf210
 v85 := Tryz.zeroValue210
 t127 := Tryz.underlying139
 a127 := Tryz.isAgg139
 z127 := Tryz.sizeOf139
 v127 := Tryz.zeroValue139
 t143 := Tryz.underlying325
 a143 := Tryz.isAgg325
 z143 := Tryz.sizeOf325
 v143 := Tryz.zeroValue325
 t145 := Tryz.underlying327
 a145 := Tryz.isAgg327
 z145 := Tryz.sizeOf327
 v145 := Tryz.zeroValue327
 t167 := Tryz.underlying209
 a167 := Tryz.isAgg209
 z167 := Tryz.sizeOf209
 v167 := Tryz.zeroValue209
 t168 := Tryz.underlying212
 a168 := Tryz.isAgg212
 z168 := Tryz.sizeOf212
 v168 := Tryz.zeroValue212
 t171 := Tryz.underlying215
 a171 := Tryz.isAgg215
 z171 := Tryz.sizeOf215
 v171 := Tryz.zeroValue215
 t173 := Tryz.underlying218
 a173 := Tryz.isAgg218
 z173 := Tryz.sizeOf218
 v173 := Tryz.zeroValue218
 t175 := Tryz.underlying307
 a175 := Tryz.isAgg307
 z175 := Tryz.sizeOf307
 v175 := Tryz.zeroValue307
 t210 := Tryz.underlying311
 a210 := Tryz.isAgg311
 z210 := Tryz.sizeOf311
 v210 := Tryz.zeroValue311
 t212 := Tryz.underlying313
 a212 := Tryz.isAgg313
 z212 := Tryz.sizeOf313
 v212 := Tryz.zeroValue313
 t213 := Tryz.underlying314
 a213 := Tryz.isAgg314
 z213 := Tryz.sizeOf314
 t232 := Tryz.underlying329
 a232 := Tryz.isAgg329
 z232 := Tryz.sizeOf329
 v232 := Tryz.zeroValue329
 t233 := Tryz.underlying330
 a233 := Tryz.isAgg330
 z233 := Tryz.sizeOf330
 v233 := Tryz.zeroValue330
 g15 := by kernel_rfl
 g16 := by kernel_rfl
 g17 := by kernel_rfl
 g18 := by kernel_rfl
 g19 := by kernel_rfl }
open Go.RowKit in
theorem Tryz.strconv_Atoi (s : ByteArray) (n : Int) (hl : s.size ≤ 18) (h : Lib.atoi s.data.toList = some n) (w : World) :
 Calls Tryz.prog 151 #[.string s] w fun e w' => e = .returned (.tuple #[.int .i64 n, .nilIface]) ∧ ∃ t, w' = Lib.bytesWorld w 5 t := Any.strconv_Atoi Tryz.lays172 s n hl h w
open Go.RowKit Go.Sort Go.Lib in
def Tryz.laysSlE041_f39_ren : Go.Shelf.Ren := ⟨fun | 41 => 92 | n => n, fun | 22 => 22 | 23 => 48 | 4 => 4 | n => n, fun | n => n⟩
theorem Tryz.laysSlE041_f39 : Go.Proofs.SlLaysE0.n41 Tryz.prog Tryz.laysSlE041_f39_ren := {
 mixed := by kernel_rfl
 f41 := ⟨Tryz.f92.name, by decide, Tryz.func92.trans (congrArg some (by kernel_rfl))⟩
 t4 := Tryz.underlying4
 a4 := Tryz.isAgg4
 z4 := Tryz.sizeOf4
 v4 := Tryz.zeroValue4
 t22 := Tryz.underlying22
 a22 := Tryz.isAgg22
 z22 := Tryz.sizeOf22
 v22 := Tryz.zeroValue22 }
open Go.RowKit Go.Lib in
theorem Tryz.slices_Clone (i0 : TypeInfo) (z : Value) (size bytes : Nat) (hi : Tryz.prog.info? 48 = some i0) (hz0 : i0.zero = some z) (hz1 : i0.size = size) (hz2 : i0.bytes = bytes) (hzs : z.cells.size = size) (hsz : 0 < size) (z23 : ∀ w, (Go.sizeOf 48).run Tryz.prog w = .ok size w) (b off n c : Nat) (news : List Value) (w : World) (hl : news.length = n * size) (hn : n ≤ maxLen) (hbig : n * bytes ≤ 140737488355328) (hc : ∀ j u, news[j]? = some u → w.cell? ⟨b, off + j, none⟩ = some u) (h1 : ∀ u ∈ news, u.oneCell' = true) :
 Calls Tryz.prog 92 #[.slice (some ⟨b, off, none⟩) n c] w fun e w' => ∃ v', e = .returned v' ∧ w'.ownsRow w.heap.size 48 size v' n news ∧ v' ≠ .slice none 0 0 ∧ Below w.heap.size w w' := AnyE.slices_Clone Tryz.laysSlE041_f39 i0 z size bytes hi hz0 hz1 hz2 hzs hsz z23 b off n c news w hl hn hbig hc h1
open Go.RowKit Go.Lib in
theorem Tryz.slices_Clone_nil (n c : Nat) (w : World) :
 Calls Tryz.prog 92 #[.slice none n c] w fun e w' => e = .returned (.slice none 0 0) ∧ w' = w := AnyE.slices_Clone_nil Tryz.laysSlE041_f39 n c w
end Go.Proofs
namespace Go.Proofs.YtihdbjilolmfiaaGreatDoor
open Go.RowKit Go.WM Go.WR
theorem clone_any (va : Value) (X : List Int) (w : World) (hlen : X.length ≤ 70368744177662) (hA : Lims w.heap.size w va X) :
 Calls Tryz.prog 92 #[va] w fun e w' => ∃ v, e = .returned v ∧ Own16 w.heap.size w' v X ∧ Below w.heap.size w w' := by
 obtain ⟨i0, hi, hz0, hz1, hz2⟩ := info_parts info48
 rcases hA with ⟨rfl, rfl⟩ | ⟨b, off, cap, rfl, hl, hb, hc⟩
 · refine (Tryz.slices_Clone_nil 0 0 w).mono ?_
   rintro e w' ⟨rfl, rfl⟩
   exact ⟨_, rfl, World.ownsRow_nil _ _ _ _, Below.refl _ _⟩
 · refine (Tryz.slices_Clone i0 (.int .u16 0) 1 2 hi hz0 hz1 hz2 rfl (by decide) (Tryz.sizeOf48) b off X.length cap (X.map (Value.int .u16)) w (by simp) (by unfold maxLen; omega) (by omega) ?_ ?_).mono ?_
   · intro j u hj
     have hlt : j < X.length := by
      apply Nat.lt_of_not_le; intro h; rw [List.getElem?_eq_none (by simpa using h)] at hj; cases hj
     have h1 : (X.map (Value.int .u16))[j]? = some (.int .u16 (X[j]?.getD 0)) := by simp [hlt]
     rw [h1] at hj; cases hj
     exact hc j hlt
   · intro u hu
     obtain ⟨x, _, rfl⟩ := List.mem_map.1 hu
     rfl
   · rintro e w' ⟨v, rfl, hown, _, hB⟩
     exact ⟨v, rfl, hown, hB⟩
def DivPost (n m : Int) (w : World) (e : Ending) (w' : World) : Prop :=
 ∃ q r zq zr, e = .returned (.tuple #[q, r]) ∧ Own16 w.heap.size w' q zq ∧ Own16 w.heap.size w' r zr ∧ Rep zq (n / m) ∧ Rep zr (n % m) ∧ Below w.heap.size w w'
theorem div_less (px py : Option Addr) (lx ly cx cy : Nat) (X Y : List Int) (n m : Int) (w : World) (hX : Rep X n) (hY : Rep Y m) (hlx : lx ≤ 35184372088830) (hly : ly ≤ 35184372088830) (hnm : n < m)
 (hA : Lims w.heap.size w (.slice px lx cx) X) (hB : Lims w.heap.size w (.slice py ly cy) Y) :
 Calls Tryz.prog 126 #[.slice px lx cx, .slice py ly cy] w (DivPost n m w) := by
 have HX := Lib.hid hA.cells.1
 have HY := Lib.hid hB.cells.1
 have hcmp : cmpI n m < 0 := cmpI_lt.2 hnm
 have hA1 := hA.below ((Below.refl _ w).alloc (Nat.le_refl _) (.cells #[.slice none 0 0] 22))
 have hB1 := hB.below ((Below.refl _ w).alloc (Nat.le_refl _) (.cells #[.slice none 0 0] 22))
 have bR0 := Boxed.new w 22 (.slice none 0 0)
 go_enter Tryz.func126, Tryz.ntmps126
 go_wp2_with (go_at_call 130; refine (compare_any _ _ X Y n m _ hX hY (by have := HX.out; omega) (by have := HY.out; omega) (hA1.mono (by simp)) (hB1.mono (by simp))).mono ?_; rintro e w1 ⟨rfl, hb1⟩)
 have bR1 : Boxed w1 w.heap.size 22 (.slice none 0 0) := (hb1.block w.heap.size (by simp)).trans bR0
 have hs1 : w.heap.size + 1 ≤ w1.heap.size := by have := hb1.size; simpa using this
 have hB2 : Below w.heap.size w w1 := ((Below.refl _ w).alloc (Nat.le_refl _) _).trans (hb1.mono (by simp))
 go_wp2_with (go_at_call 92; refine (clone_any _ X _ (by have := HX.out; omega) ((hA.below hB2).mono (by omega))).mono ?_; rintro e w2 ⟨v, rfl, hown, hb2⟩; have bR2 : Boxed w2 w.heap.size 22 (.slice none 0 0) := (hb2.block w.heap.size (by omega)).trans bR1; have hc2 := bR2.cell; have hf2 := bR2.frozen)
 have bR3 := bR2.set (.slice none 0 0)
 have hc3 := bR3.cell
 obtain ⟨hq, hr⟩ := div_unique (a := n) (b := m) (q := 0) (r := n) (by omega) hX.nonneg hnm
 refine bodyPost_ret (v := .tuple #[.slice none 0 0, v]) (by simp [results, Tryz.results126, go_sem, hc3]) rfl ⟨_, v, [], X, rfl, World.ownsRow_nil _ _ _ _, ?_, by rw [← hq]; exact Rep.nil, by rw [← hr]; exact hX, ?_⟩
 · exact Own16.box (B := w.heap.size) (hown.mono (by omega)) bR2 (by decide) _
 · exact (hB2.trans (hb2.mono (by omega))).setCell (p := ⟨w.heap.size, 0, none⟩) (Nat.le_refl _) _
theorem made_one (w : World) (B : Nat) (x : Int) (hB : B ≤ w.heap.size) : Own16 B (w.alloc (.cells #[.int .u16 x] 48)) (.slice (some ⟨w.heap.size, 0, none⟩) 1 1) [x] := by
 refine ⟨rfl, .inr ⟨w.heap.size, 1, #[.int .u16 x], rfl, hB, World.alloc_heap_new w _, by simp, by decide, rfl, rfl⟩⟩
theorem div_short (px py : Option Addr) (lx cx cy : Nat) (X Y : List Int) (n m : Int) (w : World) (hX : Rep X n) (hY : Rep Y m) (hlx : lx ≤ 35184372088830) (hnm : m ≤ n) 
 (hA : Lims w.heap.size w (.slice px lx cx) X) (hB : Lims w.heap.size w (.slice py 1 cy) Y) :
 Calls Tryz.prog 126 #[.slice px lx cx, .slice py 1 cy] w (DivPost n m w) := by
 have HX := Lib.hid hA.cells.1
 have hY1 := hB.cells.1
 obtain ⟨y, rfl⟩ : ∃ y, Y = [y] := by
  match Y, hY1 with
  | [y], _ => exact ⟨y, rfl⟩
 obtain ⟨by', oy, rfl, hby, hcy, hcY⟩ := hB.cells.2 (by decide)
 have hcy0 : w.cell? ⟨by', oy, none⟩ = some (.int .u16 y) := hcY 0 (by decide)
 have hym : y = m := by have := hY.eq; simp [val] at this; exact this
 have hy0 : 1 ≤ y := by
  have h1 := hY.lm.head
  have h2 := hY.nz (by simp)
  simp at h2; omega
 have hy1 := hY.lm.head.2
 have hcmp : 0 ≤ cmpI n m := cmpI_le.2 hnm
 have hA1 := hA.below ((Below.refl _ w).alloc (Nat.le_refl _) (.cells #[.slice none 0 0] 22))
 have hB1 := hB.below ((Below.refl _ w).alloc (Nat.le_refl _) (.cells #[.slice none 0 0] 22))
 have bR0 := Boxed.new w 22 (.slice none 0 0)
 have HYM := Lib.hid hym
 clear hym hcY hY1
 go_enter Tryz.func126, Tryz.ntmps126
 go_wp2_with (go_at_call 130; refine (compare_any _ _ X [y] n m _ hX hY (by have := HX.out; omega) (by simp) (hA1.mono (by simp)) (hB1.mono (by simp))).mono ?_; rintro e w1 ⟨rfl, hb1⟩; have hB2 : Below w.heap.size w w1 := ((Below.refl _ w).alloc (Nat.le_refl _) _).trans (hb1.mono (by simp)); have hcy1 : w1.cell? ⟨by', oy, none⟩ = some (.int .u16 y) := (hB2.cell (p := ⟨by', oy, none⟩) hby).trans hcy0)
 have bR1 : Boxed w1 w.heap.size 22 (.slice none 0 0) := (hb1.block w.heap.size (by simp)).trans bR0
 have hs1 : w.heap.size + 1 ≤ w1.heap.size := by have := hb1.size; simpa using this
 go_wp2_with (go_at_call 103; refine (short_some _ _ _ _ X _ (by omega) hy0 (by omega) hX.lm ((hA.below hB2).mono (by omega))).mono ?_; rintro e w2 ⟨v, zs, rfl, hown, hrep, hb2⟩; obtain ⟨pv, lv, cv, rfl⟩ := hown.shape)
 have hs2 : w1.heap.size ≤ w2.heap.size := hb2.size
 have bR2 : Boxed w2 w.heap.size 22 (.slice none 0 0) := (hb2.block w.heap.size (by omega)).trans bR1
 have bR3 := bR2.alloc (.cells #[.int .u16 (IntKind.u16.wrap (val X % y))] 48)
 have hc3 := bR3.cell
 have hf3 := bR3.frozen
 go_wp2_with (go_at_call 137; refine (trimmed_own w.heap.size _ [IntKind.u16.wrap (val X % y)] _ (by simp) (made_one w2 w.heap.size _ (by omega))).mono ?_; rintro e w3 ⟨v3, rfl, hown3, rfl⟩)
 have hm0 := Int.emod_nonneg (val X) (show y ≠ 0 by omega)
 have hm1 := Int.emod_lt_of_pos (val X) (show 0 < y by omega)
 have hrw : IntKind.u16.wrap (val X % y) = val X % y := by rw [IntKind.wrap_u16]; omega
 have hLm : Lm [val X % y] := Lm.cons (by omega) Lm.nil
 have hrr := trim_rep hLm
 have hvr : val [val X % y] = n % m := by rw [hX.eq, HYM.out]; simp [val]
 rw [hvr] at hrr
 rw [hX.eq, HYM.out] at hrep
 have bR4 := bR3.set (.slice pv lv cv)
 have hc4 := bR4.cell
 refine bodyPost_ret (v := .tuple #[.slice pv lv cv, v3]) (by simp [results, Tryz.results126, go_sem, hc4]) rfl ⟨_, v3, zs, _, rfl, ?_, ?_, hrep, hrr, ?_⟩
 · exact Own16.box (B := w.heap.size) (Own16.alloc (hown.mono (by omega)) _) bR3 (by decide) _
 · have e3 : trim [IntKind.u16.wrap (val X % y)] = trim [val X % y] := by rw [hrw]
   rw [e3] at hown3; exact Own16.box (B := w.heap.size) hown3 bR3 (by decide) _
 · exact ((hB2.trans (hb2.mono (by omega))).alloc (by omega) _).setCell (p := ⟨w.heap.size, 0, none⟩) (Nat.le_refl _) _
end Go.Proofs.YtihdbjilolmfiaaGreatDoor
namespace Go.Proofs.YtihdbjilolmfiaaGreatDoor
open Go.RowKit Go.WM Go.WR
attribute [local go_sem] Oper.semAt_some
def KeepQ (n₀ Bs t b N : Nat) (k : Nat) (W W' : World) : Prop := Keep1 n₀ Bs t W W' ∧ ∀ j, j + k + 1 < N → W'.cell? ⟨b, j, none⟩ = W.cell? ⟨b, j, none⟩
theorem KeepQ.refl (n₀ Bs t b N k : Nat) (W : World) : KeepQ n₀ Bs t b N k W W := ⟨Keep1.refl _ _ _ _, fun _ _ => rfl⟩
theorem keepQ_t {n₀ Bs t b N : Nat} (k : Nat) {A B C : World} (h : KeepQ n₀ Bs t b N k A B) (h' : KeepQ n₀ Bs t b N k B C) : KeepQ n₀ Bs t b N k A C :=
 ⟨keep1_t h.1 h'.1, fun j hj => (h'.2 j hj).trans (h.2 j hj)⟩
theorem keepQ_b {n₀ Bs t b N : Nat} {w : World} (hn : n₀ ≤ w.heap.size) (hb : b < w.heap.size) (k : Nat) (W : World) (l : Nat) (o o' : Obj) (hl : w.heap.size ≤ l) (h : W.heap[l]? = some o) (hc : o.isCells = false) (hw : o.isWalk = false) : KeepQ n₀ Bs t b N k W (W.putObj l o') :=
 ⟨keep1_b hn W l o o' hl h hc hw, fun j _ => World.cell?_of_block (w := W) (a := ⟨b, j, none⟩) (World.putObj_heap_other (by show b ≠ l; omega))⟩
theorem down1_w (F : Fence) (n : Nat) (h7 : F.fn 176) (hro : F.round = none) (hn : 1 ≤ n) (l Bs n₀ b cap : Nat) (zs : List Int) (hreach : zs.length ≤ 9223372036854775807) (J Jx : Nat → World → Prop)
 (hY : ∀ k W, J k W → k < zs.length → YieldAt F (n - 1) Tryz.prog l (downs zs k) W fun e W' =>
  (e = .returned (.bool true) ∧ J (k + 1) W' ∧ KeepQ n₀ Bs 22 b zs.length k W W') ∨ (e = .returned (.bool false) ∧ Jx (k + 1) W'))
 (W : World) (hBs : Boxed W Bs 22 (.slice (some ⟨b, 0, none⟩) zs.length cap)) (hc : ∀ j, j < zs.length → W.cell? ⟨b, j, none⟩ = some (.int .u16 (zs[j]?.getD 0))) (h0 : J 0 W) :
 CallsIn F n Tryz.prog 176 #[.func (.yield l) #[] #[], .pointer (some ⟨Bs, 0, none⟩)] W fun e W' => (∃ v, e = .returned v) ∧ (J zs.length W' ∨ ∃ k, k ≤ zs.length ∧ Jx k W') := by
 refine callsIn_of_wp Tryz.func176 rfl h7 ?_ hro
 simp only [Tryz.ntmps176, List.size_toArray, List.length_cons, List.length_nil, Nat.reduceAdd, Nat.reduceSub, Array.replicate_succ, Array.replicate_zero, List.push_toArray, List.append_toArray, List.nil_append, List.cons_append]
 obtain ⟨len, hlen⟩ : ∃ len, len = zs.length := ⟨_, rfl⟩
 rw [← hlen] at hBs hreach hY hc ⊢
 have HLEN := Lib.hid hlen; clear hlen
 have hBc := hBs.cell
 gi_wp2
 gi_loopw [3] (fun i wr => ∃ k : Nat, k ≤ len ∧ i = .int .i64 ((len : Int) - 1 - k) ∧ J k wr ∧ Keep1 n₀ Bs 22 W wr ∧ (∀ j, j + k < len → wr.cell? ⟨b, j, none⟩ = some (.int .u16 (zs[j]?.getD 0))))
  (fun i _ => (intOf i + 1).toNat)
 case atStart => exact ⟨0, Nat.zero_le _, by simp, h0, Keep1.refl _ _ _ _, fun j hj => hc j (by omega)⟩
 case round =>
  obtain ⟨k, hk, rfl, hJs, hnx, hq⟩ := hrel
  have hbx : wr.cell? ⟨Bs, 0, none⟩ = some (.slice (some ⟨b, 0, none⟩) len cap) := (hnx.2 _ hBs).cell
  by_cases hlt : k < len
  · obtain ⟨m, hm⟩ : ∃ m : Nat, m = len - 1 - k := ⟨_, rfl⟩
    have e1 : (len : Int) - 1 - k = (m : Int) := by omega
    have hcx : wr.cell? ⟨b, m, none⟩ = some (.int .u16 (zs[m]?.getD 0)) := hq m (by omega)
    have hy0 := hY k wr hJs hlt
    have e2 : downs zs k = #[.int .i64 (m : Int), .int .u16 (zs[m]?.getD 0)] := by simp only [downs]; rw [← HLEN.out, ← hm]
    rw [e2] at hy0
    obtain ⟨fn, tmps, assign, body, hy, hR⟩ := hy0
    rw [e1]
    have hml : m < len := by omega
    have HM := Lib.hid hm; clear hm e2
    have HE := Lib.hid e1; clear e1
    have HQ := Lib.hid hq; clear hq
    gi_wp2
    refine hR.mono ?_
    rintro e W3 (⟨rfl, hJ3, hk3⟩ | ⟨rfl, hJx3⟩)
    · gi_wp2
      go_roundw
      case rel => exact ⟨k + 1, by omega, by have h := HE.out; exact congrArg (Value.int IntKind.i64) (by omega), hJ3, keep1_t hnx hk3.1, fun j hj => (hk3.2 j (by omega)).trans (HQ.out j (by omega))⟩
      case measure => have := HE.out; simp [intOf]
    · gi_wp2
      refine bodyPost_ret (results_none rfl _ _ _) rfl ?_
      exact ⟨⟨_, rfl⟩, .inr ⟨k + 1, by omega, hJx3⟩⟩
  · obtain rfl : k = len := by omega
    have e1 : (k : Int) - 1 - k = -1 := by omega
    rw [e1]
    clear e1 hq
    gi_wp2
    go_end0
    exact ⟨⟨_, rfl⟩, .inl hJs⟩
theorem downw_seq (F : Fence) (n : Nat) (h7 : F.fn 176) (hro : F.round = none) (hn : 1 ≤ n) (Bs n₀ b cap : Nat) (zs : List Int) (hreach : zs.length ≤ 9223372036854775807) (w : World) (hb : b < w.heap.size)
 (hc : Boxed w Bs 22 (.slice (some ⟨b, 0, none⟩) zs.length cap)) (hz : ∀ j, j < zs.length → w.cell? ⟨b, j, none⟩ = some (.int .u16 (zs[j]?.getD 0))) : SeqAtK F n Tryz.prog 176 #[.pointer (some ⟨Bs, 0, none⟩)] (downs zs) (KeepQ n₀ Bs 22 b zs.length) zs.length w := fun l J Jx W hW hY h0 =>
 down1_w F n h7 hro hn l Bs n₀ b cap zs hreach J Jx hY W ((hW.block Bs hc.lt).trans hc) (fun j hj => (hW.cell (p := ⟨b, j, none⟩) hb).trans (hz j hj)) h0
theorem Own16.lt' {B : Nat} {W : World} {g len cap : Nat} {v : Value} {zs : List Int} (h : Own16 B W v zs) (e : v = .slice (some ⟨g, 0, none⟩) len cap) : g < W.heap.size := (e ▸ h).lt
theorem Own16.apart {B : Nat} {W : World} {g len cap : Nat} {zs : List Int} (h : Own16 B W (.slice (some ⟨g, 0, none⟩) len cap) zs) {Bx t : Nat} {u : Value} (hb : Boxed W Bx t u) (ht : t ≠ 48) : Bx ≠ g := fun e => hb.not_row ht h (by rw [e]; rfl)
theorem Own16.cells {B : Nat} {W : World} {g len cap : Nat} {zs : List Int} (h : Own16 B W (.slice (some ⟨g, 0, none⟩) len cap) zs) : ∀ o : Obj, W.heap[g]? = some o → o.isCells = true := by
 obtain ⟨hl, h⟩ := h
 rcases h with ⟨e, _⟩ | ⟨g', cap', cur, e, hB, hh, _⟩
 · cases e
 · cases e; intro o ho; rw [hh] at ho; cases ho; rfl
end Go.Proofs.YtihdbjilolmfiaaGreatDoor
namespace Go
open Go.RowKit Go.Proofs.YtihdbjilolmfiaaGreatDoor
theorem Boxed.only {W W' : World} {B t b : Nat} {v : Value} (h : Boxed W B t v) (ho : Only b W W') (hne : B ≠ b) : Boxed W' B t v := (ho.block B hne).trans h
end Go
namespace Go.Proofs.YtihdbjilolmfiaaGreatDoor
open Go.RowKit Go.WM Go.WR
attribute [local go_sem] Oper.semAt_some
theorem Own16.only {B b : Nat} {W W' : World} {g len cap : Nat} {zs : List Int} (h : Own16 B W (.slice (some ⟨g, 0, none⟩) len cap) zs) (ho : Only b W W') (hne : g ≠ b) : Own16 B W' (.slice (some ⟨g, 0, none⟩) len cap) zs :=
 World.ownsRow.kept h ho.grown (.inr (fun e => hne (by cases e; rfl)))
theorem Only.set (W : World) (g i : Nat) (v : Value) : Only g W (W.setCell ⟨g, i, none⟩ v) := (Only.refl g W).setCell i v
theorem Only.keep {n₀ Bs t b : Nat} {W W' : World} (h : Only b W W') (hn : n₀ ≤ b) (hne : Bs ≠ b) : Keep1 n₀ Bs t W W' := ⟨h.below hn, fun _ hv => hv.only h hne⟩
theorem Only.others {b : Nat} {W W' : World} (h : Only b W W') (hc : ∀ o : Obj, W.heap[b]? = some o → o.isCells = true) : KeepsOthers W W' := KeepsOthers.of_grownBy h.grown (fun j o e ho => by cases e; exact hc o ho)
end Go.Proofs.YtihdbjilolmfiaaGreatDoor
