import Derived.Test.YtihdbjilolmfiaaGreatDoorD32
import Derived.Test.YtihdbjilolmfiaaGreatDoorD31
import Derived.Test.YtihdbjilolmfiaaGreatDoorD26
import Derived.Test.YtihdbjilolmfiaaGreatDoorD29
import Derived.Test.YtihdbjilolmfiaaGreatDoorD30
import Derived.Test.YtihdbjilolmfiaaGreatDoorD01
import Derived.Shelf.Strings.Search2
set_option maxRecDepth 100000
set_option maxHeartbeats 4000000
namespace Go.Proofs
open Go.Shelf
def Tryz.lays219_ren : Go.Shelf.Ren := ⟨fun | 219 => 178 | 217 => 213 | 224 => 215 | 225 => 214 | 266 => 262 | 267 => 216 | 314 => 263 | n => n, fun | 3 => 3 | 4 => 4 | 5 => 5 | 9 => 9 | 46 => 126 | 51 => 101 | 146 => 305 | n => n, fun | 1 => 0 | n => n⟩
theorem Tryz.lays219 : Go.Proofs.Lays.n219 Tryz.prog Tryz.lays219_ren := {
 mixed := by kernel_rfl
 f217 := Tryz.func213.trans (congrArg some (by kernel_rfl))
 f219 := Tryz.func178.trans (congrArg some (by kernel_rfl))
 f224 := Tryz.func215.trans (congrArg some (by kernel_rfl))
 f225 := Tryz.func214.trans (congrArg some (by kernel_rfl))
 f266 := Tryz.func262.trans (congrArg some (by kernel_rfl))
 f267 := Tryz.func216.trans (congrArg some (by kernel_rfl))
 f314 := Tryz.func263.trans (congrArg some (by kernel_rfl))
 t3 := Tryz.underlying3
 a3 := Tryz.isAgg3
 z3 := Tryz.sizeOf3
 v3 := Tryz.zeroValue3
 t4 := Tryz.underlying4
 a4 := Tryz.isAgg4
 z4 := Tryz.sizeOf4
 v4 := Tryz.zeroValue4
 t5 := Tryz.underlying5
 a5 := Tryz.isAgg5
 z5 := Tryz.sizeOf5
 v5 := Tryz.zeroValue5
 t9 := Tryz.underlying9
 a9 := Tryz.isAgg9
 z9 := Tryz.sizeOf9
 v9 := Tryz.zeroValue9
 t46 := Tryz.underlying126
 a46 := Tryz.isAgg126
 z46 := Tryz.sizeOf126
 v46 := Tryz.zeroValue126
 t51 := Tryz.underlying101
 a51 := Tryz.isAgg101
 z51 := Tryz.sizeOf101
 v51 := Tryz.zeroValue101
 t146 := Tryz.underlying305
 a146 := Tryz.isAgg305
 z146 := Tryz.sizeOf305
 v146 := Tryz.zeroValue305
 g1 := by kernel_rfl }
open Go.RowKit in
theorem Tryz.index_one (s : ByteArray) (c : UInt8) (w : World) :
 Calls Tryz.prog 178 #[.string s, .string ⟨#[c]⟩] w fun e w' => e = .returned (.int .i64 (Lib.indexByte s.data.toList c)) ∧ w' = w := Any.stringslite_Index_one Tryz.lays219 s c w
end Go.Proofs
namespace Go.Proofs.YtihdbjilolmfiaaGreatDoor
open Go.RowKit Go.WM Go.WR
attribute [local go_sem] Oper.semAt_some
theorem extract_take (T : ByteArray) (i : Nat) (_ : i ≤ T.size) : T.extract 0 i = ⟨(T.data.toList.take i).toArray⟩ := by
 rw [Lib.extract_eq]; simp
theorem extract_drop (T : ByteArray) (i : Nat) (_ : i ≤ T.size) : T.extract i T.size = ⟨(T.data.toList.drop i).toArray⟩ := by
 have ht : List.take (T.size - i) (List.drop i T.data.toList) = List.drop i T.data.toList :=
  List.take_of_length_le (by rw [List.length_drop, ← Lib.size_eq]; exact Nat.le_refl _)
 rw [Lib.extract_eq, ht]
variable {n : Nat} {o : Oper} {a : Act} {w : World}
theorem kGeq3 {x y : Operand} {p q : Int} {t : Bool} (ho : o.op = .binOp .geq 3 x y 3) (hx : a.eval x = .int .i64 p) (hy : a.eval y = .int .i64 q) (ht : decide (q ≤ p) = t) : Op1 n Tryz.prog o a w (fun v W' => KW (t16 := 48) (.val (.bool t)) v W' ∧ Below w.heap.size w W') := by
 refine Op1.of_run (v := .bool (decide (q ≤ p))) ?_ ⟨congrArg Value.bool ht, Below.refl _ _⟩
 unfold execOp
 rw [ho]
 simp only [hx, hy]
 simp [go_sem]
theorem kSliceTo9 {x y : Operand} {s r : ByteArray} {i : Nat} (ho : o.op = .slice 9 x none (some y) none) (hx : a.eval x = .string s) (hy : a.eval y = .int .i64 (i : Int)) (hi : i ≤ s.size) (hr : s.extract 0 i = r) : Op1 n Tryz.prog o a w (fun v W' => KW (t16 := 48) (.val (.string r)) v W' ∧ Below w.heap.size w W') := by
 refine Op1.of_run (v := .string r) ?_ ⟨rfl, Below.refl _ _⟩
 unfold execOp
 rw [ho]
 have h0 : (i : Int) ≤ s.size := by omega
 simp only [hx, hy, Option.map_some, Option.map_none]
 simp [go_sem, h0, hr]
theorem kSliceFrom9 {x y : Operand} {s r : ByteArray} {i : Nat} (ho : o.op = .slice 9 x (some y) none none) (hx : a.eval x = .string s) (hy : a.eval y = .int .i64 (i : Int)) (hi : i ≤ s.size) (hr : s.extract i s.size = r) : Op1 n Tryz.prog o a w (fun v W' => KW (t16 := 48) (.val (.string r)) v W' ∧ Below w.heap.size w W') := by
 refine Op1.of_run (v := .string r) ?_ ⟨rfl, Below.refl _ _⟩
 unfold execOp
 rw [ho]
 have h0 : (i : Int) ≤ s.size := by omega
 simp only [hx, hy, Option.map_some, Option.map_none]
 simp [go_sem, h0, hr]
end Go.Proofs.YtihdbjilolmfiaaGreatDoor
namespace Go.Proofs.YtihdbjilolmfiaaGreatDoor
open Go.RowKit Go.WM Go.WR
attribute [local go_sem] Oper.semAt_some
theorem may178 : MayCall 178 := ⟨_, Tryz.func178, by kernel_rfl, by kernel_rfl⟩
theorem c178 {T : ByteArray} {i : Int} {w : World} (h : Lib.indexByte T.data.toList 47 = i) : Calls Tryz.prog 178 #[.string T, .string ⟨#[47]⟩] w (Ret (.val (.int .i64 i)) w) := by
 refine (Tryz.index_one T 47 w).mono ?_
 rintro e w' ⟨rfl, rfl⟩
 exact ⟨_, rfl, by rw [h]; rfl, Below.refl _ _⟩
theorem cut_hit {T L R : ByteArray} {i : Nat} {w : World} (hi : Lib.indexByte T.data.toList 47 = (i : Int)) (ht : T.size ≤ 9223372036854775807) (hs : i + 1 ≤ T.size) (hl : T.extract 0 i = L) (hr : T.extract (i + 1) T.size = R) : Calls Tryz.prog 148 #[.string T, .string ⟨#[47]⟩] w (Ret (.k (tup3 (.val (.string L)) (.val (.string R)) (.val (.bool true)))) w) := by
 have hT := Lib.hid ht
 clear ht
 have HI := Lib.hid hi
 have HS := Lib.hid hs
 have HL := Lib.hid hl
 have HR := Lib.hid hr
 clear hi hs hl hr
 have hB0 := Below.refl w.heap.size w
 go_enter Tryz.func148, Tryz.ntmps148
 go_upto_region 0 with fail
 refine rg0 (n := 9) (t16 := 48) w.heap.size [.val (.string ⟨#[]⟩), .val (.string ⟨#[]⟩), vF] [(0, 4), (1, 5), (2, 6)] hB0.size ?st1 ?en1
 case st1 =>
  intro zi zo ho hro a' u lc W hM
  match zi, ho, hro with
  | 0, ho, _ => cases ho; exact wn (kAssign rfl rfl)
  | 1, ho, _ => cases ho; exact wn (kAssign rfl rfl)
  | 2, ho, _ => cases ho; exact wn (kAssign rfl rfl)
  | zk + 3, ho, _ => simp at ho
 case en1 =>
  intro u1 lc1 W1 hK1 hB1 hO1 hV1 hX1 hA1
  simp only [putK, fC, fN, kZ, kS, vV, sI, sZ, sS]
  have hBt1 := hB0.trans hB1
  clear hV1 hX1 hA1
  go_upto_region 1 with fail
  refine rg0 (n := 9) (t16 := 48) w.heap.size [.val (.string T), .val (.string ⟨#[47]⟩), .val (.int .i64 ((i : Nat) : Int)), .val (.int .i64 ((i : Nat) : Int))] [(0, 8), (1, 9), (2, 10), (3, 7)] hBt1.size ?st2 ?en2
  case st2 =>
   intro zi zo ho hro a' u lc W hM
   match zi, ho, hro with
   | 0, ho, _ => cases ho; exact wn (kMove rfl (hM.ol 0))
   | 1, ho, _ => cases ho; exact wn (kMove rfl (hM.ol 1))
   | 2, ho, _ => cases ho; exact wn (kCall2 rfl may178 (hM.d 0 8 rfl) (hM.d 1 9 rfl) (c178 HI.out))
   | 3, ho, _ => cases ho; exact wn (kAssign rfl (hM.d 2 10 rfl))
   | zk + 4, ho, _ => simp at ho
  case en2 =>
   intro u2 lc2 W2 hK2 hB2 hO2 hV2 hX2 hA2
   simp only [putK, fC, fN, kZ, kS, vV, sI, sZ, sS]
   have hBt2 := hBt1.trans hB2
   clear hV2 hX2 hA2
   go_upto_region 2 with fail
   refine rg0 (n := 9) (t16 := 48) w.heap.size [.val (.int .i64 ((i : Nat) : Int)), vT] [(0, 11), (1, 12)] hBt2.size ?st3 ?en3
   case st3 =>
    intro zi zo ho hro a' u lc W hM
    match zi, ho, hro with
    | 0, ho, _ => cases ho; exact wn (kMove rfl (hM.ol 7))
    | 1, ho, _ => cases ho; exact wn (kGeq3 rfl (hM.d 0 11 rfl) rfl (decide_eq_true (by omega)))
    | zk + 2, ho, _ => simp at ho
   case en3 =>
    intro u3 lc3 W3 hK3 hB3 hO3 hV3 hX3 hA3
    simp only [putK, fC, fN, kZ, kS, vV, sI, sZ, sS]
    have hBt3 := hBt2.trans hB3
    clear hV3 hX3 hA3
    go_upto_region 3 with fail
    refine rg0 (n := 9) (t16 := 48) w.heap.size [.val (.string T), .val (.int .i64 ((i : Nat) : Int)), .val (.string L), .val (.string T), .val (.int .i64 ((i : Nat) : Int)), .val (.string ⟨#[47]⟩), .val (.int .i64 1), .val (.int .i64 ((i + 1 : Nat) : Int)), .val (.string R), .val (.string L), .val (.string R), vT] [(0, 13), (1, 14), (2, 15), (3, 16), (4, 17), (5, 18), (6, 19), (7, 20), (8, 21), (9, 4), (10, 5), (11, 6)] hBt3.size ?st4 ?en4
    case st4 =>
     intro zi zo ho hro a' u lc W hM
     match zi, ho, hro with
     | 0, ho, _ => cases ho; exact wn (kMove rfl (hM.ol 0))
     | 1, ho, _ => cases ho; exact wn (kMove rfl (hM.ol 7))
     | 2, ho, _ => cases ho; exact wn (kSliceTo9 rfl (hM.d 0 13 rfl) (hM.d 1 14 rfl) (by have := HS.out; omega) HL.out)
     | 3, ho, _ => cases ho; exact wn (kMove rfl (hM.ol 0))
     | 4, ho, _ => cases ho; exact wn (kMove rfl (hM.ol 7))
     | 5, ho, _ => cases ho; exact wn (kMove rfl (hM.ol 1))
     | 6, ho, _ => cases ho; exact wn (kLenS (s := ⟨#[47]⟩) rfl (hM.d 5 18 rfl))
     | 7, ho, _ => cases ho; exact wn (kAdd3 rfl (hM.d 4 17 rfl) (hM.d 6 19 rfl) (by rw [IntKind.wrap_i64]; have := HS.out; have := hT.out; omega))
     | 8, ho, _ => cases ho; exact wn (kSliceFrom9 rfl (hM.d 3 16 rfl) (hM.d 7 20 rfl) HS.out HR.out)
     | 9, ho, _ => cases ho; exact wn (kAssign rfl (hM.d 2 15 rfl))
     | 10, ho, _ => cases ho; exact wn (kAssign rfl (hM.d 8 21 rfl))
     | 11, ho, _ => cases ho; exact wn (kAssign rfl rfl)
     | zk + 12, ho, _ => simp at ho
    case en4 =>
     intro u4 lc4 W4 hK4 hB4 hO4 hV4 hX4 hA4
     simp only [putK, fC, fN, kZ, kS, vV, sI, sZ, sS]
     have hBt4 := hBt3.trans hB4
     clear hV4 hX4 hA4
     go_wp2
     exact bodyPost_ret (v := .tuple #[.string L, .string R, .bool true]) (by simp [results, Tryz.results148, go_sem]) rfl ⟨_, rfl, ⟨_, _, _, rfl, rfl, rfl, rfl⟩, hBt4⟩
theorem cut_miss {T : ByteArray} {w : World} (hi : Lib.indexByte T.data.toList 47 = -1) : Calls Tryz.prog 148 #[.string T, .string ⟨#[47]⟩] w (Ret (.k (tup3 (.val (.string T)) (.val (.string ⟨#[]⟩)) (.val (.bool false)))) w) := by
 have HI := Lib.hid hi
 clear hi
 have hB0 := Below.refl w.heap.size w
 go_enter Tryz.func148, Tryz.ntmps148
 go_upto_region 0 with fail
 refine rg0 (n := 9) (t16 := 48) w.heap.size [.val (.string ⟨#[]⟩), .val (.string ⟨#[]⟩), vF] [(0, 4), (1, 5), (2, 6)] hB0.size ?st1 ?en1
 case st1 =>
  intro zi zo ho hro a' u lc W hM
  match zi, ho, hro with
  | 0, ho, _ => cases ho; exact wn (kAssign rfl rfl)
  | 1, ho, _ => cases ho; exact wn (kAssign rfl rfl)
  | 2, ho, _ => cases ho; exact wn (kAssign rfl rfl)
  | zk + 3, ho, _ => simp at ho
 case en1 =>
  intro u1 lc1 W1 hK1 hB1 hO1 hV1 hX1 hA1
  simp only [putK, fC, fN, kZ, kS, vV, sI, sZ, sS]
  have hBt1 := hB0.trans hB1
  clear hV1 hX1 hA1
  go_upto_region 1 with fail
  refine rg0 (n := 9) (t16 := 48) w.heap.size [.val (.string T), .val (.string ⟨#[47]⟩), .val (.int .i64 (-1)), .val (.int .i64 (-1))] [(0, 8), (1, 9), (2, 10), (3, 7)] hBt1.size ?st2 ?en2
  case st2 =>
   intro zi zo ho hro a' u lc W hM
   match zi, ho, hro with
   | 0, ho, _ => cases ho; exact wn (kMove rfl (hM.ol 0))
   | 1, ho, _ => cases ho; exact wn (kMove rfl (hM.ol 1))
   | 2, ho, _ => cases ho; exact wn (kCall2 rfl may178 (hM.d 0 8 rfl) (hM.d 1 9 rfl) (c178 HI.out))
   | 3, ho, _ => cases ho; exact wn (kAssign rfl (hM.d 2 10 rfl))
   | zk + 4, ho, _ => simp at ho
  case en2 =>
   intro u2 lc2 W2 hK2 hB2 hO2 hV2 hX2 hA2
   simp only [putK, fC, fN, kZ, kS, vV, sI, sZ, sS]
   have hBt2 := hBt1.trans hB2
   clear hV2 hX2 hA2
   go_upto_region 2 with fail
   refine rg0 (n := 9) (t16 := 48) w.heap.size [.val (.int .i64 (-1)), vF] [(0, 11), (1, 12)] hBt2.size ?st3 ?en3
   case st3 =>
    intro zi zo ho hro a' u lc W hM
    match zi, ho, hro with
    | 0, ho, _ => cases ho; exact wn (kMove rfl (hM.ol 7))
    | 1, ho, _ => cases ho; exact wn (kGeq3 rfl (hM.d 0 11 rfl) rfl (by decide))
    | zk + 2, ho, _ => simp at ho
   case en3 =>
    intro u3 lc3 W3 hK3 hB3 hO3 hV3 hX3 hA3
    simp only [putK, fC, fN, kZ, kS, vV, sI, sZ, sS]
    have hBt3 := hBt2.trans hB3
    clear hV3 hX3 hA3
    go_upto_region 4 with fail
    refine rg0 (n := 9) (t16 := 48) w.heap.size [.val (.string T), .val (.string T), .val (.string ⟨#[]⟩), vF] [(0, 22), (1, 4), (2, 5), (3, 6)] hBt3.size ?st4 ?en4
    case st4 =>
     intro zi zo ho hro a' u lc W hM
     match zi, ho, hro with
     | 0, ho, _ => cases ho; exact wn (kMove rfl (hM.ol 0))
     | 1, ho, _ => cases ho; exact wn (kAssign rfl (hM.d 0 22 rfl))
     | 2, ho, _ => cases ho; exact wn (kAssign rfl rfl)
     | 3, ho, _ => cases ho; exact wn (kAssign rfl rfl)
     | zk + 4, ho, _ => simp at ho
    case en4 =>
     intro u4 lc4 W4 hK4 hB4 hO4 hV4 hX4 hA4
     simp only [putK, fC, fN, kZ, kS, vV, sI, sZ, sS]
     have hBt4 := hBt3.trans hB4
     clear hV4 hX4 hA4
     go_wp2
     exact bodyPost_ret (v := .tuple #[.string T, .string ⟨#[]⟩, .bool false]) (by simp [results, Tryz.results148, go_sem]) rfl ⟨_, rfl, ⟨_, _, _, rfl, rfl, rfl, rfl⟩, hBt4⟩
theorem bytes_ext {s t : ByteArray} (h : s.data.toList = t.data.toList) : s = t := by
 obtain ⟨⟨a⟩⟩ := s
 obtain ⟨⟨b⟩⟩ := t
 have : a = b := h
 rw [this]
theorem c148 {T L R : ByteArray} {b : Bool} {w : World} (ht : T.size ≤ 9223372036854775807) (h : cutS T.data.toList = (L.data.toList, R.data.toList, b)) : Calls Tryz.prog 148 #[.string T, .string ⟨#[47]⟩] w (Ret (.k (tup3 (.val (.string L)) (.val (.string R)) (.val (.bool b)))) w) := by
 have hge := Lib.indexByte_ge T.data.toList 47
 by_cases hm : Lib.indexByte T.data.toList 47 = -1
 · have hc := cutS_miss hm
   rw [hc] at h
   obtain ⟨h1, h2⟩ := Prod.mk.inj h
   obtain ⟨h3, rfl⟩ := Prod.mk.inj h2
   obtain rfl : T = L := bytes_ext h1
   obtain rfl : (⟨#[]⟩ : ByteArray) = R := bytes_ext h3
   exact cut_miss hm
 · obtain ⟨i, hi⟩ : ∃ i : Nat, Lib.indexByte T.data.toList 47 = i := ⟨(Lib.indexByte T.data.toList 47).toNat, by omega⟩
   obtain ⟨hlt, hc⟩ := cutS_hit hi
   have hsz : i < T.size := by rw [Lib.size_eq]; exact hlt
   rw [hc] at h
   obtain ⟨h1, h2⟩ := Prod.mk.inj h
   obtain ⟨h3, rfl⟩ := Prod.mk.inj h2
   refine cut_hit hi ht (by omega) ?_ ?_
   · rw [extract_take T i (by omega)]; exact bytes_ext h1
   · rw [extract_drop T (i + 1) (by omega)]; exact bytes_ext h3
theorem c101 {T L R : ByteArray} {b : Bool} {w : World} (ht : T.size ≤ 9223372036854775807) (h : cutS T.data.toList = (L.data.toList, R.data.toList, b)) : Calls Tryz.prog 101 #[.string T, .string ⟨#[47]⟩] w (Ret (.k (tup3 (.val (.string L)) (.val (.string R)) (.val (.bool b)))) w) := by
 have HT := Lib.hid ht
 have HC := Lib.hid h
 clear ht h
 have hB0 := Below.refl w.heap.size w
 go_enter Tryz.func101, Tryz.ntmps101
 go_upto_region 0 with fail
 refine rg0 (n := 9) (t16 := 48) w.heap.size [.val (.string ⟨#[]⟩), .val (.string ⟨#[]⟩), vF] [(0, 4), (1, 5), (2, 6)] hB0.size ?st1 ?en1
 case st1 =>
  intro zi zo ho hro a' u lc W hM
  match zi, ho, hro with
  | 0, ho, _ => cases ho; exact wn (kAssign rfl rfl)
  | 1, ho, _ => cases ho; exact wn (kAssign rfl rfl)
  | 2, ho, _ => cases ho; exact wn (kAssign rfl rfl)
  | zk + 3, ho, _ => simp at ho
 case en1 =>
  intro u1 lc1 W1 hK1 hB1 hO1 hV1 hX1 hA1
  simp only [putK, fC, fN, kZ, kS, vV, sI, sZ, sS]
  have hBt1 := hB0.trans hB1
  clear hV1 hX1 hA1
  go_upto_region 1 with fail
  refine rg0 (n := 9) (t16 := 48) w.heap.size [.val (.string T), .val (.string ⟨#[47]⟩), .k (tup3 (.val (.string L)) (.val (.string R)) (.val (.bool b))), .val (.string L), .val (.string R), .val (.bool b), .val (.string L), .val (.string R), .val (.bool b)] [(0, 7), (1, 8), (2, 9), (3, 10), (4, 11), (5, 12), (6, 4), (7, 5), (8, 6)] hBt1.size ?st2 ?en2
  case st2 =>
   intro zi zo ho hro a' u lc W hM
   match zi, ho, hro with
   | 0, ho, _ => cases ho; exact wn (kMove rfl (hM.ol 0))
   | 1, ho, _ => cases ho; exact wn (kMove rfl (hM.ol 1))
   | 2, ho, _ => cases ho; exact wn (kCall2 rfl may148 (hM.d 0 7 rfl) (hM.d 1 8 rfl) (c148 HT.out HC.out))
   | 3, ho, _ => cases ho; exact wn (kEx30 rfl (hM.d 2 9 rfl))
   | 4, ho, _ => cases ho; exact wn (kEx31 rfl (hM.d 2 9 rfl))
   | 5, ho, _ => cases ho; exact wn (kEx32 rfl (hM.d 2 9 rfl))
   | 6, ho, _ => cases ho; exact wn (kAssign rfl (hM.d 3 10 rfl))
   | 7, ho, _ => cases ho; exact wn (kAssign rfl (hM.d 4 11 rfl))
   | 8, ho, _ => cases ho; exact wn (kAssign rfl (hM.d 5 12 rfl))
   | zk + 9, ho, _ => simp at ho
  case en2 =>
   intro u2 lc2 W2 hK2 hB2 hO2 hV2 hX2 hA2
   simp only [putK, fC, fN, kZ, kS, vV, vK, sI, sZ, sS]
   have hBt2 := hBt1.trans hB2
   clear hV2 hX2 hA2
   go_wp2
   exact bodyPost_ret (v := .tuple #[.string L, .string R, .bool b]) (by simp [results, Tryz.results101, go_sem]) rfl ⟨_, rfl, ⟨_, _, _, rfl, rfl, rfl, rfl⟩, hBt2⟩
theorem num_zero (W : World) : Is (num 0) (.agg #[.bool false, .slice none 0 0]) W := ⟨.slice none 0 0, [], rfl, .inl ⟨rfl, rfl⟩, Rep.nil, by have := capF_lt; have := capF_pos; simp; omega⟩
theorem c102 {T : ByteArray} {z er : Int} {w : World} (hs : T.size ≤ 9223372036854775806) (h : parseA T.data.toList = (z, er)) : Calls Tryz.prog 102 #[.string T] w (Ret (.k (tup2 (.k (num z)) (.val (.int .i64 er)))) w) := by
 unfold parseA at h
 refine (Parse_main T w hs).mono ?_
 rintro e w' (⟨hok, b, p, l, c, er', rfl, hf, hb⟩ | ⟨hno, rfl, hb⟩)
 · rw [if_pos hok] at h
   rcases hf with ⟨h1, rfl, hO⟩ | ⟨h1, rfl, e⟩
   · rw [if_pos h1] at h
     cases h
     exact ⟨_, rfl, ⟨_, _, rfl, wo_is hO, rfl⟩, hb⟩
   · rw [if_neg (by omega)] at h
     cases h
     cases e
     exact ⟨_, rfl, ⟨_, _, rfl, num_zero _, rfl⟩, hb⟩
 · rw [hno, if_neg (by decide)] at h
   cases h
   exact ⟨_, rfl, ⟨_, _, rfl, num_zero _, rfl⟩, hb⟩
def PBad (er : Int) : Kd := .k (tup2 (.val (.agg #[.bool false, .slice none 0 0, .bool false, .slice none 0 0])) (.val (.int .i64 er)))
theorem c55g {T L R : ByteArray} {ch : UInt8} {n d : Int} {w : World} (hTT : T.size ≤ 9223372036854775806) (hT : L.size ≤ 9223372036854775806) (hcut : cutS T.data.toList = (L.data.toList, R.data.toList, true)) (hl : parseA L.data.toList = (n, 0)) (hR : R.size ≤ 9223372036854775806) (hr : parseA R.data.toList = (d, 0)) (hc : R.data.toList.head? = some ch) (hz0 : decide (R.data.toList = [48]) = false) (hz1 : decide (R.data.toList = [49]) = false) (hm : decide ((ch.toNat : Int) = 45) = false) (hf : (decide ((n.natAbs : Int) < CapF) && decide ((d.natAbs : Int) < CapF)) = true) (hg : decide (((Int.gcd n d : Nat) : Int) = 1) = false) : Calls Tryz.prog 55 #[.string T] w (Ret (PBad 21) w) := by
 have HhTT := Lib.hid hTT
 have HhT := Lib.hid hT
 have Hhcut := Lib.hid hcut
 have Hhl := Lib.hid hl
 have HhR := Lib.hid hR
 have Hhr := Lib.hid hr
 have Hhc := Lib.hid hc
 have Hhz0 := Lib.hid hz0
 have Hhz1 := Lib.hid hz1
 have Hhm := Lib.hid hm
 have Hhf := Lib.hid hf
 have Hhg := Lib.hid hg
 clear hTT hT hcut hl hR hr hc hz0 hz1 hm hf hg
 have hB0 := Below.refl w.heap.size w
 go_enter Tryz.func55, Tryz.ntmps55
 go_upto_region 0 with fail
 refine rg (n := 9) (t16 := 48) w.heap.size [] [.any, vZ] [(0, 2), (1, 3)] [⟨26, some 0, 0, pt, 4, [.c #[.bool false, .slice none 0 0, .bool false, .slice none 0 0]], []⟩] ?ok1 ?st1 ?al1 ?pu1 ?en1
 case ok1 => exact BxOK.fresh rfl hB0.size
 case st1 =>
  intro zi zo ho hro a' u lc W hM
  match zi, ho, hro with
  | 0, _, hro => exact nr1 hro (by kernel_rfl)
  | 1, ho, _ => cases ho; exact wn (kAssign rfl rfl)
  | zk + 2, ho, _ => simp at ho
 case al1 =>
  intro zk zb zi zo hk ha ho a' u lc W hM
  match zk, hk with
  | 0, hk => cases hk; cases ha; cases ho; exact ⟨rfl, rfl, rfl, rfl, kAlloc26 rfl⟩
  | zk + 1, hk => simp at hk
 case pu1 =>
  intro zk zb zs zo hk hs ho a' u lc W zc hM hc hcs
  match zk, hk with
  | 0, hk => cases hk; simp at hs
  | zk + 1, hk => simp at hk
 case en1 =>
  intro u1 lc1 W1 hK1 hB1 hO1 hV1 hX1 hA1
  obtain ⟨qr, ho, hl⟩ := hX1 0 _ rfl
  have e1_0 : u1 0 = .pointer (some ⟨lc1 0, 0, none⟩) := (hl 0 rfl).1
  have g1_0 := (hl 0 rfl).2
  have q1_0 : W1.heap[(lc1 0)]? = some (.cells #[.bool false, .slice none 0 0, .bool false, .slice none 0 0] 26) := by
   exact qr
  simp only [putK, fC, fN, kZ, kS, vV, vA, sI, sZ, sS, e1_0]
  have hBt1 := hB0.trans hB1
  clear hV1 hX1 hA1
  go_upto_region 1 with fail
  refine rg0 (n := 9) (t16 := 48) w.heap.size [.val (.string T), .k (tup3 (.val (.string L)) (.val (.string R)) (vT)), .k (tup3 (.val (.string L)) (.val (.string R)) (vT)), .val (.string L), .val (.string R), vT, .val (.string L), .val (.string R), vT] [(0, 13), (1, 14), (2, 12), (3, 15), (4, 16), (5, 17), (6, 4), (7, 5), (8, 6)] hBt1.size ?st2 ?en2
  case st2 =>
   intro zi zo ho hro a' u lc W hM
   match zi, ho, hro with
   | 0, ho, _ => cases ho; exact wn (kMove rfl (hM.ol 0))
   | 1, ho, _ => cases ho; exact wn (kCall2 rfl may101 (hM.d 0 13 rfl) rfl (c101 (by have := HhTT.out; omega) Hhcut.out))
   | 2, ho, _ => cases ho; exact wn (kMove rfl (hM.d 1 14 rfl))
   | 3, ho, _ => cases ho; exact wn (kEx30 rfl (hM.d 2 12 rfl))
   | 4, ho, _ => cases ho; exact wn (kEx31 rfl (hM.d 2 12 rfl))
   | 5, ho, _ => cases ho; exact wn (kEx32 rfl (hM.d 2 12 rfl))
   | 6, ho, _ => cases ho; exact wn (kAssign rfl (hM.d 3 15 rfl))
   | 7, ho, _ => cases ho; exact wn (kAssign rfl (hM.d 4 16 rfl))
   | 8, ho, _ => cases ho; exact wn (kAssign rfl (hM.d 5 17 rfl))
   | zk + 9, ho, _ => simp at ho
  case en2 =>
   intro u2 lc2 W2 hK2 hB2 hO2 hV2 hX2 hA2
   have q2_1_0 := oth0 hO2 q1_0
   simp only [putK, fC, fN, kZ, kS, vV, vK, sI, sZ, sS]
   have hBt2 := hBt1.trans hB2
   clear hV2 hX2 hA2
   go_upto_region 2 with fail
   refine rg (n := 9) (t16 := 48) w.heap.size [] [.val (.string L), .k (tup2 (.k (num n)) (vZ)), .k (tup2 (.k (num n)) (vZ)), .k (num n), vZ, .any, .any, vZ] [(0, 19), (1, 20), (2, 18), (3, 21), (4, 22), (5, 7), (7, 8)] [⟨24, some 5, 0, pt, 2, [.c #[.bool false, .slice none 0 0]], [(6, 0, 3)]⟩] ?ok3 ?st3 ?al3 ?pu3 ?en3
   case ok3 => exact BxOK.fresh rfl hBt2.size
   case st3 =>
    intro zi zo ho hro a' u lc W hM
    match zi, ho, hro with
    | 0, ho, _ => cases ho; exact wn (kMove rfl (hM.ol 4))
    | 1, ho, _ => cases ho; exact wn (kCall1 rfl may102 (hM.d 0 19 rfl) (c102 HhT.out Hhl.out))
    | 2, ho, _ => cases ho; exact wn (kMove rfl (hM.d 1 20 rfl))
    | 3, ho, _ => cases ho; exact wn (kEx20 rfl (hM.d 2 18 rfl))
    | 4, ho, _ => cases ho; exact wn (kEx21 rfl (hM.d 2 18 rfl))
    | 5, _, hro => exact nr1 hro (by kernel_rfl)
    | 6, _, hro => exact nr1 hro (by kernel_rfl)
    | 7, ho, _ => cases ho; exact wn (kAssign rfl (hM.d 4 22 rfl))
    | zk + 8, ho, _ => simp at ho
   case al3 =>
    intro zk zb zi zo hk ha ho a' u lc W hM
    match zk, hk with
    | 0, hk => cases hk; cases ha; cases ho; exact ⟨rfl, rfl, rfl, rfl, kAlloc24 rfl⟩
    | zk + 1, hk => simp at hk
   case pu3 =>
    intro zk zb zs zo hk hs ho a' u lc W zc hM hc hcs
    match zk, hk with
    | 0, hk =>
     cases hk
     simp only [List.mem_cons, List.not_mem_nil, or_false] at hs
     rcases hs with rfl
     · cases ho
       obtain ⟨sb, sp, sl, sc, e⟩ := (show Is (num n) (u 3) W from (hM.kd 3)).form
       exact kPut rfl e ((hM.v 5 7 rfl).trans (hM.loc 0 _ 5 rfl rfl (by kernel_rfl))) (hM.v 3 21 rfl) hc hcs sz24
    | zk + 1, hk => simp at hk
   case en3 =>
    intro u3 lc3 W3 hK3 hB3 hO3 hV3 hX3 hA3
    have e3_0 := kv (hV3 0 19 rfl) rfl
    have k3_3 := kk (hV3 3 21 rfl) rfl
    obtain ⟨qr, ho, hl⟩ := hX3 0 _ rfl
    have e3_5 : u3 5 = .pointer (some ⟨lc3 0, 0, none⟩) := (hl 5 rfl).1
    have g3_0 := (hl 5 rfl).2
    obtain ⟨x3_6, y3_6, z3_6, c3_6, es3_6⟩ := k3_3.form
    have sk3_6 : Is (num n) (.agg #[.bool x3_6, .slice y3_6 z3_6 c3_6]) W3 := by rw [← es3_6]; exact k3_3
    have q3_0 : W3.heap[(lc3 0)]? = some (.cells #[.bool x3_6, .slice y3_6 z3_6 c3_6] 24) := by
     rw [contAll_one rfl (cs := #[.bool x3_6, .slice y3_6 z3_6 c3_6]) (by rw [es3_6]; rfl) rfl] at qr; exact qr
    have ne3_0_1_0 := Nat.ne_of_lt (Nat.lt_of_lt_of_le (Array.getElem?_eq_some_iff.1 q2_1_0).1 g3_0)
    have q3_1_0 := oth0 hO3 q2_1_0
    simp only [putK, fC, fN, kZ, kS, vV, vA, vK, sI, sZ, sS, e3_5]
    have hBt3 := hBt2.trans hB3
    clear hV3 hX3 hA3
    go_upto_region 3 with fail
    refine rg (n := 9) (t16 := 48) w.heap.size [] [.k (num 1), .any, .any, vZ] [(0, 23), (1, 9), (3, 10)] [⟨24, some 1, 0, pt, 2, [.c #[.bool false, .slice none 0 0]], [(2, 0, 0)]⟩] ?ok4 ?st4 ?al4 ?pu4 ?en4
    case ok4 => exact BxOK.fresh rfl hBt3.size
    case st4 =>
     intro zi zo ho hro a' u lc W hM
     match zi, ho, hro with
     | 0, ho, _ => cases ho; exact wn (kCall1 rfl may72 rfl (c72 (by decide) (by decide)))
     | 1, _, hro => exact nr1 hro (by kernel_rfl)
     | 2, _, hro => exact nr1 hro (by kernel_rfl)
     | 3, ho, _ => cases ho; exact wn (kAssign rfl rfl)
     | zk + 4, ho, _ => simp at ho
    case al4 =>
     intro zk zb zi zo hk ha ho a' u lc W hM
     match zk, hk with
     | 0, hk => cases hk; cases ha; cases ho; exact ⟨rfl, rfl, rfl, rfl, kAlloc24 rfl⟩
     | zk + 1, hk => simp at hk
    case pu4 =>
     intro zk zb zs zo hk hs ho a' u lc W zc hM hc hcs
     match zk, hk with
     | 0, hk =>
      cases hk
      simp only [List.mem_cons, List.not_mem_nil, or_false] at hs
      rcases hs with rfl
      · cases ho
        obtain ⟨sb, sp, sl, sc, e⟩ := (show Is (num 1) (u 0) W from (hM.kd 0)).form
        exact kPut rfl e ((hM.v 1 9 rfl).trans (hM.loc 0 _ 1 rfl rfl (by kernel_rfl))) (hM.v 0 23 rfl) hc hcs sz24
     | zk + 1, hk => simp at hk
    case en4 =>
     intro u4 lc4 W4 hK4 hB4 hO4 hV4 hX4 hA4
     have k4_0 := kk (hV4 0 23 rfl) rfl
     obtain ⟨qr, ho, hl⟩ := hX4 0 _ rfl
     have e4_1 : u4 1 = .pointer (some ⟨lc4 0, 0, none⟩) := (hl 1 rfl).1
     have g4_0 := (hl 1 rfl).2
     obtain ⟨x4_2, y4_2, z4_2, c4_2, es4_2⟩ := k4_0.form
     have q4_0 : W4.heap[(lc4 0)]? = some (.cells #[.bool x4_2, .slice y4_2 z4_2 c4_2] 24) := by
      rw [contAll_one rfl (cs := #[.bool x4_2, .slice y4_2 z4_2 c4_2]) (by rw [es4_2]; rfl) rfl] at qr; exact qr
     have ne4_0_1_0 := Nat.ne_of_lt (Nat.lt_of_lt_of_le (Array.getElem?_eq_some_iff.1 q3_1_0).1 g4_0)
     have ne4_0_3_0 := Nat.ne_of_lt (Nat.lt_of_lt_of_le (Array.getElem?_eq_some_iff.1 q3_0).1 g4_0)
     have q4_1_0 := oth0 hO4 q3_1_0
     have q4_3_0 := oth0 hO4 q3_0
     have f4_0 := sk3_6.kept hK4
     simp only [putK, fC, fN, kZ, kS, vV, vA, vK, sI, sZ, sS, e4_1]
     have hBt4 := hBt3.trans hB4
     clear hV4 hX4 hA4
     go_upto_region 4 with fail
     refine rg0 (n := 9) (t16 := 48) w.heap.size [vT] [(0, 24)] hBt4.size ?st5 ?en5
     case st5 =>
      intro zi zo ho hro a' u lc W hM
      match zi, ho, hro with
      | 0, ho, _ => cases ho; exact wn (kMove rfl (hM.ol 6))
      | zk + 1, ho, _ => simp at ho
     case en5 =>
      intro u5 lc5 W5 hK5 hB5 hO5 hV5 hX5 hA5
      have q5_1_0 := oth0 hO5 q4_1_0
      have q5_3_0 := oth0 hO5 q4_3_0
      have f5_0 := f4_0.kept hK5
      have q5_4_0 := oth0 hO5 q4_0
      simp only [putK, fC, fN, kZ, vV, sI, sZ, sS]
      have hBt5 := hBt4.trans hB5
      clear hV5 hX5 hA5
      go_upto_region 5 with fail
      refine rg (n := 9) (t16 := 48) w.heap.size [(lc4 0)] [.val (.string R), .k (tup2 (.k (num d)) (vZ)), .k (tup2 (.k (num d)) (vZ)), .k (num d), vZ, .any, vZ] [(0, 26), (1, 27), (2, 25), (3, 28), (4, 29), (6, 10)] [⟨24, none, (lc4 0), pt, 2, [.c #[.bool x4_2, .slice y4_2 z4_2 c4_2]], [(5, 0, 3)]⟩] ?ok6 ?st6 ?al6 ?pu6 ?en6
      case ok6 => exact BxOK.one ⟨(Nat.le_trans hBt3.size g4_0), ⟨_, q5_4_0, rfl, rfl, rfl⟩, by simp, (by decide : (24 : Nat) ≠ 48)⟩ rfl hBt5.size
      case st6 =>
       intro zi zo ho hro a' u lc W hM
       match zi, ho, hro with
       | 0, ho, _ => cases ho; exact wn (kMove rfl (hM.ol 5))
       | 1, ho, _ => cases ho; exact wn (kCall1 rfl may102 (hM.d 0 26 rfl) (c102 HhR.out Hhr.out))
       | 2, ho, _ => cases ho; exact wn (kMove rfl (hM.d 1 27 rfl))
       | 3, ho, _ => cases ho; exact wn (kEx20 rfl (hM.d 2 25 rfl))
       | 4, ho, _ => cases ho; exact wn (kEx21 rfl (hM.d 2 25 rfl))
       | 5, _, hro => exact nr1 hro (by kernel_rfl)
       | 6, ho, _ => cases ho; exact wn (kAssign rfl (hM.d 4 29 rfl))
       | zk + 7, ho, _ => simp at ho
      case al6 =>
       intro zk zb zi zo hk ha ho a' u lc W hM
       match zk, hk with
       | 0, hk => cases hk; cases ha
       | zk + 1, hk => simp at hk
      case pu6 =>
       intro zk zb zs zo hk hs ho a' u lc W zc hM hc hcs
       match zk, hk with
       | 0, hk =>
        cases hk
        simp only [List.mem_cons, List.not_mem_nil, or_false] at hs
        rcases hs with rfl
        · cases ho
          obtain ⟨sb, sp, sl, sc, e⟩ := (show Is (num d) (u 3) W from (hM.kd 3)).form
          exact kPut rfl e ((hM.ol 9).trans (show _ = Value.pointer (some ⟨lc 0, 0, none⟩) from by rw [show lc 0 = (lc4 0) from hM.locO 0 _ rfl rfl] <;> rfl)) (hM.v 3 28 rfl) hc hcs sz24
       | zk + 1, hk => simp at hk
      case en6 =>
       intro u6 lc6 W6 hK6 hB6 hO6 hV6 hX6 hA6
       have k6_3 := kk (hV6 3 28 rfl) rfl
       obtain ⟨qr, ho, hl⟩ := hX6 0 _ rfl
       have elc : lc6 0 = (lc4 0) := ho rfl
       rw [elc] at qr
       obtain ⟨x6_5, y6_5, z6_5, c6_5, es6_5⟩ := k6_3.form
       have sk6_5 : Is (num d) (.agg #[.bool x6_5, .slice y6_5 z6_5 c6_5]) W6 := by rw [← es6_5]; exact k6_3
       have q6_0 : W6.heap[(lc4 0)]? = some (.cells #[.bool x6_5, .slice y6_5 z6_5 c6_5] 24) := by
        rw [contAll_one rfl (cs := #[.bool x6_5, .slice y6_5 z6_5 c6_5]) (by rw [es6_5]; rfl) rfl] at qr; exact qr
       have q6_1_0 := oth1 hO6 q5_1_0 (by omega)
       have q6_3_0 := oth1 hO6 q5_3_0 (by omega)
       have f6_1 := f5_0.kept hK6
       simp only [putK, fC, fN, kZ, kS, vV, vK, sI, sZ, sS]
       have hBt6 := hBt5.trans hB6
       clear hV6 hX6 hA6
       go_upto_region 6 with fail
       refine rg0 (n := 9) (t16 := 48) w.heap.size [vZ, vF, vF, vZ, vF, vF, vF, vT, vT, .val (.string R), vF, vF, .val (.string R), vF, vF, vF, .val (.string R), .val (.int .u8 (ch.toNat : Int)), vF, vF, vF, vF] [(0, 30), (1, 31), (2, 32), (3, 33), (4, 34), (5, 35), (6, 36), (7, 37), (8, 38), (9, 39), (10, 40), (11, 41), (12, 42), (13, 43), (14, 44), (15, 45), (16, 46), (17, 47), (18, 48), (19, 49), (20, 50), (21, 51)] hBt6.size ?st7 ?en7
       case st7 =>
        intro zi zo ho hro a' u lc W hM
        match zi, ho, hro with
        | 0, ho, _ => cases ho; exact wn (kMove rfl (hM.ol 8))
        | 1, ho, _ => cases ho; exact wn (kEql29 rfl (hM.d 0 30 rfl) rfl (by decide))
        | 2, ho, _ => cases ho; exact wn (kMove rfl (hM.d 1 31 rfl))
        | 3, ho, _ => cases ho; exact hM.wg (hM.d 2 32 rfl) (kMove rfl (hM.ol 10))
        | 4, ho, _ => cases ho; exact hM.wg (hM.d 2 32 rfl) (kEql29 rfl (hM.d 3 33 rfl) rfl (by decide))
        | 5, ho, _ => cases ho; exact wn (kPick rfl (hM.d 2 32 rfl) (hM.d 4 34 rfl))
        | 6, ho, _ => cases ho; exact wn (kMove rfl (hM.d 5 35 rfl))
        | 7, ho, _ => cases ho; exact hM.wg (hM.d 6 36 rfl) (kMove rfl (hM.ol 6))
        | 8, ho, _ => cases ho; exact hM.wg (hM.d 6 36 rfl) (kMove rfl (hM.d 7 37 rfl))
        | 9, ho, _ => cases ho; exact hM.wg (hM.d 8 38 rfl) (kMove rfl (hM.ol 5))
        | 10, ho, _ => cases ho; exact hM.wg (hM.d 8 38 rfl) (kEql9 rfl (hM.d 9 39 rfl) rfl Hhz0.out)
        | 11, ho, _ => cases ho; exact hM.wg (hM.d 8 38 rfl) (kMove rfl (hM.d 10 40 rfl))
        | 12, ho, _ => cases ho; exact hM.wg (hM.d 11 41 rfl) (kMove rfl (hM.ol 5))
        | 13, ho, _ => cases ho; exact hM.wg (hM.d 11 41 rfl) (kEql9 rfl (hM.d 12 42 rfl) rfl Hhz1.out)
        | 14, ho, _ => cases ho; exact hM.wg (hM.d 8 38 rfl) (kPick rfl (hM.d 11 41 rfl) (hM.d 13 43 rfl))
        | 15, ho, _ => cases ho; exact hM.wg (hM.d 8 38 rfl) (kMove rfl (hM.d 14 44 rfl))
        | 16, ho, _ => cases ho; exact hM.wg (hM.d 15 45 rfl) (kMove rfl (hM.ol 5))
        | 17, ho, _ => cases ho; exact hM.wg (hM.d 15 45 rfl) (kIndexS rfl (hM.d 16 46 rfl) Hhc.out)
        | 18, ho, _ => cases ho; exact hM.wg (hM.d 15 45 rfl) (kEql5 rfl (hM.d 17 47 rfl) rfl Hhm.out)
        | 19, ho, _ => cases ho; exact hM.wg (hM.d 8 38 rfl) (kPick rfl (hM.d 15 45 rfl) (hM.d 18 48 rfl))
        | 20, ho, _ => cases ho; exact hM.wg (hM.d 6 36 rfl) (kPick rfl (hM.d 8 38 rfl) (hM.d 19 49 rfl))
        | 21, ho, _ => cases ho; exact wn (kPick rfl (hM.d 6 36 rfl) (hM.d 20 50 rfl))
        | zk + 22, ho, _ => simp at ho
       case en7 =>
        intro u7 lc7 W7 hK7 hB7 hO7 hV7 hX7 hA7
        have q7_1_0 := oth0 hO7 q6_1_0
        have q7_3_0 := oth0 hO7 q6_3_0
        have f7_0 := f6_1.kept hK7
        have q7_4_0 := oth0 hO7 q6_0
        have f7_1 := sk6_5.kept hK7
        simp only [putK, fC, fN, kZ, kS, vV, sI, sZ, sS]
        have hBt7 := hBt6.trans hB7
        clear hV7 hX7 hA7
        go_upto_region 8 with fail
        refine rg (n := 9) (t16 := 48) w.heap.size [] [.val (.agg #[.bool x3_6, .slice y3_6 z3_6 c3_6]), .val (.agg #[.bool x6_5, .slice y6_5 z6_5 c6_5]), .k (fr n d), .k (fr n d), .any, .any] [(0, 53), (1, 54), (2, 55), (3, 56), (4, 11)] [⟨73, some 4, 0, pt, 4, [.c #[.bool false, .slice none 0 0, .bool false, .slice none 0 0]], [(5, 0, 3)]⟩] ?ok8 ?st8 ?al8 ?pu8 ?en8
        case ok8 => exact BxOK.fresh rfl hBt7.size
        case st8 =>
         intro zi zo ho hro a' u lc W hM
         match zi, ho, hro with
         | 0, ho, _ => cases ho; exact wn (kL24 rfl (hM.ol 7) (hM.o0 q7_3_0) rfl)
         | 1, ho, _ => cases ho; exact wn (kL24 rfl (hM.ol 9) (hM.o0 q7_4_0) rfl)
         | 2, ho, _ => cases ho; exact wn (kBuild26 rfl (hM.d 0 53 rfl) (hM.d 1 54 rfl) ⟨_, _, _, _, _, _, _, _, rfl, (f7_0.kept hM.kept), (f7_1.kept hM.kept)⟩)
         | 3, ho, _ =>
          cases ho
          refine .inl ⟨wanted_none rfl, ?_⟩
          obtain ⟨sb1, sp1, sl1, sc1, sb2, sp2, sl2, sc2, e, sh1, sh2⟩ := (show Is (fr n d) _ W from (hM.kd 2))
          exact kBuild73 rfl ((hM.v 2 55 rfl).trans e) ⟨_, _, _, _, _, _, _, _, rfl, sh1, sh2⟩
         | 4, _, hro => exact nr1 hro (by kernel_rfl)
         | 5, _, hro => exact nr1 hro (by kernel_rfl)
         | zk + 6, ho, _ => simp at ho
        case al8 =>
         intro zk zb zi zo hk ha ho a' u lc W hM
         match zk, hk with
         | 0, hk => cases hk; cases ha; cases ho; exact ⟨rfl, rfl, rfl, rfl, kAlloc73 rfl⟩
         | zk + 1, hk => simp at hk
        case pu8 =>
         intro zk zb zs zo hk hs ho a' u lc W zc hM hc hcs
         match zk, hk with
         | 0, hk =>
          cases hk
          simp only [List.mem_cons, List.not_mem_nil, or_false] at hs
          rcases hs with rfl
          · cases ho
            obtain ⟨sb, sp, sl, sc, sb2, sp2, sl2, sc2, e, _⟩ := (show Is (fr n d) (u 3) W from (hM.kd 3))
            exact kPut rfl e ((hM.v 4 11 rfl).trans (hM.loc 0 _ 4 rfl rfl (by kernel_rfl))) (hM.v 3 56 rfl) hc hcs sz73
         | zk + 1, hk => simp at hk
        case en8 =>
         intro u8 lc8 W8 hK8 hB8 hO8 hV8 hX8 hA8
         have e8_0 := kv (hV8 0 53 rfl) rfl
         have k8_3 := kk (hV8 3 56 rfl) rfl
         obtain ⟨qr, ho, hl⟩ := hX8 0 _ rfl
         have e8_4 : u8 4 = .pointer (some ⟨lc8 0, 0, none⟩) := (hl 4 rfl).1
         have g8_0 := (hl 4 rfl).2
         obtain ⟨x8_5, y8_5, z8_5, c8_5, x28_5, y28_5, z28_5, c28_5, es8_5, sa8_5, sb8_5⟩ := id k8_3
         have sk8_5 : Is (fr n d) (.agg #[.bool x8_5, .slice y8_5 z8_5 c8_5, .bool x28_5, .slice y28_5 z28_5 c28_5]) W8 := by rw [← es8_5]; exact k8_3
         have q8_0 : W8.heap[(lc8 0)]? = some (.cells #[.bool x8_5, .slice y8_5 z8_5 c8_5, .bool x28_5, .slice y28_5 z28_5 c28_5] 73) := by
          rw [contAll_one rfl (cs := #[.bool x8_5, .slice y8_5 z8_5 c8_5, .bool x28_5, .slice y28_5 z28_5 c28_5]) (by rw [es8_5]; rfl) rfl] at qr; exact qr
         have ne8_0_1_0 := Nat.ne_of_lt (Nat.lt_of_lt_of_le (Array.getElem?_eq_some_iff.1 q7_1_0).1 g8_0)
         have q8_1_0 := oth0 hO8 q7_1_0
         have q8_3_0 := oth0 hO8 q7_3_0
         have f8_0 := f7_0.kept hK8
         have q8_4_0 := oth0 hO8 q7_4_0
         have f8_1 := f7_1.kept hK8
         simp only [putK, fC, fN, kZ, kS, vV, vA, vK, sI, sZ, sS, e8_4]
         have hBt8 := hBt7.trans hB8
         clear hV8 hX8 hA8
         go_upto_region 9 with fail
         refine rg0 (n := 9) (t16 := 48) w.heap.size [vZ, vF, vF, vZ, vF, vF, vF, .val (.agg #[.bool x8_5, .slice y8_5 z8_5 c8_5, .bool x28_5, .slice y28_5 z28_5 c28_5]), vT, vF, vF, vF] [(0, 58), (1, 59), (2, 60), (3, 61), (4, 62), (5, 63), (6, 64), (7, 65), (8, 66), (9, 67), (10, 68), (11, 57)] hBt8.size ?st9 ?en9
         case st9 =>
          intro zi zo ho hro a' u lc W hM
          match zi, ho, hro with
          | 0, ho, _ => cases ho; exact wn (kMove rfl (hM.ol 8))
          | 1, ho, _ => cases ho; exact wn (kNeq29 rfl (hM.d 0 58 rfl) rfl (by decide))
          | 2, ho, _ => cases ho; exact wn (kMove rfl (hM.d 1 59 rfl))
          | 3, ho, _ => cases ho; exact hM.wg (hM.d 2 60 rfl) (kMove rfl (hM.ol 10))
          | 4, ho, _ => cases ho; exact hM.wg (hM.d 2 60 rfl) (kNeq29 rfl (hM.d 3 61 rfl) rfl (by decide))
          | 5, ho, _ => cases ho; exact wn (kPick rfl (hM.d 2 60 rfl) (hM.d 4 62 rfl))
          | 6, ho, _ => cases ho; exact wn (kMove rfl (hM.d 5 63 rfl))
          | 7, ho, _ => cases ho; exact hM.wg (hM.d 6 64 rfl) (kLoad (rs := [.bool x8_5, .slice y8_5 z8_5 c8_5, .bool x28_5, .slice y28_5 z28_5 c28_5]) Tryz.underlying73 rfl sz73 rfl (hM.ol 11) (hM.o0 q8_0) rfl rfl)
          | 8, ho, _ => cases ho; exact hM.wg (hM.d 6 64 rfl) (kCall1 rfl may87 (hM.d 7 65 rfl) (c87 Hhf.out (sk8_5.kept hM.kept)))
          | 9, ho, _ => cases ho; exact hM.wg (hM.d 6 64 rfl) (kNot rfl (hM.d 8 66 rfl) rfl)
          | 10, ho, _ => cases ho; exact wn (kPick rfl (hM.d 6 64 rfl) (hM.d 9 67 rfl))
          | 11, ho, _ => cases ho; exact wn (kAssign rfl (hM.d 10 68 rfl))
          | zk + 12, ho, _ => simp at ho
         case en9 =>
          intro u9 lc9 W9 hK9 hB9 hO9 hV9 hX9 hA9
          have q9_1_0 := oth0 hO9 q8_1_0
          have q9_3_0 := oth0 hO9 q8_3_0
          have f9_0 := f8_0.kept hK9
          have q9_4_0 := oth0 hO9 q8_4_0
          have f9_1 := f8_1.kept hK9
          simp only [putK, fC, fN, kZ, kS, vV, sI, sZ, sS]
          have hBt9 := hBt8.trans hB9
          clear hV9 hX9 hA9
          go_upto_region 11 with fail
          refine rg0 (n := 9) (t16 := 48) w.heap.size [.val (.agg #[.bool x3_6, .slice y3_6 z3_6 c3_6]), .val (.agg #[.bool x6_5, .slice y6_5 z6_5 c6_5]), .k (num ((Int.gcd n d : Nat) : Int)), vF, vT, vT] [(0, 71), (1, 72), (2, 73), (3, 74), (4, 75), (5, 70)] hBt9.size ?st10 ?en10
          case st10 =>
           intro zi zo ho hro a' u lc W hM
           match zi, ho, hro with
           | 0, ho, _ => cases ho; exact wn (kL24 rfl (hM.ol 7) (hM.o0 q9_3_0) rfl)
           | 1, ho, _ => cases ho; exact wn (kL24 rfl (hM.ol 9) (hM.o0 q9_4_0) rfl)
           | 2, ho, _ => cases ho; exact wn (kCall2 rfl may73 (hM.d 0 71 rfl) (hM.d 1 72 rfl) (c73 rfl (f9_0.kept hM.kept) (f9_1.kept hM.kept)))
           | 3, ho, _ => cases ho; exact wn (kCall1 rfl may86 (hM.v 2 73 rfl) (c86 Hhg.out (hM.kd 2)))
           | 4, ho, _ => cases ho; exact wn (kNot rfl (hM.d 3 74 rfl) rfl)
           | 5, ho, _ => cases ho; exact wn (kAssign rfl (hM.d 4 75 rfl))
           | zk + 6, ho, _ => simp at ho
          case en10 =>
           intro u10 lc10 W10 hK10 hB10 hO10 hV10 hX10 hA10
           have q10_1_0 := oth0 hO10 q9_1_0
           simp only [putK, fC, fN, kZ, kS, vV, vK, sI, sZ, sS]
           have hBt10 := hBt9.trans hB10
           clear hV10 hX10 hA10
           go_upto_region 12 with fail
           refine rg (n := 9) (t16 := 48) w.heap.size [(lc1 0)] [.val (.agg #[.bool false, .slice none 0 0, .bool false, .slice none 0 0]), .any, .val (.int .i64 21)] [(0, 76), (2, 3)] [⟨26, none, (lc1 0), pt, 4, [.c #[.bool false, .slice none 0 0, .bool false, .slice none 0 0]], [(1, 0, 0)]⟩] ?ok11 ?st11 ?al11 ?pu11 ?en11
           case ok11 => exact BxOK.one ⟨(Nat.le_trans hB0.size g1_0), ⟨_, q10_1_0, rfl, rfl, rfl⟩, by simp, (by decide : (26 : Nat) ≠ 48)⟩ rfl hBt10.size
           case st11 =>
            intro zi zo ho hro a' u lc W hM
            match zi, ho, hro with
            | 0, ho, _ => cases ho; exact wn (kBuild260 rfl rfl)
            | 1, _, hro => exact nr1 hro (by kernel_rfl)
            | 2, ho, _ => cases ho; exact wn (kAssign rfl rfl)
            | zk + 3, ho, _ => simp at ho
           case al11 =>
            intro zk zb zi zo hk ha ho a' u lc W hM
            match zk, hk with
            | 0, hk => cases hk; cases ha
            | zk + 1, hk => simp at hk
           case pu11 =>
            intro zk zb zs zo hk hs ho a' u lc W zc hM hc hcs
            match zk, hk with
            | 0, hk =>
             cases hk
             simp only [List.mem_cons, List.not_mem_nil, or_false] at hs
             rcases hs with rfl
             · cases ho
               have e : u 0 = .agg #[.bool false, .slice none 0 0, .bool false, .slice none 0 0] := hM.kd 0
               exact kPut rfl e ((hM.ol 2).trans (show _ = Value.pointer (some ⟨lc 0, 0, none⟩) from by rw [show lc 0 = (lc1 0) from hM.locO 0 _ rfl rfl] <;> rfl)) (hM.v 0 76 rfl) hc hcs sz26
            | zk + 1, hk => simp at hk
           case en11 =>
            intro u11 lc11 W11 hK11 hB11 hO11 hV11 hX11 hA11
            have e11_0 := kv (hV11 0 76 rfl) rfl
            obtain ⟨qr, ho, hl⟩ := hX11 0 _ rfl
            have elc : lc11 0 = (lc1 0) := ho rfl
            rw [elc] at qr
            have q11_0 : W11.heap[(lc1 0)]? = some (.cells #[.bool false, .slice none 0 0, .bool false, .slice none 0 0] 26) := by
             rw [contAll_one rfl (cs := #[.bool false, .slice none 0 0, .bool false, .slice none 0 0]) (by rw [e11_0]; rfl) rfl] at qr; exact qr
            simp only [putK, fC, fN, kZ, kS, vV, sI, sZ, sS]
            have hBt11 := hBt10.trans hB11
            clear hV11 hX11 hA11
            unfold PBad
            have cr0 := cell_of q11_0 0 rfl
            have cr1 := cell_of q11_0 1 rfl
            have cr2 := cell_of q11_0 2 rfl
            have cr3 := cell_of q11_0 3 rfl
            go_wp2
            exact bodyPost_ret (v := .tuple #[.agg #[.bool false, .slice none 0 0, .bool false, .slice none 0 0], .int .i64 21]) (by simp [results, Tryz.results55, go_sem, cr0, cr1, cr2, cr3]) rfl ⟨_, rfl, ⟨_, _, rfl, rfl, rfl⟩, hBt11⟩
theorem int_rat (x : Int) : (Rat.divInt x 1).num = x ∧ (Rat.divInt x 1).den = 1 := by
 rw [Rat.num_divInt, Rat.den_divInt]
 simp
theorem c42w {x : Int} {v0 : Value} {w : World} (hx : ((x.natAbs : Nat) : Int) ≤ 65535) (h0 : Is (fr x 1) v0 w) : Calls Tryz.prog 42 #[v0, .int .i64 0, .int .i64 x, .int .i64 1] w (Ret (.val (.bool true)) w) := by
 obtain ⟨e1, e2⟩ := int_rat x
 refine c42 (r := Rat.divInt x 1) hx (by decide) (by decide) (decide_eq_true rfl) ?_
 show Is (fr _ _) _ _
 rw [e1, e2]
 exact h0
theorem c64 {q : Rat} {x0 x1 x2 x3 x4 x5 : Int} {ans : Nat → Int} {v0 : Value} {w : World} (hw : ∀ j : Nat, j < 6 → (#[.int .i64 x0, .int .i64 x1, .int .i64 x2, .int .i64 x3, .int .i64 x4, .int .i64 x5] : Array Value)[j]? = some (.int .i64 (ans j))) (hx : ∀ j : Nat, j < 6 → (((ans j).natAbs : Nat) : Int) ≤ 65535) (hr : ∀ j : Nat, j < 6 → ∀ (v1 u1 : Value) (W : World), Is (frq q) v1 W → Is (frq (Rat.divInt 1 1)) u1 W → Calls Tryz.prog 17 #[v1, u1, .int .u8 ((j : Int) + 1)] W (Ret (.k (tup2 (.k (fr (ans j) 1)) (.val (.int .i64 0)))) W)) (h0 : Is (frq q) v0 w) : Calls Tryz.prog 64 #[v0, .agg #[.int .i64 x0, .int .i64 x1, .int .i64 x2, .int .i64 x3, .int .i64 x4, .int .i64 x5]] w (Ret (.val (.bool true)) w) := by
 obtain ⟨ya0, yp0, yl0, yd0, ye0, yq0, ym0, yr0, rfl, yg0, yk0⟩ := id h0
 have HW := Lib.hid hw
 have HR := Lib.hid hr
 have HX := Lib.hid hx
 clear hw hr hx
 have hB0 := Below.refl w.heap.size w
 go_enter Tryz.func64, Tryz.ntmps64
 go_upto_region 0 with fail
 refine rg (n := 9) (t16 := 48) w.heap.size [] [.any, .any, vF] [(0, 2), (1, 3), (2, 4)] [⟨26, some 0, 0, pt, 4, [.c #[.bool ya0, .slice yp0 yl0 yd0, .bool ye0, .slice yq0 ym0 yr0]], []⟩, ⟨71, some 1, 0, pt, 6, [.c #[.int .i64 x0, .int .i64 x1, .int .i64 x2, .int .i64 x3, .int .i64 x4, .int .i64 x5]], []⟩] ?ok1 ?st1 ?al1 ?pu1 ?en1
 case ok1 => exact BxOK.fresh rfl hB0.size
 case st1 =>
  intro zi zo ho hro a' u lc W hM
  match zi, ho, hro with
  | 0, _, hro => exact nr1 hro (by kernel_rfl)
  | 1, _, hro => exact nr1 hro (by kernel_rfl)
  | 2, ho, _ => cases ho; exact wn (kAssign rfl rfl)
  | zk + 3, ho, _ => simp at ho
 case al1 =>
  intro zk zb zi zo hk ha ho a' u lc W hM
  match zk, hk with
  | 0, hk => cases hk; cases ha; cases ho; exact ⟨rfl, rfl, rfl, rfl, kBox rfl (hM.ol 0)⟩
  | 1, hk => cases hk; cases ha; cases ho; exact ⟨rfl, rfl, rfl, rfl, kBox rfl (hM.ol 1)⟩
  | zk + 2, hk => simp at hk
 case pu1 =>
  intro zk zb zs zo hk hs ho a' u lc W zc hM hc hcs
  match zk, hk with
  | 0, hk => cases hk; simp at hs
  | 1, hk => cases hk; simp at hs
  | zk + 2, hk => simp at hk
 case en1 =>
  intro u1 lc1 W1 hK1 hB1 hO1 hV1 hX1 hA1
  obtain ⟨qr, ho, hl⟩ := hX1 0 _ rfl
  have e1_0 : u1 0 = .pointer (some ⟨lc1 0, 0, none⟩) := (hl 0 rfl).1
  have g1_0 := (hl 0 rfl).2
  have f1_0 := h0.kept hK1
  have q1_0 : W1.heap[(lc1 0)]? = some (.cells #[.bool ya0, .slice yp0 yl0 yd0, .bool ye0, .slice yq0 ym0 yr0] 26) := by
   exact qr
  obtain ⟨qr, ho, hl⟩ := hX1 1 _ rfl
  have e1_1 : u1 1 = .pointer (some ⟨lc1 1, 0, none⟩) := (hl 1 rfl).1
  have g1_1 := (hl 1 rfl).2
  have q1_1 : W1.heap[(lc1 1)]? = some (.cells #[.int .i64 x0, .int .i64 x1, .int .i64 x2, .int .i64 x3, .int .i64 x4, .int .i64 x5] 71) := by
   exact qr
  simp only [putK, fC, fN, kZ, kS, vV, vA, sI, sZ, sS, e1_0, e1_1]
  have hBt1 := hB0.trans hB1
  clear hV1 hX1 hA1
  go_upto_region 1 with fail
  refine rg0 (n := 9) (t16 := 48) w.heap.size [vZ] [(0, 5)] hBt1.size ?st2 ?en2
  case st2 =>
   intro zi zo ho hro a' u lc W hM
   match zi, ho, hro with
   | 0, ho, _ => cases ho; exact wn (kAssign rfl rfl)
   | zk + 1, ho, _ => simp at ho
  case en2 =>
   intro u2 lc2 W2 hK2 hB2 hO2 hV2 hX2 hA2
   have q2_1_0 := oth0 hO2 q1_0
   have f2_0 := f1_0.kept hK2
   have q2_1_1 := oth0 hO2 q1_1
   simp only [putK, fC, fN, kZ, vV, sI, sZ, sS]
   have hBt2 := hBt1.trans hB2
   clear hV2 hX2 hA2
   have hge2 : w.heap.size ≤ (lc1 0) := (Nat.le_trans hB0.size g1_0)
   have hge3 : w.heap.size ≤ (lc1 1) := (Nat.le_trans hB0.size g1_1)
   go_wp2
   go_loopw [5] (fun uv wr => ∃ k : Nat, k ≤ 6 ∧ uv = .int .i64 ((k : Nat) : Int) ∧ wr.heap[(lc1 0)]? = some (.cells #[.bool ya0, .slice yp0 yl0 yd0, .bool ye0, .slice yq0 ym0 yr0] 26) ∧ Is (frq q) (.agg #[.bool ya0, .slice yp0 yl0 yd0, .bool ye0, .slice yq0 ym0 yr0]) wr ∧ wr.heap[(lc1 1)]? = some (.cells #[.int .i64 x0, .int .i64 x1, .int .i64 x2, .int .i64 x3, .int .i64 x4, .int .i64 x5] 71) ∧ Below w.heap.size w wr) (fun uv _ => 6 - (intOf uv).toNat)
   case atStart => exact ⟨0, by omega, rfl, q2_1_0, f2_0, q2_1_1, hBt2⟩
   case round =>
    obtain ⟨k, hk, rfl, q2, h2, q3, hBr⟩ := hrel
    by_cases hk6 : k < 6
    · have hwk := HW.out k hk6
      have hrk := HR.out k hk6
      have hxk := HX.out k hk6
      have HWK := Lib.hid hwk
      have HRK := Lib.hid hrk
      have HXK := Lib.hid hxk
      generalize ans k = xk at HWK HRK HXK
      clear hwk hrk hxk
      have hkk := hk6
      have HK6 := Lib.hid hk6
      clear hk6
      go_upto_region 2 with fail
      refine rg0 (n := 9) (t16 := 48) w.heap.size [.val (.int .i64 ((k : Nat) : Int)), vT] [(0, 8), (1, 9)] hBr.size ?st3 ?en3
      case st3 =>
       intro zi zo ho hro a' u lc W hM
       match zi, ho, hro with
       | 0, ho, _ => cases ho; exact wn (kMove rfl (hM.ol 5))
       | 1, ho, _ => cases ho; exact wn (kLss3 rfl (hM.d 0 8 rfl) rfl (decide_eq_true (by have := HK6.out; omega)))
       | zk + 2, ho, _ => simp at ho
      case en3 =>
       intro u3 lc3 W3 hK3 hB3 hO3 hV3 hX3 hA3
       have q3_1_0 := oth0 hO3 q2
       have f3_0 := h2.kept hK3
       have q3_1_1 := oth0 hO3 q3
       simp only [putK, fC, fN, kZ, kS, vV, sI, sZ, sS]
       have hBt3 := hBr.trans hB3
       clear hV3 hX3 hA3
       go_upto_region 4 with fail
       refine rg (n := 9) (t16 := 48) w.heap.size [] [.val (.agg #[.bool ya0, .slice yp0 yl0 yd0, .bool ye0, .slice yq0 ym0 yr0]), .k (frq (Rat.divInt 1 1)), .val (.int .i64 ((k : Nat) : Int)), .val (.int .i64 ((k : Int) + 1)), .val (.int .u8 ((k : Int) + 1)), .k (tup2 (.k (fr xk 1)) (vZ)), .k (tup2 (.k (fr xk 1)) (vZ)), .k (fr xk 1), vZ, .any, .any, vZ] [(0, 13), (1, 14), (2, 15), (3, 16), (4, 17), (5, 18), (6, 12), (7, 19), (8, 20), (9, 6), (11, 7)] [⟨26, some 9, 0, pt, 4, [.c #[.bool false, .slice none 0 0, .bool false, .slice none 0 0]], [(10, 0, 7)]⟩] ?ok4 ?st4 ?al4 ?pu4 ?en4
       case ok4 => exact BxOK.fresh rfl hBt3.size
       case st4 =>
        intro zi zo ho hro a' u lc W hM
        match zi, ho, hro with
        | 0, ho, _ => cases ho; exact wn (kL26 rfl (hM.ol 2) (hM.o0 q3_1_0))
        | 1, ho, _ => cases ho; exact wn (kCall2 rfl may22 rfl rfl (c22 (by decide) (by decide) (by decide)))
        | 2, ho, _ => cases ho; exact wn (kMove rfl (hM.ol 5))
        | 3, ho, _ => cases ho; exact wn (kAdd3 rfl (hM.d 2 15 rfl) rfl (by rw [IntKind.wrap_i64]; omega))
        | 4, ho, _ => cases ho; exact wn (kConv35 rfl (hM.d 3 16 rfl) (by omega) (by have := HK6.out; omega))
        | 5, ho, _ => cases ho; exact wn (kCall3 rfl may17 (hM.d 0 13 rfl) (hM.v 1 14 rfl) (hM.d 4 17 rfl) (HRK.out _ _ _ (f3_0.kept hM.kept) (hM.kd 1)))
        | 6, ho, _ => cases ho; exact wn (kMove rfl (hM.d 5 18 rfl))
        | 7, ho, _ => cases ho; exact wn (kEx20 rfl (hM.d 6 12 rfl))
        | 8, ho, _ => cases ho; exact wn (kEx21 rfl (hM.d 6 12 rfl))
        | 9, _, hro => exact nr1 hro (by kernel_rfl)
        | 10, _, hro => exact nr1 hro (by kernel_rfl)
        | 11, ho, _ => cases ho; exact wn (kAssign rfl (hM.d 8 20 rfl))
        | zk + 12, ho, _ => simp at ho
       case al4 =>
        intro zk zb zi zo hk ha ho a' u lc W hM
        match zk, hk with
        | 0, hk => cases hk; cases ha; cases ho; exact ⟨rfl, rfl, rfl, rfl, kAlloc26 rfl⟩
        | zk + 1, hk => simp at hk
       case pu4 =>
        intro zk zb zs zo hk hs ho a' u lc W zc hM hc hcs
        match zk, hk with
        | 0, hk =>
         cases hk
         simp only [List.mem_cons, List.not_mem_nil, or_false] at hs
         rcases hs with rfl
         · cases ho
           obtain ⟨sb, sp, sl, sc, sb2, sp2, sl2, sc2, e, _⟩ := (show Is (fr xk 1) (u 7) W from (hM.kd 7))
           exact kPut rfl e ((hM.v 9 6 rfl).trans (hM.loc 0 _ 9 rfl rfl (by kernel_rfl))) (hM.v 7 19 rfl) hc hcs sz26
        | zk + 1, hk => simp at hk
       case en4 =>
        intro u4 lc4 W4 hK4 hB4 hO4 hV4 hX4 hA4
        have k4_7 := kk (hV4 7 19 rfl) rfl
        obtain ⟨qr, ho, hl⟩ := hX4 0 _ rfl
        have e4_9 : u4 9 = .pointer (some ⟨lc4 0, 0, none⟩) := (hl 9 rfl).1
        have g4_0 := (hl 9 rfl).2
        obtain ⟨x4_10, y4_10, z4_10, c4_10, x24_10, y24_10, z24_10, c24_10, es4_10, sa4_10, sb4_10⟩ := id k4_7
        have sk4_10 : Is (fr xk 1) (.agg #[.bool x4_10, .slice y4_10 z4_10 c4_10, .bool x24_10, .slice y24_10 z24_10 c24_10]) W4 := by rw [← es4_10]; exact k4_7
        have q4_0 : W4.heap[(lc4 0)]? = some (.cells #[.bool x4_10, .slice y4_10 z4_10 c4_10, .bool x24_10, .slice y24_10 z24_10 c24_10] 26) := by
         rw [contAll_one rfl (cs := #[.bool x4_10, .slice y4_10 z4_10 c4_10, .bool x24_10, .slice y24_10 z24_10 c24_10]) (by rw [es4_10]; rfl) rfl] at qr; exact qr
        have q4_1_0 := oth0 hO4 q3_1_0
        have f4_0 := f3_0.kept hK4
        have q4_1_1 := oth0 hO4 q3_1_1
        simp only [putK, fC, fN, kZ, kS, vV, vA, vK, sI, sZ, sS, e4_9]
        have hBt4 := hBt3.trans hB4
        clear hV4 hX4 hA4
        go_upto_region 5 with fail
        refine rg0 (n := 9) (t16 := 48) w.heap.size [.val (.agg #[.bool x4_10, .slice y4_10 z4_10 c4_10, .bool x24_10, .slice y24_10 z24_10 c24_10]), vZ, .val (.int .i64 ((k : Nat) : Int)), .val (.pointer (some ⟨(lc1 1), k, none⟩)), .val (.int .i64 xk), vT, vF] [(0, 21), (1, 22), (2, 23), (3, 24), (4, 25), (5, 26), (6, 27)] hBt4.size ?st5 ?en5
        case st5 =>
         intro zi zo ho hro a' u lc W hM
         match zi, ho, hro with
         | 0, ho, _ => cases ho; exact wn (kL26 rfl (hM.ol 6) (hM.o0 q4_0))
         | 1, ho, _ => cases ho; exact wn (kMove rfl (hM.ol 7))
         | 2, ho, _ => cases ho; exact wn (kMove rfl (hM.ol 5))
         | 3, ho, _ => cases ho; exact wn (kIndex71 rfl (hM.ol 3) (hM.d 2 23 rfl) HK6.out)
         | 4, ho, _ => cases ho; exact wn (kLoadArr rfl (hM.d 3 24 rfl) (hM.o0 q4_1_1) HWK.out)
         | 5, ho, _ => cases ho; exact wn (kCall4 rfl may42 (hM.d 0 21 rfl) (hM.d 1 22 rfl) (hM.d 4 25 rfl) rfl (c42w HXK.out (sk4_10.kept hM.kept)))
         | 6, ho, _ => cases ho; exact wn (kNot rfl (hM.d 5 26 rfl) rfl)
         | zk + 7, ho, _ => simp at ho
        case en5 =>
         intro u5 lc5 W5 hK5 hB5 hO5 hV5 hX5 hA5
         have q5_1_0 := oth0 hO5 q4_1_0
         have f5_0 := f4_0.kept hK5
         have q5_1_1 := oth0 hO5 q4_1_1
         simp only [putK, fC, fN, kZ, kS, vV, sI, sZ, sS]
         have hBt5 := hBt4.trans hB5
         clear hV5 hX5 hA5
         go_upto_region 3 with fail
         refine rg0 (n := 9) (t16 := 48) w.heap.size [.val (.int .i64 ((k : Nat) : Int)), .val (.int .i64 ((k : Int) + 1)), .val (.int .i64 ((k : Int) + 1))] [(0, 10), (1, 11), (2, 5)] hBt5.size ?st6 ?en6
         case st6 =>
          intro zi zo ho hro a' u lc W hM
          match zi, ho, hro with
          | 0, ho, _ => cases ho; exact wn (kMove rfl (hM.ol 5))
          | 1, ho, _ => cases ho; exact wn (kAdd3 rfl (hM.d 0 10 rfl) rfl (by rw [IntKind.wrap_i64]; omega))
          | 2, ho, _ => cases ho; exact wn (kAssign rfl (hM.d 1 11 rfl))
          | zk + 3, ho, _ => simp at ho
         case en6 =>
          intro u6 lc6 W6 hK6 hB6 hO6 hV6 hX6 hA6
          have q6_1_0 := oth0 hO6 q5_1_0
          have f6_0 := f5_0.kept hK6
          have q6_1_1 := oth0 hO6 q5_1_1
          simp only [putK, fC, fN, kZ, kS, vV, sI, sZ, sS]
          have hBt6 := hBt5.trans hB6
          clear hV6 hX6 hA6
          go_wp2
          go_roundw
          case rel => exact ⟨k + 1, by have := HK6.out; omega, by simp, q6_1_0, f6_0, q6_1_1, hBt6⟩
          case measure => have := HK6.out; simp [intOf]; omega
    · obtain rfl : k = 6 := by omega
      go_upto_region 2 with fail
      refine rg0 (n := 9) (t16 := 48) w.heap.size [.val (.int .i64 6), vF] [(0, 8), (1, 9)] hBr.size ?st3 ?en3
      case st3 =>
       intro zi zo ho hro a' u lc W hM
       match zi, ho, hro with
       | 0, ho, _ => cases ho; exact wn (kMove rfl (hM.ol 5))
       | 1, ho, _ => cases ho; exact wn (kLss3 rfl (hM.d 0 8 rfl) rfl (by decide))
       | zk + 2, ho, _ => simp at ho
      case en3 =>
       intro u3 lc3 W3 hK3 hB3 hO3 hV3 hX3 hA3
       simp only [putK, fC, fN, kZ, kS, vV, sI, sZ, sS]
       have hBt3 := hBr.trans hB3
       clear hV3 hX3 hA3
       go_upto_region 7 with fail
       refine rg0 (n := 9) (t16 := 48) w.heap.size [vT] [(0, 4)] hBt3.size ?st4 ?en4
       case st4 =>
        intro zi zo ho hro a' u lc W hM
        match zi, ho, hro with
        | 0, ho, _ => cases ho; exact wn (kAssign rfl rfl)
        | zk + 1, ho, _ => simp at ho
       case en4 =>
        intro u4 lc4 W4 hK4 hB4 hO4 hV4 hX4 hA4
        simp only [putK, fC, fN, kZ, vV, sI, sZ, sS]
        have hBt4 := hBt3.trans hB4
        clear hV4 hX4 hA4
        go_wp2
        exact bodyPost_ret (v := .bool true) (by simp [results, Tryz.results64, go_sem]) rfl ⟨_, rfl, rfl, hBt4⟩
end Go.Proofs.YtihdbjilolmfiaaGreatDoor
namespace Go.Proofs.YtihdbjilolmfiaaGreatDoor
open Go.RowKit Go.WM Go.WR
theorem capF_ge : (65536 : Int) ≤ CapF := by
 have h := pow_le_pow' (a := 1) (b := 256) (by decide)
 rw [CapF.eq]
 omega
theorem fs_small {q : Rat} (h1 : q.num.natAbs ≤ 65535) (h2 : q.den ≤ 65535) : Fs q := by
 have := capF_ge
 exact ⟨by omega, by omega⟩
theorem a46 {v0 v1 : Value} {w : World} (h0 : Is (num 4) v0 w) (h1 : Is (num (-6)) v1 w) : Calls Tryz.prog 46 #[v0, v1] w (Ret (.k (tup2 (.k (fr (Rat.divInt (-2) 3).num (((Rat.divInt (-2) 3).den : Nat) : Int))) (.val (.int .i64 0)))) w) := by
 have e1 : (Rat.divInt (-2) 3).num = -2 := by decide +kernel
 have e2 : (((Rat.divInt (-2) 3).den : Nat) : Int) = 3 := by decide +kernel
 rw [e1, e2]
 have := capF_ge
 refine c46a (g := 2) (by decide) (by decide) (by decide) (by decide) (by decide) ⟨by decide, by decide, by decide⟩ ⟨by decide, by decide, by decide⟩ ?_ h0 h1
 rw [decide_eq_true (by omega), decide_eq_true (by omega)]; rfl
theorem a27 {v0 v1 : Value} {w : World} (h0 : Is (fr (Rat.divInt 1 6).num (((Rat.divInt 1 6).den : Nat) : Int)) v0 w) (h1 : Is (fr (Rat.divInt 1 3).num (((Rat.divInt 1 3).den : Nat) : Int)) v1 w) : Calls Tryz.prog 27 #[v0, v1] w (Ret (.k (tup2 (.k (fr (Rat.divInt 1 2).num (((Rat.divInt 1 2).den : Nat) : Int))) (.val (.int .i64 0)))) w) := by
 have e : Rat.divInt 1 6 + Rat.divInt 1 3 = Rat.divInt 1 2 := by decide +kernel
 have h := c27 (fs_small (by decide +kernel) (by decide +kernel)) (fs_small (by decide +kernel) (by decide +kernel)) (by rw [e]; exact fs_small (by decide +kernel) (by decide +kernel)) h0 h1
 rw [e] at h
 exact h
theorem a23 {v0 : Value} {w : World} (h0 : Is (fr (Rat.divInt (-2) 3).num (((Rat.divInt (-2) 3).den : Nat) : Int)) v0 w) : Calls Tryz.prog 23 #[v0, .int .i64 (-3)] w (Ret (.k (tup2 (.k (fr (Rat.divInt (-27) 8).num (((Rat.divInt (-27) 8).den : Nat) : Int))) (.val (.int .i64 0)))) w) := by
 have e : Rat.divInt (-3) 2 ^ 3 = Rat.divInt (-27) 8 := by decide +kernel
 have ei : (Rat.divInt (-2) 3)⁻¹ = Rat.divInt (-3) 2 := by decide +kernel
 have h := c23b (r := Rat.divInt (-2) 3) (b := Rat.divInt (-3) 2) (n := -3) (m := 3) (fs_small (by decide +kernel) (by decide +kernel)) (by decide +kernel) rfl (by decide) (by decide) (by decide +kernel) ei (by decide +kernel) (by decide +kernel) (fun k hk => by
  match k, hk with
  | 0, _ => exact fs_small (by decide +kernel) (by decide +kernel)
  | 1, _ => exact fs_small (by decide +kernel) (by decide +kernel)
  | 2, _ => exact fs_small (by decide +kernel) (by decide +kernel)
  | 3, _ => exact fs_small (by decide +kernel) (by decide +kernel)
  | k + 4, h => omega) h0
 rw [e] at h
 exact h
theorem a51 {v0 : Value} {w : World} (h0 : Is (fr (Rat.divInt (-1) 2).num (((Rat.divInt (-1) 2).den : Nat) : Int)) v0 w) : Calls Tryz.prog 51 #[v0] w (Ret (.k (tup2 (.k (num (-1))) (.val (.int .i64 0)))) w) := by
 have e1 : (Rat.divInt (-1) 2).num = -1 := by decide +kernel
 have e2 : (((Rat.divInt (-1) 2).den : Nat) : Int) = 2 := by decide +kernel
 exact c51 (r := Rat.divInt (-1) 2) (q := -1) (t := 1) (fs_small (by decide +kernel) (by decide +kernel)) (by rw [e1, e2]; exact ⟨by decide, by decide, by decide⟩) h0
theorem a52 {v0 : Value} {w : World} (h0 : Is (fr (Rat.divInt (-1) 2).num (((Rat.divInt (-1) 2).den : Nat) : Int)) v0 w) : Calls Tryz.prog 52 #[v0] w (Ret (.k (tup2 (.k (num 0)) (.val (.int .i64 0)))) w) := by
 have e1 : (Rat.divInt (-1) 2).num = -1 := by decide +kernel
 have e2 : (((Rat.divInt (-1) 2).den : Nat) : Int) = 2 := by decide +kernel
 have := cap_small'
 exact c52b (r := Rat.divInt (-1) 2) (q := -1) (t := 1) (z := 0) (fs_small (by decide +kernel) (by decide +kernel)) (by rw [e1, e2]; exact ⟨by decide, by decide, by decide⟩) (by decide) (by decide) (by simp; omega) h0
theorem a17 {m x y k z : Int} {r s q : Rat} {v0 v1 : Value} {w : World} (hz0 : z ≠ 0) (hk0 : k ≠ 0) (hr1 : r.num.natAbs ≤ 65535) (hr2 : r.den ≤ 65535) (hs1 : s.num.natAbs ≤ 65535) (hs2 : s.den ≤ 65535) (hs0 : 0 < s.num) (hm1 : 1 ≤ m) (hm6 : m ≤ 6) (hn : r.num * ((s.den : Nat) : Int) = x) (hd : ((r.den : Nat) : Int) * s.num = y)
 (cx : x.natAbs ≤ 65535) (cy : y.natAbs ≤ 65535) (hy : y ≠ 0) (hf : Floor x y k z) (cz : (z + z).natAbs ≤ 65535) (ck : (k + 1).natAbs ≤ 65535) (e : (roundK m (decide (r.num < 0)) y k z : Rat) * s = q) (hq1 : q.num.natAbs ≤ 65535) (hq2 : q.den ≤ 65535)
 (h0 : Is (frq r) v0 w) (h1 : Is (frq s) v1 w) : Calls Tryz.prog 17 #[v0, v1, .int .u8 m] w (Ret (.k (tup2 (.k (frq q)) (.val (.int .i64 0)))) w) := by
 have hc := cap_small'
 have h := c17s (r := r) (s := s) (m := m) (k := k) (z := z) hz0 hk0 (fs_small hr1 hr2) (fs_small hs1 hs2) hs0 hm1 hm6 hn hd (by omega) (by omega) hy hf (by omega) (by omega) (by rw [e]; exact fs_small hq1 hq2) (by rw [e]; omega) h0 h1
 rw [e] at h
 exact h
theorem a17a {v0 v1 : Value} {w : World} (h0 : Is (fr (Rat.divInt 1 1).num (((Rat.divInt 1 1).den : Nat) : Int)) v0 w) (h1 : Is (fr (Rat.divInt 3 10).num (((Rat.divInt 3 10).den : Nat) : Int)) v1 w) : Calls Tryz.prog 17 #[v0, v1, .int .u8 5] w (Ret (.k (tup2 (.k (fr (Rat.divInt 9 10).num (((Rat.divInt 9 10).den : Nat) : Int))) (.val (.int .i64 0)))) w) :=
 a17 (m := 5) (x := 10) (y := 3) (k := 3) (z := 1) (r := Rat.divInt 1 1) (s := Rat.divInt 3 10) (q := Rat.divInt 9 10) (by decide) (by decide) (by decide +kernel) (by decide +kernel) (by decide +kernel) (by decide +kernel) (by decide +kernel) (by decide) (by decide) (by decide +kernel) (by decide +kernel) (by decide) (by decide) (by decide) ⟨by decide, by decide, by decide⟩ (by decide) (by decide) (by decide +kernel) (by decide +kernel) (by decide +kernel) h0 h1
def ans1 : Nat → Int := fun j => ([3, 4, 3, 4, 4, 4] : List Int)[j]?.getD 0
def ans2 : Nat → Int := fun j => ([-2, -3, -3, -2, -3, -2] : List Int)[j]?.getD 0
theorem fr_rat (x : Int) : fr x 1 = frq (x : Rat) := rfl
theorem a17b (j : Nat) (hj : j < 6) (v0 v1 : Value) (w : World) (h0 : Is (fr (Rat.divInt 7 2).num (((Rat.divInt 7 2).den : Nat) : Int)) v0 w) (h1 : Is (fr (Rat.divInt 1 1).num (((Rat.divInt 1 1).den : Nat) : Int)) v1 w) : Calls Tryz.prog 17 #[v0, v1, .int .u8 ((j : Int) + 1)] w (Ret (.k (tup2 (.k (fr (ans1 j) 1)) (.val (.int .i64 0)))) w) := by
 have key : ∀ (m k' : Int), 1 ≤ m → m ≤ 6 → ((roundK m (decide ((Rat.divInt 7 2).num < 0)) 2 3 1 : Int) : Rat) * Rat.divInt 1 1 = (k' : Rat) → k'.natAbs ≤ 65535 → Calls Tryz.prog 17 #[v0, v1, .int .u8 m] w (Ret (.k (tup2 (.k (fr k' 1)) (.val (.int .i64 0)))) w) := fun m k' h3 h4 h5 h6 => by
  rw [fr_rat]
  exact a17 (m := m) (x := 7) (y := 2) (k := 3) (z := 1) (r := Rat.divInt 7 2) (s := Rat.divInt 1 1) (by decide) (by decide) (by decide +kernel) (by decide +kernel) (by decide +kernel) (by decide +kernel) (by decide +kernel) h3 h4 (by decide +kernel) (by decide +kernel) (by decide) (by decide) (by decide) ⟨by decide, by decide, by decide⟩ (by decide) (by decide) h5 h6 (by show (1 : Nat) ≤ 65535; decide) h0 h1
 match j, hj with
 | 0, _ => exact key 1 3 (by decide) (by decide) (by decide +kernel) (by decide)
 | 1, _ => exact key 2 4 (by decide) (by decide) (by decide +kernel) (by decide)
 | 2, _ => exact key 3 3 (by decide) (by decide) (by decide +kernel) (by decide)
 | 3, _ => exact key 4 4 (by decide) (by decide) (by decide +kernel) (by decide)
 | 4, _ => exact key 5 4 (by decide) (by decide) (by decide +kernel) (by decide)
 | 5, _ => exact key 6 4 (by decide) (by decide) (by decide +kernel) (by decide)
theorem a17c (j : Nat) (hj : j < 6) (v0 v1 : Value) (w : World) (h0 : Is (fr (Rat.divInt (-5) 2).num (((Rat.divInt (-5) 2).den : Nat) : Int)) v0 w) (h1 : Is (fr (Rat.divInt 1 1).num (((Rat.divInt 1 1).den : Nat) : Int)) v1 w) : Calls Tryz.prog 17 #[v0, v1, .int .u8 ((j : Int) + 1)] w (Ret (.k (tup2 (.k (fr (ans2 j) 1)) (.val (.int .i64 0)))) w) := by
 have key : ∀ (m k' : Int), 1 ≤ m → m ≤ 6 → ((roundK m (decide ((Rat.divInt (-5) 2).num < 0)) 2 (-3) 1 : Int) : Rat) * Rat.divInt 1 1 = (k' : Rat) → k'.natAbs ≤ 65535 → Calls Tryz.prog 17 #[v0, v1, .int .u8 m] w (Ret (.k (tup2 (.k (fr k' 1)) (.val (.int .i64 0)))) w) := fun m k' h3 h4 h5 h6 => by
  rw [fr_rat]
  exact a17 (m := m) (x := -5) (y := 2) (k := -3) (z := 1) (r := Rat.divInt (-5) 2) (s := Rat.divInt 1 1) (by decide) (by decide) (by decide +kernel) (by decide +kernel) (by decide +kernel) (by decide +kernel) (by decide +kernel) h3 h4 (by decide +kernel) (by decide +kernel) (by decide) (by decide) (by decide) ⟨by decide, by decide, by decide⟩ (by decide) (by decide) h5 h6 (by show (1 : Nat) ≤ 65535; decide) h0 h1
 match j, hj with
 | 0, _ => exact key 1 (-2) (by decide) (by decide) (by decide +kernel) (by decide)
 | 1, _ => exact key 2 (-3) (by decide) (by decide) (by decide +kernel) (by decide)
 | 2, _ => exact key 3 (-3) (by decide) (by decide) (by decide +kernel) (by decide)
 | 3, _ => exact key 4 (-2) (by decide) (by decide) (by decide +kernel) (by decide)
 | 4, _ => exact key 5 (-3) (by decide) (by decide) (by decide +kernel) (by decide)
 | 5, _ => exact key 6 (-2) (by decide) (by decide) (by decide +kernel) (by decide)
theorem a64a {v0 : Value} {w : World} (h0 : Is (fr (Rat.divInt 7 2).num (((Rat.divInt 7 2).den : Nat) : Int)) v0 w) : Calls Tryz.prog 64 #[v0, .agg #[.int .i64 3, .int .i64 4, .int .i64 3, .int .i64 4, .int .i64 4, .int .i64 4]] w (Ret (.val (.bool true)) w) :=
 c64 (ans := ans1) (fun j hj => by
  match j, hj with
  | 0, _ => rfl
  | 1, _ => rfl
  | 2, _ => rfl
  | 3, _ => rfl
  | 4, _ => rfl
  | 5, _ => rfl) (fun j hj => by
  match j, hj with
  | 0, _ => decide
  | 1, _ => decide
  | 2, _ => decide
  | 3, _ => decide
  | 4, _ => decide
  | 5, _ => decide) a17b h0
theorem a64b {v0 : Value} {w : World} (h0 : Is (fr (Rat.divInt (-5) 2).num (((Rat.divInt (-5) 2).den : Nat) : Int)) v0 w) : Calls Tryz.prog 64 #[v0, .agg #[.int .i64 (-2), .int .i64 (-3), .int .i64 (-3), .int .i64 (-2), .int .i64 (-3), .int .i64 (-2)]] w (Ret (.val (.bool true)) w) :=
 c64 (ans := ans2) (fun j hj => by
  match j, hj with
  | 0, _ => rfl
  | 1, _ => rfl
  | 2, _ => rfl
  | 3, _ => rfl
  | 4, _ => rfl
  | 5, _ => rfl) (fun j hj => by
  match j, hj with
  | 0, _ => decide
  | 1, _ => decide
  | 2, _ => decide
  | 3, _ => decide
  | 4, _ => decide
  | 5, _ => decide) a17c h0
theorem parse_digit {c : UInt8} {z : Int} (h1 : parseOK [c] = true) (h2 : parseZ [c] = z) (hz : z.natAbs ≤ 9) : parseA [c] = (z, 0) := by
 have := cap_small'
 unfold parseA
 rw [if_pos h1, h2, if_pos (by omega)]
theorem a55a {w : World} : Calls Tryz.prog 55 #[.string ⟨#[50, 47, 52]⟩] w (Ret (PBad 21) w) := by
 have := capF_ge
 refine c55g (L := ⟨#[50]⟩) (R := ⟨#[52]⟩) (ch := 52) (n := 2) (d := 4) (by decide) (by decide) (by decide) (parse_digit (by decide) (by decide) (by decide)) (by decide) (parse_digit (by decide) (by decide) (by decide)) rfl (by decide) (by decide) (by decide) ?_ (by decide)
 rw [decide_eq_true (by omega), decide_eq_true (by omega)]; rfl
theorem a55b {w : World} : Calls Tryz.prog 55 #[.string ⟨#[48, 47, 50]⟩] w (Ret (PBad 21) w) := by
 have := capF_ge
 refine c55g (L := ⟨#[48]⟩) (R := ⟨#[50]⟩) (ch := 50) (n := 0) (d := 2) (by decide) (by decide) (by decide) (parse_digit (by decide) (by decide) (by decide)) (by decide) (parse_digit (by decide) (by decide) (by decide)) rfl (by decide) (by decide) (by decide) ?_ (by decide)
 rw [decide_eq_true (by omega), decide_eq_true (by omega)]; rfl
end Go.Proofs.YtihdbjilolmfiaaGreatDoor
