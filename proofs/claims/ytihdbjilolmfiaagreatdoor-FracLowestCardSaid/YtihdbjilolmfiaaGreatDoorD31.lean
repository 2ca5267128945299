import Derived.Test.YtihdbjilolmfiaaGreatDoorD14
import Derived.Test.YtihdbjilolmfiaaGreatDoorD26
import Derived.Test.YtihdbjilolmfiaaGreatDoorD01
namespace Go.Proofs.YtihdbjilolmfiaaGreatDoor
open Go.RowKit Go.WM Go.WR
attribute [local go_sem] Oper.semAt_some
variable {n : Nat} {o : Oper} {a : Act} {w : World}
theorem kEql5 {x y : Operand} {p q : Int} {t : Bool} (ho : o.op = .binOp .eql 5 x y 5) (hx : a.eval x = .int .u8 p) (hy : a.eval y = .int .u8 q) (ht : decide (p = q) = t) : Op1 n Tryz.prog o a w (fun v W' => KW (t16 := 48) (.val (.bool t)) v W' ∧ Below w.heap.size w W') := by
 refine Op1.of_run (v := .bool (p == q)) ?_ ⟨congrArg Value.bool (by rw [← ht]; rfl), Below.refl _ _⟩
 unfold execOp
 rw [ho]
 simp only [hx, hy]
 simp [go_sem]
theorem bytes_beq (s t : ByteArray) : (s.toList == t.toList) = decide (s.data.toList = t.data.toList) := by
 rw [ByteArray.toList_eq, ByteArray.toList_eq]
 by_cases h : s.data.toList = t.data.toList
 · rw [h]; simp
 · rw [decide_eq_false h, beq_eq_false_iff_ne]; exact h
theorem kEql9 {x y : Operand} {s t : ByteArray} {b : Bool} (ho : o.op = .binOp .eql 9 x y 9) (hx : a.eval x = .string s) (hy : a.eval y = .string t) (hb : decide (s.data.toList = t.data.toList) = b) : Op1 n Tryz.prog o a w (fun v W' => KW (t16 := 48) (.val (.bool b)) v W' ∧ Below w.heap.size w W') := by
 refine Op1.of_run (v := .bool b) ?_ ⟨rfl, Below.refl _ _⟩
 unfold execOp
 rw [ho]
 simp only [hx, hy]
 have e := (bytes_beq s t).trans hb
 simp [go_sem, e]
theorem kLenS {x : Operand} {s : ByteArray} (ho : o.op = .call { callee := .builtin .len, args := #[x], argTypes := #[9] }) (hx : a.eval x = .string s) : Op1 n Tryz.prog o a w (fun v W' => KW (t16 := 48) (.val (.int .i64 s.size)) v W' ∧ Below w.heap.size w W') := by
 refine Op1.of_run ?_ ⟨rfl, Below.refl _ _⟩
 unfold execOp
 rw [ho]
 cases x <;> simp only [Act.eval] at hx <;> simp [go_sem, hx]
theorem kIndexS {x : Operand} {s : ByteArray} {c : UInt8} (ho : o.op = .index 9 x (.const (.int .i64 0))) (hx : a.eval x = .string s) (hc : s.data.toList.head? = some c) : Op1 n Tryz.prog o a w (fun v W' => KW (t16 := 48) (.val (.int .u8 c.toNat)) v W' ∧ Below w.heap.size w W') := by
 refine Op1.of_run ?_ ⟨rfl, Below.refl _ _⟩
 unfold execOp
 rw [ho]
 obtain ⟨⟨l⟩⟩ := s
 cases l with
 | nil => cases hc
 | cons b l =>
  cases hc
  have hp : 0 < (ByteArray.mk ⟨c :: l⟩).size := by rw [Lib.size_eq]; simp
  simp only [hx]
  simp [go_sem]
  rfl
theorem kAdd3 {x y : Operand} {p q r : Int} (ho : o.op = .binOp .add 3 x y 3) (hx : a.eval x = .int .i64 p) (hy : a.eval y = .int .i64 q) (h : IntKind.i64.wrap (p + q) = r) : Op1 n Tryz.prog o a w (fun v W' => KW (t16 := 48) (.val (.int .i64 r)) v W' ∧ Below w.heap.size w W') := by
 refine Op1.of_run (v := .int .i64 r) ?_ ⟨rfl, Below.refl _ _⟩
 unfold execOp
 rw [ho]
 simp only [hx, hy]
 simp [go_sem, h]
theorem kConv35 {x : Operand} {p : Int} (ho : o.op = .convert 3 5 x) (hx : a.eval x = .int .i64 p) (h0 : 0 ≤ p) (h1 : p < 256) : Op1 n Tryz.prog o a w (fun v W' => KW (t16 := 48) (.val (.int .u8 p)) v W' ∧ Below w.heap.size w W') := by
 have h : IntKind.u8.wrap p = p := by rw [IntKind.wrap_u8]; omega
 refine Op1.of_run (v := .int .u8 p) ?_ ⟨rfl, Below.refl _ _⟩
 unfold execOp
 rw [ho]
 simp only [hx]
 simp [go_sem, h]
theorem kIndex71 {x y : Operand} {B k : Nat} (ho : o.op = .indexAddr 71 x y) (hx : a.eval x = .pointer (some ⟨B, 0, none⟩)) (hy : a.eval y = .int .i64 (k : Int)) (hk : k < 6) : Op1 n Tryz.prog o a w (fun v W' => KW (t16 := 48) (.val (.pointer (some ⟨B, k, none⟩))) v W' ∧ Below w.heap.size w W') := by
 refine Op1.of_run (v := .pointer (some ⟨B, k, none⟩)) ?_ ⟨rfl, Below.refl _ _⟩
 unfold execOp
 rw [ho]
 simp only [hx, hy]
 have h0 : (k : Int) < 6 := by omega
 simp [go_sem, h0]
theorem kLoadArr {x : Operand} {B off T : Nat} {cs : Array Value} {v : Value} (ho : o.op = .load 3 x) (hx : a.eval x = .pointer (some ⟨B, off, none⟩)) (hq : w.heap[B]? = some (.cells cs T)) (hc : cs[off]? = some v) : Op1 n Tryz.prog o a w (fun u W' => KW (t16 := 48) (.val v) u W' ∧ Below w.heap.size w W') := by
 have hcell := cell_of hq off hc
 refine Op1.of_run (v := v) ?_ ⟨rfl, Below.refl _ _⟩
 unfold execOp
 rw [ho]
 simp only [hx]
 simp [go_sem, hcell]
end Go.Proofs.YtihdbjilolmfiaaGreatDoor
namespace Go.Proofs.YtihdbjilolmfiaaGreatDoor
open Go.RowKit Go.WM Go.WR
attribute [local go_sem] Oper.semAt_some
end Go.Proofs.YtihdbjilolmfiaaGreatDoor
namespace Go.Proofs.YtihdbjilolmfiaaGreatDoor
open Go.RowKit Go.WM Go.WR
def Fz (n : Nat) (q : Rat) : Prop := (q.num.natAbs : Int) < 65536 ^ n ∧ ((q.den : Int).natAbs : Int) < 65536 ^ n
theorem Fz.mono {a b : Nat} {q : Rat} (h : Fz a q) (hn : a ≤ b) : Fz b q := ⟨Int.lt_of_lt_of_le h.1 (pow_le_pow' hn), Int.lt_of_lt_of_le h.2 (pow_le_pow' hn)⟩
theorem mul_pw {a b : Nat} {x y : Int} (hx : (x.natAbs : Int) < 65536 ^ a) (hy : (y.natAbs : Int) < 65536 ^ b) : ((x * y).natAbs : Int) < 65536 ^ (a + b) := by
 rw [Int.natAbs_mul, Int.natCast_mul, Int.pow_add]
 refine Int.lt_of_le_of_lt (Int.mul_le_mul_of_nonneg_left (Int.le_of_lt hy) (by omega)) ?_
 exact Int.mul_lt_mul_of_pos_right hx (pow_pos' b)
theorem Fz.add {a b : Nat} {r s : Rat} (hr : Fz a r) (hs : Fz b s) : Fz (a + b + 1) (r + s) := by
 obtain ⟨g, hg⟩ : ∃ g : Nat, g = Nat.gcd r.den s.den := ⟨_, rfl⟩
 obtain ⟨n, hn⟩ : ∃ n : Int, n = r.num * ((s.den : Int) / g) + s.num * ((r.den : Int) / g) := ⟨_, rfl⟩
 obtain ⟨h, hh⟩ : ∃ h : Nat, h = Int.gcd n g := ⟨_, rfl⟩
 have b1 := mul_pw hr.1 (ediv_abs (b := (g : Int)) hs.2)
 have b2 := mul_pw hs.1 (ediv_abs (b := (g : Int)) hr.2)
 have b3 := mul_pw (ediv_abs (b := (g : Int)) hr.2) (ediv_abs (b := (h : Int)) hs.2)
 rw [Nat.add_comm b a] at b2
 have hp : (65536 : Int) ^ (a + b + 1) = 65536 ^ (a + b) * 65536 := Int.pow_succ ..
 have hpos := pow_pos' (a + b)
 constructor
 · rw [add_num' r s g h n hg hn hh]
   refine ediv_abs ?_
   have := Int.natAbs_add_le (r.num * ((s.den : Int) / g)) (s.num * ((r.den : Int) / g))
   rw [← hn] at this
   omega
 · rw [add_den' r s g h n hg hn hh]
   omega
theorem Fz.neg {a : Nat} {r : Rat} (h : Fz a r) : Fz a (-r) := ⟨by rw [Rat.neg_num, Int.natAbs_neg]; exact h.1, h.2⟩
theorem Fz.zero : Fz 1 0 := ⟨by decide, by decide⟩
theorem Fz.one : Fz 1 1 := ⟨by decide, by decide⟩
theorem num_raw {ng : Bool} {zs : List Int} {v : Value} {W : World} (hi : Is (raw ng zs) v W) (hok : okB ng zs = true) (hlm : Lm zs) : Is (num (sgn ng (val zs))) v W ∧ Rep zs (sgn ng (val zs)).natAbs := by
 obtain ⟨p, l, c, rfl, hL⟩ := hi
 obtain ⟨h1, h2, h3⟩ := okB_true hok
 have hR : Rep zs (val zs) := ⟨hlm, h2, rfl⟩
 have hn := hR.nonneg
 have hab : Rep zs ((sgn ng (val zs)).natAbs : Int) := by rw [sgn_abs ng hR]; exact hR
 refine ⟨⟨.slice p l c, zs, ?_, hL, hab, ?_⟩, hab⟩
 · rw [sgn_neg ng hR]
   congr 2
   cases ng with
   | false => rfl
   | true =>
    have : 0 < zs.length := by
     rcases Nat.eq_zero_or_pos zs.length with e | e
     · have := h3 (List.length_eq_zero_iff.1 e); cases this
     · exact e
    rw [decide_eq_true this]; rfl
 · rw [sgn_abs ng hR]; exact hR.cap.1 h1
theorem frw_parts {n1 n2 : Bool} {z1 z2 : List Int} {v : Value} {W : World} (hi : Is (frw n1 z1 n2 z2) v W) : ∃ p1 l1 c1 p2 l2 c2, v = .agg #[.bool n1, .slice p1 l1 c1, .bool n2, .slice p2 l2 c2] ∧ Is (raw n1 z1) (.agg #[.bool n1, .slice p1 l1 c1]) W ∧ Is (raw n2 z2) (.agg #[.bool n2, .slice p2 l2 c2]) W := by
 obtain ⟨p1, l1, c1, p2, l2, c2, rfl, h1, h2⟩ := hi
 exact ⟨p1, l1, c1, p2, l2, c2, rfl, ⟨_, _, _, rfl, h1⟩, ⟨_, _, _, rfl, h2⟩⟩
theorem fr_raw {n1 : Bool} {z1 z2 : List Int} {v : Value} {W : World} (hi : Is (frw n1 z1 false z2) v W) (h1 : okB n1 z1 = true) (h2 : okB false z2 = true) (hz : ¬ ((z2.length : Nat) : Int) = 0) (m1 : Lm z1) (m2 : Lm z2) :
 Is (fr (sgn n1 (val z1)) (val z2)) v W ∧ Rep z1 (sgn n1 (val z1)).natAbs ∧ Rep z2 (val z2) ∧ 0 < val z2 := by
 obtain ⟨p1, l1, c1, p2, l2, c2, rfl, k1, k2⟩ := frw_parts hi
 obtain ⟨a1, r1⟩ := num_raw k1 h1 m1
 obtain ⟨a2, r2⟩ := num_raw k2 h2 m2
 have hR : Rep z2 (val z2) := ⟨m2, (okB_true h2).2.1, rfl⟩
 have hn := hR.nonneg
 have hz' : val z2 ≠ 0 := fun e => by
  have := hR.zero_iff.2 e
  rw [this] at hz
  exact hz rfl
 exact ⟨⟨_, _, _, _, _, _, _, _, rfl, a1, a2⟩, r1, hR, by omega⟩
theorem okF_parts {n1 n2 : Bool} {z1 z2 : List Int} (h : okF n1 z1 n2 z2 = true) : z1.length ≤ 256 ∧ z2.length ≤ 256 ∧ okB n1 z1 = true ∧ okB n2 z2 = true ∧ n2 = false ∧ (¬ ((z2.length : Nat) : Int) = 0) ∧ ((Int.gcd (sgn n1 (val z1)) (val z2) : Nat) : Int) = 1 := by
 unfold okF at h
 simp only [Bool.and_eq_true, Bool.not_eq_true', decide_eq_true_eq, decide_eq_false_iff_not] at h
 obtain ⟨⟨a, b⟩, c, d, e, f, g⟩ := h
 exact ⟨a, b, c, d, e, f, g⟩
theorem frq_raw {n1 n2 : Bool} {z1 z2 : List Int} {v : Value} {W : World} (hi : Is (frw n1 z1 n2 z2) v W) (h : okF n1 z1 n2 z2 = true) (m1 : Lm z1) (m2 : Lm z2) :
 ∃ q : Rat, Is (frq q) v W ∧ Rep z1 q.num.natAbs ∧ Rep z2 (q.den : Int) := by
 obtain ⟨_, _, h1, h2, rfl, hz, hg⟩ := okF_parts h
 obtain ⟨hf, r1, r2, hp⟩ := fr_raw hi h1 h2 hz m1 m2
 have hg' : Nat.Coprime (sgn n1 (val z1)).natAbs (val z2).toNat := by
  have : Int.gcd (sgn n1 (val z1)) (val z2) = 1 := by omega
  unfold Int.gcd at this
  rwa [show (val z2).natAbs = (val z2).toNat by omega] at this
 refine ⟨⟨sgn n1 (val z1), (val z2).toNat, by omega, hg'⟩, ?_, r1, ?_⟩
 · show Is (fr (sgn n1 (val z1)) (((val z2).toNat : Nat) : Int)) v W
   rw [show (((val z2).toNat : Nat) : Int) = val z2 by omega]; exact hf
 · show Rep z2 (((val z2).toNat : Nat) : Int)
   rw [show (((val z2).toNat : Nat) : Int) = val z2 by omega]; exact r2
theorem Fz.of {q : Rat} {z1 z2 : List Int} {m : Nat} (r1 : Rep z1 q.num.natAbs) (r2 : Rep z2 (q.den : Int)) (h1 : z1.length ≤ m) (h2 : z2.length ≤ m) : Fz m q :=
 ⟨(r1.len_le_iff m).1 h1, by have := (r2.len_le_iff m).1 h2; rw [show (((q.den : Int).natAbs : Nat) : Int) = q.den by omega]; exact this⟩
theorem c44r {n1 n2 : Bool} {z1 z2 : List Int} {v0 : Value} {w : World} (m1 : Lm z1) (m2 : Lm z2) (h0 : Is (frw n1 z1 n2 z2) v0 w) : Calls Tryz.prog 44 #[v0] w (Ret (.val (.bool (okF n1 z1 n2 z2))) w) := by
 by_cases hs : (decide (z1.length ≤ 256) && decide (z2.length ≤ 256)) = true
 · by_cases h1 : okB n1 z1 = true
   · by_cases h2 : okB n2 z2 = true
     · cases n2 with
       | true =>
        rw [show okF n1 z1 true z2 = false by unfold okF; rw [hs, h1, h2]; rfl]
        exact c44d hs h1 h2 h0
       | false =>
        by_cases hz : ((z2.length : Nat) : Int) = 0
        · rw [show okF n1 z1 false z2 = false by unfold okF; rw [hs, h1, h2, decide_eq_true hz]; rfl]
          exact c44e hs h1 h2 hz h0
        · obtain ⟨hf, r1, r2, hp⟩ := fr_raw h0 h1 h2 hz m1 m2
          have e : okF n1 z1 false z2 = decide (((Int.gcd (sgn n1 (val z1)) (val z2) : Nat) : Int) = 1) := by unfold okF; rw [hs, h1, h2, decide_eq_false hz]; rfl
          rw [e]
          have l1 : z1.length ≤ 256 := by simp at hs; omega
          have l2 : z2.length ≤ 256 := by simp at hs; omega
          refine c44n hp ?_ rfl hf
          have a1 := (r1.len_le_iff 256).1 l1
          have a2 := (r2.len_le_iff 256).1 l2
          rw [← CapF.eq] at a1 a2
          rw [decide_eq_true a1, decide_eq_true (show ((val z2).natAbs : Int) < CapF by omega)]; rfl
     · have h2' := Bool.eq_false_iff.2 h2
       rw [show okF n1 z1 n2 z2 = false by unfold okF; rw [hs, h1, h2']; rfl]
       exact c44c hs h1 h2' h0
   · have h1' := Bool.eq_false_iff.2 h1
     rw [show okF n1 z1 n2 z2 = false by unfold okF; rw [hs, h1']; rfl]
     exact c44b hs h1' h0
 · have hs' := Bool.eq_false_iff.2 hs
   rw [show okF n1 z1 n2 z2 = false by unfold okF; rw [hs']; rfl]
   exact c44a hs' h0
end Go.Proofs.YtihdbjilolmfiaaGreatDoor
