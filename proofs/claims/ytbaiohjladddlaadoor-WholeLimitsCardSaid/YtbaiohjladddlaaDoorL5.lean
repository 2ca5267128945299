import Derived.Test.YtbaiohjladddlaaDoorL4
/- The laws' function awake: the examples of the chapter. -/
namespace Go.Proofs.YtbaiohjladddlaaDoor
open Go.RowKit Go.WM Go.WR
attribute [local go_sem] Oper.semAt_some

theorem cap_small {z : Int} (h : (z.natAbs : Int) < 18446744073709551616) : z.natAbs < Cap := cap_big h

theorem itoa_m10 : (⟨(Lib.itoa (-10)).toArray⟩ : ByteArray) = ⟨#[45, 49, 48]⟩ := by
  rw [itoa_sign, show ((-10 : Int).natAbs) = 10 by decide, Lib.decDigits_two (by decide) (by decide)]
  rfl

theorem Text_m10 (va : Value) (w : World) (hA : Wn w.heap.size w va (-10)) (htab : Tab w) : Calls Tryd.prog 21 #[va] w fun e w' => e = .returned (.tuple #[.string ⟨#[45, 49, 48]⟩, .int .i64 0]) ∧ Below w.heap.size w w' :=
  (Text_ok va (-10) w hA htab).mono fun _ _ ⟨he, hb⟩ => ⟨by rw [he, itoa_m10], hb⟩

theorem Parse_007 (w : World) : Calls Tryd.prog 22 #[.string ⟨#[48, 48, 55]⟩] w fun e w' => e = .returned (.tuple #[.agg #[.bool false, .slice none 0 0], .int .i64 10]) ∧ Below w.heap.size w w' := by
  refine (Parse_main ⟨#[48, 48, 55]⟩ w (by decide)).mono ?_
  rintro e w' (⟨h, _⟩ | ⟨_, he, hb⟩)
  · exact absurd h (by decide)
  · exact ⟨he, hb⟩

theorem Add_neg (vb : Value) (b : Int) (w : World) (hB : Wn w.heap.size w vb b) : Calls Tryd.prog 24 #[.agg #[.bool true, .slice none 0 0], vb] w fun e w' => e = .returned (.tuple #[.agg #[.bool false, .slice none 0 0], .int .i64 2]) ∧ Below w.heap.size w w' := by
  obtain ⟨B, hb, hRb, _, hlb, _⟩ := hB.raw
  exact Add_bad _ vb true _ [] B w ⟨_, rfl, .inl ⟨rfl, rfl⟩⟩ hb (by simp) (by omega) rfl

set_option maxRecDepth 100000 in
set_option maxHeartbeats 4000000 in
theorem awake_ok (w : World) (htab : Tab w) : Calls Tryd.prog 12 #[] w (BoolP true w) := by
  go_enter Tryd.func12, Tryd.ntmps12
  have hB0 := Below.refl w.heap.size w
  go_wp2_with fail
  refine (num_ok (65535) w (by decide) (by decide)).mono ?_
  rintro e w1 ⟨b1, p1, l1, c1, rfl, hO1, hb1⟩
  have hB1 : Below w.heap.size w w1 := hB0.trans (hb1.mono hB0.size)
  go_wp2_with fail
  refine (num_ok (1) w1 (by decide) (by decide)).mono ?_
  rintro e w2 ⟨b2, p2, l2, c2, rfl, hO2, hb2⟩
  have hB2 : Below w.heap.size w w2 := hB1.trans (hb2.mono hB1.size)
  have n1 := hO1.num.later hb2
  go_wp2_with fail
  refine ((show Calls Tryd.prog 24 _ _ (NumE 65536 _) from Add_fit _ _ 65535 1 w2 n1 hO2.num (cap_small (by decide)))).mono ?_
  rintro e w3 ⟨b3, p3, l3, c3, rfl, hO3, hb3⟩
  have hB3 : Below w.heap.size w w3 := hB2.trans (hb3.mono hB2.size)
  go_wp2_with fail
  obtain ⟨w4, hw4⟩ : ∃ x, x = (w3.alloc (.cells #[.bool b3, .slice p3 l3 c3] 24)) := ⟨_, rfl⟩
  rw [← hw4]
  have hb4 : Below w3.heap.size w3 w4 := by rw [hw4]; exact (Below.refl _ _).alloc (Nat.le_refl _) _
  have bxa : w4.heap[w3.heap.size]? = some (.cells #[.bool b3, .slice p3 l3 c3] 24) := by rw [hw4]; exact alloc_new _ _ rfl
  have hB4 : Below w.heap.size w w4 := hB3.trans (hb4.mono hB3.size)
  have HW4 := Lib.hid hw4
  clear hw4
  go_wp2_with fail
  refine (num_ok (7) w4 (by decide) (by decide)).mono ?_
  rintro e w5 ⟨b5, p5, l5, c5, rfl, hO5, hb5⟩
  have hB5 : Below w.heap.size w w5 := hB4.trans (hb5.mono hB4.size)
  go_wp2_with fail
  refine (num_ok (-2) w5 (by decide) (by decide)).mono ?_
  rintro e w6 ⟨b6, p6, l6, c6, rfl, hO6, hb6⟩
  have hB6 : Below w.heap.size w w6 := hB5.trans (hb6.mono hB5.size)
  have n5 := hO5.num.later hb6
  go_wp2_with fail
  refine (DivMod_fit _ _ (7) (-2) (-4) (-1) w6 n5 hO6.num (by decide) ⟨by decide, by decide, by decide⟩).mono ?_
  rintro e w7 ⟨b7, p7, l7, c7, b7x, p7x, l7x, c7x, rfl, hO7, hO7x, hb7⟩
  have hB7 : Below w.heap.size w w7 := hB6.trans (hb7.mono hB6.size)
  go_wp2_with fail
  obtain ⟨w8, hw8⟩ : ∃ x, x = ((w7.alloc (.cells #[.bool b7, .slice p7 l7 c7] 24)).alloc (.cells #[.bool b7x, .slice p7x l7x c7x] 24)) := ⟨_, rfl⟩
  rw [← hw8]
  have hb8 : Below w7.heap.size w7 w8 := by rw [hw8]; exact ((Below.refl _ _).alloc (Nat.le_refl _) _).alloc (by simp) _
  have bxq : w8.heap[w7.heap.size]? = some (.cells #[.bool b7, .slice p7 l7 c7] 24) := by rw [hw8]; exact alloc_old _ _ (alloc_new _ _ rfl)
  have bxr : w8.heap[w7.heap.size + 1]? = some (.cells #[.bool b7x, .slice p7x l7x c7x] 24) := by rw [hw8]; exact alloc_new _ _ (by rw [World.size_alloc])
  have hB8 : Below w.heap.size w w8 := hB7.trans (hb8.mono hB7.size)
  have HW8 := Lib.hid hw8
  clear hw8
  go_wp2_with fail
  refine (num_ok (-7) w8 (by decide) (by decide)).mono ?_
  rintro e w9 ⟨b9, p9, l9, c9, rfl, hO9, hb9⟩
  have hB9 : Below w.heap.size w w9 := hB8.trans (hb9.mono hB8.size)
  go_wp2_with fail
  refine (num_ok (2) w9 (by decide) (by decide)).mono ?_
  rintro e w10 ⟨b10, p10, l10, c10, rfl, hO10, hb10⟩
  have hB10 : Below w.heap.size w w10 := hB9.trans (hb10.mono hB9.size)
  have n9 := hO9.num.later hb10
  go_wp2_with fail
  refine (DivMod_fit _ _ (-7) (2) (-4) (1) w10 n9 hO10.num (by decide) ⟨by decide, by decide, by decide⟩).mono ?_
  rintro e w11 ⟨b11, p11, l11, c11, b11x, p11x, l11x, c11x, rfl, hO11, hO11x, hb11⟩
  have hB11 : Below w.heap.size w w11 := hB10.trans (hb11.mono hB10.size)
  go_wp2_with fail
  obtain ⟨w12, hw12⟩ : ∃ x, x = ((w11.alloc (.cells #[.bool b11, .slice p11 l11 c11] 24)).alloc (.cells #[.bool b11x, .slice p11x l11x c11x] 24)) := ⟨_, rfl⟩
  rw [← hw12]
  have hb12 : Below w11.heap.size w11 w12 := by rw [hw12]; exact ((Below.refl _ _).alloc (Nat.le_refl _) _).alloc (by simp) _
  have bxs : w12.heap[w11.heap.size]? = some (.cells #[.bool b11, .slice p11 l11 c11] 24) := by rw [hw12]; exact alloc_old _ _ (alloc_new _ _ rfl)
  have bxt : w12.heap[w11.heap.size + 1]? = some (.cells #[.bool b11x, .slice p11x l11x c11x] 24) := by rw [hw12]; exact alloc_new _ _ (by rw [World.size_alloc])
  have hB12 : Below w.heap.size w w12 := hB11.trans (hb12.mono hB11.size)
  have HW12 := Lib.hid hw12
  clear hw12
  go_wp2_with fail
  refine (num_ok (-7) w12 (by decide) (by decide)).mono ?_
  rintro e w13 ⟨b13, p13, l13, c13, rfl, hO13, hb13⟩
  have hB13 : Below w.heap.size w w13 := hB12.trans (hb13.mono hB12.size)
  go_wp2_with fail
  refine (num_ok (-2) w13 (by decide) (by decide)).mono ?_
  rintro e w14 ⟨b14, p14, l14, c14, rfl, hO14, hb14⟩
  have hB14 : Below w.heap.size w w14 := hB13.trans (hb14.mono hB13.size)
  have n13 := hO13.num.later hb14
  go_wp2_with fail
  refine (DivMod_fit _ _ (-7) (-2) (3) (-1) w14 n13 hO14.num (by decide) ⟨by decide, by decide, by decide⟩).mono ?_
  rintro e w15 ⟨b15, p15, l15, c15, b15x, p15x, l15x, c15x, rfl, hO15, hO15x, hb15⟩
  have hB15 : Below w.heap.size w w15 := hB14.trans (hb15.mono hB14.size)
  go_wp2_with fail
  obtain ⟨w16, hw16⟩ : ∃ x, x = ((w15.alloc (.cells #[.bool b15, .slice p15 l15 c15] 24)).alloc (.cells #[.bool b15x, .slice p15x l15x c15x] 24)) := ⟨_, rfl⟩
  rw [← hw16]
  have hb16 : Below w15.heap.size w15 w16 := by rw [hw16]; exact ((Below.refl _ _).alloc (Nat.le_refl _) _).alloc (by simp) _
  have bxu : w16.heap[w15.heap.size]? = some (.cells #[.bool b15, .slice p15 l15 c15] 24) := by rw [hw16]; exact alloc_old _ _ (alloc_new _ _ rfl)
  have bxv : w16.heap[w15.heap.size + 1]? = some (.cells #[.bool b15x, .slice p15x l15x c15x] 24) := by rw [hw16]; exact alloc_new _ _ (by rw [World.size_alloc])
  have hB16 : Below w.heap.size w w16 := hB15.trans (hb16.mono hB15.size)
  have HW16 := Lib.hid hw16
  clear hw16
  go_wp2_with fail
  refine (num_ok (-12) w16 (by decide) (by decide)).mono ?_
  rintro e w17 ⟨b17, p17, l17, c17, rfl, hO17, hb17⟩
  have hB17 : Below w.heap.size w w17 := hB16.trans (hb17.mono hB16.size)
  go_wp2_with fail
  refine (num_ok (18) w17 (by decide) (by decide)).mono ?_
  rintro e w18 ⟨b18, p18, l18, c18, rfl, hO18, hb18⟩
  have hB18 : Below w.heap.size w w18 := hB17.trans (hb18.mono hB17.size)
  have n17 := hO17.num.later hb18
  go_wp2_with fail
  refine ((show Calls Tryd.prog 14 _ _ (NumE 6 _) from Gcd_fit _ _ (-12) 18 w18 n17 hO18.num)).mono ?_
  rintro e w19 ⟨b19, p19, l19, c19, rfl, hO19, hb19⟩
  have hB19 : Below w.heap.size w w19 := hB18.trans (hb19.mono hB18.size)
  go_wp2_with fail
  obtain ⟨w20, hw20⟩ : ∃ x, x = (w19.alloc (.cells #[.bool b19, .slice p19 l19 c19] 24)) := ⟨_, rfl⟩
  rw [← hw20]
  have hb20 : Below w19.heap.size w19 w20 := by rw [hw20]; exact (Below.refl _ _).alloc (Nat.le_refl _) _
  have bxd : w20.heap[w19.heap.size]? = some (.cells #[.bool b19, .slice p19 l19 c19] 24) := by rw [hw20]; exact alloc_new _ _ rfl
  have hB20 : Below w.heap.size w w20 := hB19.trans (hb20.mono hB19.size)
  have HW20 := Lib.hid hw20
  clear hw20
  go_wp2_with fail
  refine (num_ok (-10) w20 (by decide) (by decide)).mono ?_
  rintro e w21 ⟨b21, p21, l21, c21, rfl, hO21, hb21⟩
  have hB21 : Below w.heap.size w w21 := hB20.trans (hb21.mono hB20.size)
  go_wp2_with fail
  refine (Text_m10 _ w21 hO21.num (htab.below' hB21)).mono ?_
  rintro e w22 ⟨rfl, hb22⟩
  have hB22 : Below w.heap.size w w22 := hB21.trans (hb22.mono hB21.size)
  go_wp2_with fail
  refine (Parse_007 _).mono ?_
  rintro e w23 ⟨rfl, hb23⟩
  have hB23 : Below w.heap.size w w23 := hB22.trans (hb23.mono hB22.size)
  go_wp2_with fail
  obtain ⟨w24, hw24⟩ : ∃ x, x = (w23.alloc (.cells #[.bool false, .slice none 0 0] 24)) := ⟨_, rfl⟩
  rw [← hw24]
  have hb24 : Below w23.heap.size w23 w24 := by rw [hw24]; exact (Below.refl _ _).alloc (Nat.le_refl _) _
  have bx_p : w24.heap[w23.heap.size]? = some (.cells #[.bool false, .slice none 0 0] 24) := by rw [hw24]; exact alloc_new _ _ rfl
  have hB24 : Below w.heap.size w w24 := hB23.trans (hb24.mono hB23.size)
  have HW24 := Lib.hid hw24
  clear hw24
  go_wp2_with fail
  refine (num_ok (1) w24 (by decide) (by decide)).mono ?_
  rintro e w25 ⟨b25, p25, l25, c25, rfl, hO25, hb25⟩
  have hB25 : Below w.heap.size w w25 := hB24.trans (hb25.mono hB24.size)
  go_wp2_with fail
  refine (Add_neg _ 1 w25 hO25.num).mono ?_
  rintro e w26 ⟨rfl, hb26⟩
  have hB26 : Below w.heap.size w w26 := hB25.trans (hb26.mono hB25.size)
  go_wp2_with fail
  obtain ⟨w27, hw27⟩ : ∃ x, x = (w26.alloc (.cells #[.bool false, .slice none 0 0] 24)) := ⟨_, rfl⟩
  rw [← hw27]
  have hb27 : Below w26.heap.size w26 w27 := by rw [hw27]; exact (Below.refl _ _).alloc (Nat.le_refl _) _
  have bx_m : w27.heap[w26.heap.size]? = some (.cells #[.bool false, .slice none 0 0] 24) := by rw [hw27]; exact alloc_new _ _ rfl
  have hB27 : Below w.heap.size w w27 := hB26.trans (hb27.mono hB26.size)
  have HW27 := Lib.hid hw27
  clear hw27
  have D27 := Below.refl w27.heap.size w27
  have D26 : Below w26.heap.size w26 w27 := hb27.trans (D27.mono hb27.size)
  have D25 : Below w25.heap.size w25 w27 := hb26.trans (D26.mono hb26.size)
  have D24 : Below w24.heap.size w24 w27 := hb25.trans (D25.mono hb25.size)
  have D23 : Below w23.heap.size w23 w27 := hb24.trans (D24.mono hb24.size)
  have D22 : Below w22.heap.size w22 w27 := hb23.trans (D23.mono hb23.size)
  have D21 : Below w21.heap.size w21 w27 := hb22.trans (D22.mono hb22.size)
  have D20 : Below w20.heap.size w20 w27 := hb21.trans (D21.mono hb21.size)
  have D19 : Below w19.heap.size w19 w27 := hb20.trans (D20.mono hb20.size)
  have D18 : Below w18.heap.size w18 w27 := hb19.trans (D19.mono hb19.size)
  have D17 : Below w17.heap.size w17 w27 := hb18.trans (D18.mono hb18.size)
  have D16 : Below w16.heap.size w16 w27 := hb17.trans (D17.mono hb17.size)
  have D15 : Below w15.heap.size w15 w27 := hb16.trans (D16.mono hb16.size)
  have D14 : Below w14.heap.size w14 w27 := hb15.trans (D15.mono hb15.size)
  have D13 : Below w13.heap.size w13 w27 := hb14.trans (D14.mono hb14.size)
  have D12 : Below w12.heap.size w12 w27 := hb13.trans (D13.mono hb13.size)
  have D11 : Below w11.heap.size w11 w27 := hb12.trans (D12.mono hb12.size)
  have D10 : Below w10.heap.size w10 w27 := hb11.trans (D11.mono hb11.size)
  have D9 : Below w9.heap.size w9 w27 := hb10.trans (D10.mono hb10.size)
  have D8 : Below w8.heap.size w8 w27 := hb9.trans (D9.mono hb9.size)
  have D7 : Below w7.heap.size w7 w27 := hb8.trans (D8.mono hb8.size)
  have D6 : Below w6.heap.size w6 w27 := hb7.trans (D7.mono hb7.size)
  have D5 : Below w5.heap.size w5 w27 := hb6.trans (D6.mono hb6.size)
  have D4 : Below w4.heap.size w4 w27 := hb5.trans (D5.mono hb5.size)
  have D3 : Below w3.heap.size w3 w27 := hb4.trans (D4.mono hb4.size)
  have D2 : Below w2.heap.size w2 w27 := hb3.trans (D3.mono hb3.size)
  have D1 : Below w1.heap.size w1 w27 := hb2.trans (D2.mono hb2.size)
  have cxa : w27.heap[w3.heap.size]? = some (.cells #[.bool b3, .slice p3 l3 c3] 24) := (D4.block _ (Array.getElem?_eq_some_iff.1 bxa).1).trans bxa
  have nxa := hO3.num.later D3
  have cxq : w27.heap[w7.heap.size]? = some (.cells #[.bool b7, .slice p7 l7 c7] 24) := (D8.block _ (Array.getElem?_eq_some_iff.1 bxq).1).trans bxq
  have nxq := hO7.num.later D7
  have cxr : w27.heap[w7.heap.size + 1]? = some (.cells #[.bool b7x, .slice p7x l7x c7x] 24) := (D8.block _ (Array.getElem?_eq_some_iff.1 bxr).1).trans bxr
  have nxr := hO7x.num.later D7
  have cxs : w27.heap[w11.heap.size]? = some (.cells #[.bool b11, .slice p11 l11 c11] 24) := (D12.block _ (Array.getElem?_eq_some_iff.1 bxs).1).trans bxs
  have nxs := hO11.num.later D11
  have cxt : w27.heap[w11.heap.size + 1]? = some (.cells #[.bool b11x, .slice p11x l11x c11x] 24) := (D12.block _ (Array.getElem?_eq_some_iff.1 bxt).1).trans bxt
  have nxt := hO11x.num.later D11
  have cxu : w27.heap[w15.heap.size]? = some (.cells #[.bool b15, .slice p15 l15 c15] 24) := (D16.block _ (Array.getElem?_eq_some_iff.1 bxu).1).trans bxu
  have nxu := hO15.num.later D15
  have cxv : w27.heap[w15.heap.size + 1]? = some (.cells #[.bool b15x, .slice p15x l15x c15x] 24) := (D16.block _ (Array.getElem?_eq_some_iff.1 bxv).1).trans bxv
  have nxv := hO15x.num.later D15
  have cxd : w27.heap[w19.heap.size]? = some (.cells #[.bool b19, .slice p19 l19 c19] 24) := (D20.block _ (Array.getElem?_eq_some_iff.1 bxd).1).trans bxd
  have nxd := hO19.num.later D19
  clear bxa bxq bxr bxs bxt bxu bxv bxd bx_p bx_m
  have E27 := Below.refl w27.heap.size w27
  refine (num_ok (-65537) w27 (by decide) (by decide)).mono ?_
  rintro e w28 ⟨b28, p28, l28, c28, rfl, hO28, hb28⟩
  have E28 : Below w27.heap.size w27 w28 := E27.trans (hb28.mono E27.size)
  go_wp2_with fail
  refine (is_ok _ (-65537) (-65537) w28 hO28.num (by decide) (by decide)).mono ?_
  rintro e w29 ⟨rfl, hb29⟩
  have E29 : Below w27.heap.size w27 w29 := E28.trans (hb29.mono E28.size)
  rw [show decide ((-65537 : Int) = -65537) = true from rfl]
  have dx := (E29.block _ (Array.getElem?_eq_some_iff.1 cxa).1).trans cxa
  have d0 := cell_of dx 0 rfl
  have d1 := cell_of dx 1 rfl
  clear dx
  go_wp2_with fail
  clear d0 d1
  refine (is_ok _ (65536) (65536) w29 (nxa.later E29) (by decide) (by decide)).mono ?_
  rintro e w30 ⟨rfl, hb30⟩
  have E30 : Below w27.heap.size w27 w30 := E29.trans (hb30.mono E29.size)
  rw [show decide ((65536 : Int) = 65536) = true from rfl]
  have dx := (E30.block _ (Array.getElem?_eq_some_iff.1 cxq).1).trans cxq
  have d0 := cell_of dx 0 rfl
  have d1 := cell_of dx 1 rfl
  clear dx
  go_wp2_with fail
  clear d0 d1
  refine (is_ok _ (-4) (-4) w30 (nxq.later E30) (by decide) (by decide)).mono ?_
  rintro e w31 ⟨rfl, hb31⟩
  have E31 : Below w27.heap.size w27 w31 := E30.trans (hb31.mono E30.size)
  rw [show decide ((-4 : Int) = -4) = true from rfl]
  have dx := (E31.block _ (Array.getElem?_eq_some_iff.1 cxr).1).trans cxr
  have d0 := cell_of dx 0 rfl
  have d1 := cell_of dx 1 rfl
  clear dx
  go_wp2_with fail
  clear d0 d1
  refine (is_ok _ (-1) (-1) w31 (nxr.later E31) (by decide) (by decide)).mono ?_
  rintro e w32 ⟨rfl, hb32⟩
  have E32 : Below w27.heap.size w27 w32 := E31.trans (hb32.mono E31.size)
  rw [show decide ((-1 : Int) = -1) = true from rfl]
  have dx := (E32.block _ (Array.getElem?_eq_some_iff.1 cxs).1).trans cxs
  have d0 := cell_of dx 0 rfl
  have d1 := cell_of dx 1 rfl
  clear dx
  go_wp2_with fail
  clear d0 d1
  refine (is_ok _ (-4) (-4) w32 (nxs.later E32) (by decide) (by decide)).mono ?_
  rintro e w33 ⟨rfl, hb33⟩
  have E33 : Below w27.heap.size w27 w33 := E32.trans (hb33.mono E32.size)
  rw [show decide ((-4 : Int) = -4) = true from rfl]
  have dx := (E33.block _ (Array.getElem?_eq_some_iff.1 cxt).1).trans cxt
  have d0 := cell_of dx 0 rfl
  have d1 := cell_of dx 1 rfl
  clear dx
  go_wp2_with fail
  clear d0 d1
  refine (is_ok _ (1) (1) w33 (nxt.later E33) (by decide) (by decide)).mono ?_
  rintro e w34 ⟨rfl, hb34⟩
  have E34 : Below w27.heap.size w27 w34 := E33.trans (hb34.mono E33.size)
  rw [show decide ((1 : Int) = 1) = true from rfl]
  have dx := (E34.block _ (Array.getElem?_eq_some_iff.1 cxu).1).trans cxu
  have d0 := cell_of dx 0 rfl
  have d1 := cell_of dx 1 rfl
  clear dx
  go_wp2_with fail
  clear d0 d1
  refine (is_ok _ (3) (3) w34 (nxu.later E34) (by decide) (by decide)).mono ?_
  rintro e w35 ⟨rfl, hb35⟩
  have E35 : Below w27.heap.size w27 w35 := E34.trans (hb35.mono E34.size)
  rw [show decide ((3 : Int) = 3) = true from rfl]
  have dx := (E35.block _ (Array.getElem?_eq_some_iff.1 cxv).1).trans cxv
  have d0 := cell_of dx 0 rfl
  have d1 := cell_of dx 1 rfl
  clear dx
  go_wp2_with fail
  clear d0 d1
  refine (is_ok _ (-1) (-1) w35 (nxv.later E35) (by decide) (by decide)).mono ?_
  rintro e w36 ⟨rfl, hb36⟩
  have E36 : Below w27.heap.size w27 w36 := E35.trans (hb36.mono E35.size)
  rw [show decide ((-1 : Int) = -1) = true from rfl]
  have dx := (E36.block _ (Array.getElem?_eq_some_iff.1 cxd).1).trans cxd
  have d0 := cell_of dx 0 rfl
  have d1 := cell_of dx 1 rfl
  clear dx
  go_wp2_with fail
  clear d0 d1
  refine (is_ok _ (6) (6) w36 (nxd.later E36) (by decide) (by decide)).mono ?_
  rintro e w37 ⟨rfl, hb37⟩
  have E37 : Below w27.heap.size w27 w37 := E36.trans (hb37.mono E36.size)
  rw [show decide ((6 : Int) = 6) = true from rfl]
  go_wp2
  go_ret
  exact ⟨rfl, hB27.trans (E37.mono hB27.size)⟩

end Go.Proofs.YtbaiohjladddlaaDoor
