import Derived.Test.YtihdbjilolmfiaaGreatDoorD20
import Derived.Test.YtihdbjilolmfiaaGreatDoorD16
import Derived.Test.YtihdbjilolmfiaaGreatDoorD01
set_option maxRecDepth 100000
set_option maxHeartbeats 4000000
namespace Go.Proofs.YtihdbjilolmfiaaGreatDoor
open Go.RowKit Go.WM Go.WR
attribute [local go_sem] Oper.semAt_some
theorem ret_bool {a b : Bool} (h : a = b) : Ending.returned (.bool a) = .returned (.bool b) := by rw [h]
theorem byte_at {s : ByteArray} {k : Nat} (h : k < s.size) : ∃ h' : k < s.data.toList.length, s.data.toList[k] = s[k] := ⟨by simpa using h, rfl⟩
theorem decimal_any (s : ByteArray) (w : World) (hs : s.size ≤ 9223372036854775806) : Calls Tryz.prog 150 #[.string s] w fun e w' => e = .returned (.bool (decOK s.data.toList)) ∧ w = w' := by
 go_enter Tryz.func150, Tryz.ntmps150
 go_wp2
 go_loop [6] (fun i => ∃ k : Nat, k ≤ s.size ∧ i = .int .i64 k ∧ ((s.data.toList.take k).all isDig) = true) (fun i => s.size - (intOf i).toNat)
 case atStart => exact ⟨0, Nat.zero_le _, rfl, by simp⟩
 case round =>
  obtain ⟨k, hk, rfl, hall⟩ := hrel
  have HALL := Lib.hid hall
  clear hall
  by_cases hlt : k < s.size
  · go_wp2
    · have h : (s[k].toNat : Int) < 48 ∨ 57 < (s[k].toNat : Int) := by assumption
      go_ret
      obtain ⟨h', e⟩ := byte_at hlt
      have hd : isDig s.data.toList[k] = false := by
       rw [e]; unfold isDig
       rcases h with h | h
       · rw [decide_eq_false (by omega), Bool.false_and]
       · rw [decide_eq_false (p := s[k].toNat ≤ 57) (by omega), Bool.and_false]
      exact ⟨ret_bool (decOK_bad h' hd).symm, rfl⟩
    · have h : 48 ≤ (s[k].toNat : Int) ∧ (s[k].toNat : Int) ≤ 57 := by assumption
      obtain ⟨h', e⟩ := byte_at hlt
      have hd : isDig s.data.toList[k] = true := by
       rw [e]; unfold isDig
       rw [decide_eq_true (by omega), decide_eq_true (by omega)]; rfl
      go_round
      case rel => exact ⟨k + 1, by omega, by go_num, all_snoc h' HALL.out hd⟩
      case measure => simp [intOf]; omega
    · have h : (s[k].toNat : Int) < 48 := by assumption
      go_ret
      obtain ⟨h', e⟩ := byte_at hlt
      have hd : isDig s.data.toList[k] = false := by
       rw [e]; unfold isDig
       rw [decide_eq_false (by omega), Bool.false_and]
      exact ⟨ret_bool (decOK_bad h' hd).symm, rfl⟩
  · have HALL' : Hid (s.data.toList.all isDig = true) := by
     have := HALL.out
     rw [List.take_of_length_le (by simp; omega)] at this
     exact Lib.hid this
    go_wp2
    · have h : s.toList = [48] := by assumption
      go_ret
      refine ⟨ret_bool ?_, rfl⟩
      rw [ByteArray.toList_eq] at h
      rw [decOK_all HALL'.out, decide_eq_true h]; rfl
    · have h : s.toList = [] := by assumption
      go_ret
      refine ⟨ret_bool ?_, rfl⟩
      rw [ByteArray.toList_eq] at h
      rw [h]; rfl
    · have h1 : ¬ s.toList = [48] := by assumption
      have h2 : ¬ s.toList = [] := by assumption
      have h0 : 0 < s.size := by assumption
      go_ret
      refine ⟨ret_bool ?_, rfl⟩
      rw [ByteArray.toList_eq] at h1 h2 ⊢
      rw [decOK_all HALL'.out, decide_eq_false h1]
      obtain ⟨h', e⟩ := byte_at h0
      have hb : (s.data.toList == [48]) = false := beq_eq_false_iff_ne.2 h1
      rw [hb]
      have hh : s.data.toList.head? = some s[0] := by
       rw [List.head?_eq_getElem?, List.getElem?_eq_getElem h', e]
      rw [hh]
      have e3 : ((s[0].toNat : Int) != 48) = !decide (some s[0] = some (48 : UInt8)) := by
       by_cases hc : s[0] = 48
       · rw [hc]; rfl
       · have : s[0].toNat ≠ 48 := fun h => hc (UInt8.toNat_inj.1 (by simpa using h))
         rw [decide_eq_false (by simpa using hc)]
         simp; omega
      rw [e3]
    · have h2 : ¬ s.toList = [] := by assumption
      have h0 : ¬ 0 < s.size := by assumption
      rw [ByteArray.toList_eq] at h2
      have hl : s.data.toList.length = s.size := by simp
      exact absurd (List.length_eq_zero_iff.1 (show s.data.toList.length = 0 by omega)) h2
def pneg (T : List UInt8) : Bool := Lib.hasPrefix T [45]
def pbody (T : List UInt8) : List UInt8 := Lib.trimPrefix T [45]
def parseOK (T : List UInt8) : Bool := decOK (pbody T) && !(pneg T && decide (pbody T = [48]))
def parseZ (T : List UInt8) : Int := sgn (pneg T) (dv (pbody T))
theorem pbody_len (T : List UInt8) : (pbody T).length ≤ T.length := by
 unfold pbody Lib.trimPrefix
 split
 · rw [List.length_drop]; omega
 · exact Nat.le_refl _
theorem pow10_le (n : Nat) : 10 ^ n ≤ 65536 ^ n := Nat.pow_le_pow_left (by decide) n
theorem rep_dec_len {X : List Int} {l : List UInt8} (hX : Rep X (dv l)) (hl : l.all isDig = true) : X.length ≤ l.length := by
 rw [hX.len_le_iff]
 have h1 := dv_lt l hl
 have h2 := pow10_le l.length
 have e : ((65536 ^ l.length : Nat) : Int) = (65536 : Int) ^ l.length := by rw [Int.natCast_pow]; rfl
 rw [← e]
 omega
theorem dec_all {l : List UInt8} (h : decOK l = true) : l.all isDig = true := by
 unfold decOK at h
 rw [Bool.and_eq_true] at h
 exact h.1
theorem dec_ne {l : List UInt8} (h : decOK l = true) : l ≠ [] := by
 rintro rfl; revert h; decide
theorem pow_nDigits (u : Nat) (h : 0 < u) : 10 ^ (Lib.nDigits u - 1) ≤ u := by
 induction u using Nat.strongRecOn with
 | _ u ih =>
  by_cases hs : u < 10
  · rw [Lib.nDigits_small hs]; simp; omega
  · rw [Lib.nDigits_big hs, Nat.add_sub_cancel]
    have h1 := ih (u / 10) (by omega) (by omega)
    have h2 := Lib.nDigits_pos (u / 10)
    have e : Lib.nDigits (u / 10) = (Lib.nDigits (u / 10) - 1) + 1 := by omega
    rw [e, Nat.pow_succ]
    omega
theorem dec_long_gen {l : List UInt8} (h : decOK l = true) (m : Nat) (hm : 1 ≤ m) (hl : 5 * m < l.length) : 65536 ^ m ≤ dv l := by
 have h1 := decOK_unique l h
 have h2 := Lib.decDigits_length (dv l)
 rw [h1] at h2
 have h0 : 0 < dv l := by
  rcases Nat.eq_zero_or_pos (dv l) with e | e
  · rw [e, Lib.nDigits_small (by omega)] at h2; omega
  · exact e
 have h3 := pow_nDigits (dv l) h0
 have h4 : 10 ^ (5 * m) ≤ 10 ^ (Lib.nDigits (dv l) - 1) := Nat.pow_le_pow_right (by omega) (by omega)
 exact Nat.le_trans (p5 m) (Nat.le_trans h4 h3)
theorem dec_long {l : List UInt8} (h : decOK l = true) (hl : 5120 < l.length) : Cap ≤ (dv l : Int) := by
 have h1 := dec_long_gen h 1024 (by omega) (by omega)
 rw [Cap.eq, ← np65]
 exact Int.ofNat_le.2 h1
theorem cap_sgn {neg : Bool} {n : Nat} (h : Cap ≤ (n : Int)) : Cap ≤ ((sgn neg n).natAbs : Int) := by
 cases neg
 · rw [sgn_false]; omega
 · rw [sgn_true]; omega
theorem dv_chunk {pre ch : List UInt8} (h : pre = [] ∨ ch.length = 4) : dv (pre ++ ch) = dv pre * 10000 + dv ch := by
 rw [dv_append]
 rcases h with rfl | h
 · rw [dv_nil]; simp
 · rw [h]
def ParsePost (T : List UInt8) (w : World) (e : Ending) (w' : World) : Prop :=
 (parseOK T = true ∧ FitPost w.heap.size (parseZ T) w e w') ∨ (parseOK T = false ∧ e = .returned (.tuple #[zeroW, .int .i64 10]) ∧ Below w.heap.size w w')
theorem cutp (text s : ByteArray) (neg : Bool) (w : World) (hs : s.data.toList = pbody text.data.toList) (hn : neg = pneg text.data.toList) :
 Calls Tryz.prog 149 #[.string text, .string ⟨#[45]⟩] w fun e w' => e = .returned (.tuple #[.string s, .bool neg]) ∧ w = w' := by
 refine (Tryz.strings_CutPrefix text ⟨#[45]⟩ w).mono ?_
 rintro e w' ⟨rfl, rfl⟩
 refine ⟨?_, rfl⟩
 rw [hn, show s = ⟨(pbody text.data.toList).toArray⟩ by rw [← hs]]
 rfl
theorem rep_tenk : Rep [10000] 10000 := ⟨Lm.cons (by decide) Lm.nil, Nz.of_last (by decide), rfl⟩
theorem atoi_c (s : ByteArray) (g : Int) (w : World) (hl : s.size ≤ 18) (h : Lib.atoi s.data.toList = some g) :
 Calls Tryz.prog 151 #[.string s] w fun e w' => e = .returned (.tuple #[.int .i64 g, .nilIface]) ∧ Below w.heap.size w w' := by
 refine (Tryz.strconv_Atoi s g hl h w).mono ?_
 rintro e w' ⟨rfl, t, rfl⟩
 exact ⟨rfl, Lib.bytesWorld_below w 5 t⟩
theorem mul_len {X Z : List Int} {n : Int} (hX : Rep X n) (hZ : Rep Z (n * 10000)) (hl : X.length ≤ 5120) : Z.length ≤ 5122 := by
 have h : Z.length ≤ X.length + 1 := by
  rw [hZ.len_le_iff, Int.pow_succ]
  have h1 := hX.len_lt
  have h0 := hX.nonneg
  generalize (65536 : Int) ^ X.length = p at *
  omega
 omega
theorem Parse_main (text : ByteArray) (w : World) (ht : text.size ≤ 9223372036854775806) : Calls Tryz.prog 102 #[.string text] w (ParsePost text.data.toList w) := by
 obtain ⟨s, hs⟩ : ∃ s : ByteArray, s.data.toList = pbody text.data.toList := ⟨⟨(pbody text.data.toList).toArray⟩, by simp⟩
 obtain ⟨neg, hn⟩ : ∃ neg, neg = pneg text.data.toList := ⟨_, rfl⟩
 have hsz : s.size ≤ 9223372036854775806 := by
  have := pbody_len text.data.toList
  rw [← hs] at this
  simp at this
  omega
 have HS := Lib.hid hs
 have HN := Lib.hid hn
 clear hs hn
 go_enter Tryz.func102, Tryz.ntmps102
 go_wp2_with (first | (go_at_call 149; refine (cutp text s neg _ HS.out HN.out).mono ?_; rintro e w1 ⟨rfl, rfl⟩) | (go_at_call 150; refine (decimal_any s _ hsz).mono ?_; rintro e w1 ⟨rfl, rfl⟩))
 -- the ways
 · have hdec : decOK s.data.toList = true := by assumption
   have hneg : neg = true := by assumption
   have h48 : (s.toList == [48]) = true := by assumption
   refine bodyPost_ret (v := .tuple #[zeroW, .int .i64 10]) (by simp [results, Tryz.results102, go_sem, zeroW]) rfl (.inr ⟨?_, rfl, ?_⟩)
   · unfold parseOK
     rw [← HS.out, ← HN.out, hdec, hneg]
     rw [ByteArray.toList_eq] at h48
     rw [eq_of_beq h48]; rfl
   · exact (Below.refl _ w).alloc (Nat.le_refl _) _
 · have hdec : decOK s.data.toList = true := by assumption
   have hneg : neg = true := by assumption
   have h48 : (s.toList == [48]) = false := by assumption
   have hlong : 5120 < (s.size : Int) := by assumption
   refine bodyPost_ret (v := .tuple #[zeroW, .int .i64 3]) (by simp [results, Tryz.results102, go_sem, zeroW]) rfl (.inl ⟨?_, false, none, 0, 0, 3, rfl, .inr ⟨?_, rfl, rfl⟩, ?_⟩)
   · unfold parseOK
     rw [← HS.out, ← HN.out, hdec, hneg]
     rw [ByteArray.toList_eq] at h48
     rw [decide_eq_false (beq_eq_false_iff_ne.1 h48)]; rfl
   · have h := dec_long hdec (by have : s.data.toList.length = s.size := by simp
                                 omega)
     unfold parseZ
     rw [← HN.out, ← HS.out]
     exact cap_sgn h
   · exact (Below.refl _ w).alloc (Nat.le_refl _) _
 · have hdec : decOK s.data.toList = true := by assumption
   have hle : s.size ≤ 5120 := by have : (s.size : Int) ≤ 5120 := by assumption
                                  omega
   have hs1 : ((w.alloc (.cells #[.bool false, .slice none 0 0] 24)).heap.size) = w.heap.size + 1 := by simp
   obtain ⟨w1, hw1⟩ : ∃ w1, w1 = w.alloc (.cells #[.bool false, .slice none 0 0] 24) := ⟨_, rfl⟩
   rw [← hw1] at hs1 ⊢
   have hB1 : Below w.heap.size w w1 := by rw [hw1]; exact (Below.refl _ w).alloc (Nat.le_refl _) _
   have q0 : w1.heap[w.heap.size]? = some (.cells #[.bool false, .slice none 0 0] 24) := by rw [hw1]; exact alloc_new _ _ rfl
   clear hw1
   have hall := dec_all hdec
   have hne := dec_ne hdec
   have hneg : neg = true := by assumption
   have h48' : (s.toList == [48]) = false := by assumption
   simp only [h48']
   have h48 : decide (s.data.toList = [48]) = false := by
    have h := h48'
    rw [ByteArray.toList_eq] at h
    rw [decide_eq_false_iff_not]; exact beq_eq_false_iff_ne.1 h
   have HALL := Lib.hid hall
   have HDEC := Lib.hid hdec
   clear hall hdec
   go_loopw [4, 6] (fun sv lv wr => ∃ (t : ByteArray) (pre : List UInt8) (X : List Int) (pl : Option Addr) (ll cl : Nat), sv = .string t ∧ lv = .slice pl ll cl ∧ s.data.toList = pre ++ t.data.toList ∧ (pre = [] ∨ 4 ∣ t.size) ∧ Rep X (dv pre) ∧ Own16 w.heap.size wr (.slice pl ll cl) X ∧ Below w1.heap.size w1 wr) (fun sv _ _ => match sv with | .string t => t.size | _ => 0)
   case atStart => exact ⟨s, [], [], none, 0, 0, rfl, rfl, rfl, .inl rfl, Rep.nil, ⟨rfl, .inl ⟨rfl, rfl⟩⟩, Below.refl _ _⟩
   case round =>
    obtain ⟨t, pre, X, pl, ll, cl, rfl, rfl, hcut, hfour, hR, hO, hBr⟩ := hrel
    have hts : t.size ≤ 5120 := by
     have h1 := congrArg List.length hcut
     rw [List.length_append] at h1
     have e1 : s.data.toList.length = s.size := by simp
     have e2 : t.data.toList.length = t.size := by simp
     omega
    have HCUT := Lib.hid hcut
    clear hcut
    by_cases h0 : 1 ≤ t.size
    · have hx1 : t.toList.isEmpty = false := by
       rw [ByteArray.toList_eq, List.isEmpty_eq_false_iff]
       intro h
       have e2 : t.data.toList.length = t.size := by simp
       rw [h] at e2; simp at e2; omega
      obtain ⟨nn, hnn⟩ : ∃ nn : Nat, nn = (t.size - 1) % 4 + 1 := ⟨_, rfl⟩
      have hn1 : 1 ≤ nn := by omega
      have hn4 : nn ≤ 4 := by omega
      have hnt : nn ≤ t.size := by omega
      obtain ⟨ch, hch⟩ : ∃ ch, ch = t.data.toList.take nn := ⟨_, rfl⟩
      have hlt : t.data.toList.length = t.size := by simp
      have hchl : ch.length = nn := by rw [hch, List.length_take]; omega
      have e1 : (t.extract 0 nn).data.toList = ch := by rw [hch, Lib.extract_data]; simp
      have hsplit : t.data.toList = ch ++ (t.extract nn t.size).data.toList := by rw [Lib.extract_data, hch, List.take_of_length_le (l := t.data.toList.drop nn) (by rw [List.length_drop]; omega), List.take_append_drop]
      have hall := HALL.out
      rw [HCUT.out, List.all_append, Bool.and_eq_true] at hall
      obtain ⟨hall1, hall2⟩ := hall
      rw [hsplit, List.all_append, Bool.and_eq_true] at hall2
      obtain ⟨hall3, hall4⟩ := hall2
      have hg0 := dv_lt ch hall3
      have hg : dv ch < 10000 := by
       have : 10 ^ ch.length ≤ 10 ^ 4 := Nat.pow_le_pow_right (by omega) (by omega)
       omega
      have hat := atoi_all ch (by intro h; rw [h] at hchl; simp at hchl; omega) hall3
      have hfour' : pre = [] ∨ ch.length = 4 := by
       rcases hfour with h | h
       · exact .inl h
       · right; omega
      have hdv := dv_chunk hfour'
      have hX5 : X.length ≤ 5120 := by
       have h1 := rep_dec_len hR hall1
       have h2 := congrArg List.length HCUT.out
       rw [List.length_append] at h2
       have h3 : s.data.toList.length = s.size := by simp
       omega
      have hrest : 4 ∣ (t.extract nn t.size).size := by
       have h2 := congrArg List.length hsplit
       rw [List.length_append] at h2
       have h3 : (t.extract nn t.size).data.toList.length = (t.extract nn t.size).size := by simp
       omega
      have hrl : (t.extract nn t.size).size < t.size := by
       have h2 := congrArg List.length hsplit
       rw [List.length_append] at h2
       have h3 : (t.extract nn t.size).data.toList.length = (t.extract nn t.size).size := by simp
       omega
      obtain ⟨g, hgd⟩ : ∃ g : Int, g = (dv ch : Int) := ⟨_, rfl⟩
      have hgl : 0 ≤ g := by omega
      have hgu : g ≤ 9999 := by omega
      have hcut2 : s.data.toList = (pre ++ ch) ++ (t.extract nn t.size).data.toList := by rw [HCUT.out, List.append_assoc, ← hsplit]
      have hdz : ((dv (pre ++ ch) : Nat) : Int) = (dv pre : Int) * 10000 + g := by rw [hdv, hgd]; simp
      have hat : Lib.atoi (t.extract 0 nn).data.toList = some g := by rw [e1, hgd]; exact hat
      have hsz18 : (t.extract 0 nn).size ≤ 18 := by
       have h3 : (t.extract 0 nn).data.toList.length = (t.extract 0 nn).size := by simp
       rw [e1] at h3; omega
      have HAT := Lib.hid hat
      have HNN := Lib.hid hnn
      have HC2 := Lib.hid hcut2
      have HDZ := Lib.hid hdz
      have hsr1 := hBr.size
      have hsr : w.heap.size + 1 ≤ wr.heap.size := by omega
      have hRt : Rep (trim [g]) g := by
       have := trim_rep (Lm.cons (x := g) ⟨hgl, by omega⟩ Lm.nil)
       simpa [val] using this
      have hlt1 : (trim [g]).length ≤ 1 := by obtain ⟨k, hk, e⟩ := trim_prefix [g]; rw [e, List.length_take]; simp at hk ⊢; omega
      clear hat hnn hcut2 hdz hall1 hall3 hall4 hg0 hg hsplit hchl e1 hch hlt hfour' hdv hgd hfour hs1
      go_wp2_with (first | (go_at_call 151; rw [← HNN.out]; refine (atoi_c (t.extract 0 nn) g wr hsz18 HAT.out).mono ?_; rintro e w2 ⟨rfl, hb2⟩; have hO2 := hO.below hb2; have z2 := hb2.size; have hs2 : w.heap.size + 1 ≤ w2.heap.size := (by omega)) | (go_at_call 97; refine (mul_any _ _ X [10000] _ 10000 _ hR rep_tenk (by omega) (by simp) ((hO2.alloc _).lims) ((made_one w2 w.heap.size 10000 (by omega)).lims)).mono ?_; rintro e w3 ⟨v3, Z3, rfl, hO3, hR3, hb3⟩; obtain ⟨p3, l3, c3, rfl⟩ := hO3.shape; have hs3 : w2.heap.size + 1 ≤ w3.heap.size := (by have := hb3.size; simpa using this); have hZ3 : Z3.length ≤ 5122 := mul_len hR hR3 hX5) | (go_at_call 137; refine (trimmed_own w3.heap.size _ [g] _ (by simp) (made_one w3 w3.heap.size g (Nat.le_refl _))).mono ?_; rintro e w4 ⟨v4, rfl, hO4, rfl⟩; obtain ⟨p4, l4, c4, rfl⟩ := hO4.shape) | (go_at_call 127; refine (add_any _ _ Z3 (trim [g]) _ g _ hR3 hRt (by omega) (by omega) ((hO3.alloc _).lims) hO4.lims).mono ?_; rintro e w5 ⟨v5, Z5, rfl, hO5, hR5, hb5⟩; obtain ⟨p5, l5, c5, rfl⟩ := hO5.shape))
      go_roundw
      case rel =>
       refine ⟨_, pre ++ ch, Z5, p5, l5, c5, rfl, rfl, by rw [← HNN.out]; exact HC2.out, .inr (by rw [← HNN.out]; exact hrest), by rw [HDZ.out]; exact hR5, hO5.mono (by simp; omega), ?_⟩
       have y1 : Below w1.heap.size w1 w2 := hBr.trans (hb2.mono hsr1)
       have y2 := y1.alloc (by omega) (.cells #[.int .u16 10000] 48)
       have y3 : Below w1.heap.size w1 w3 := y2.trans (hb3.mono (by simp; omega))
       have y4 := y3.alloc (by omega) (.cells #[.int .u16 g] 48)
       exact y4.trans (hb5.mono (by simp; omega))
      case measure =>
       show (t.extract ((t.size - 1) % 4 + 1) t.size).size < t.size
       rw [← HNN.out]; exact hrl
    · have ht0 : t.data.toList = [] := by
       have e2 : t.data.toList.length = t.size := by simp
       exact List.length_eq_zero_iff.1 (by omega)
      have hx1 : t.toList.isEmpty = true := by rw [ByteArray.toList_eq, ht0]; rfl
      have hpre : s.data.toList = pre := by have := HCUT.out; rw [ht0, List.append_nil] at this; exact this
      rw [← hpre] at hR
      have hX5 : X.length ≤ 5120 := by
       have h1 := rep_dec_len hR HALL.out
       have h3 : s.data.toList.length = s.size := by simp
       omega
      have hsr : w.heap.size + 1 ≤ wr.heap.size := by have := hBr.size; omega
      have r0 := (hBr.block _ (show w.heap.size < w1.heap.size by omega)).trans q0
      have hok : parseOK text.data.toList = true := by
       unfold parseOK
       rw [← HS.out, HDEC.out, ← HN.out, hneg, h48]
       rfl
      have HOK := Lib.hid hok
      clear hok hpre ht0 hfour
      go_wp2_with (go_at_call 96; refine (made_any true _ X _ w.heap.size wr hR hO (by omega)).mono ?_; rintro e w2 ⟨bb, p2, l2, c2, er, rfl, hfit, hb2⟩; have r1 := (hb2.block _ (show w.heap.size < wr.heap.size by omega)).trans r0; have d0 := cell_of r1 0 rfl; have d1 := cell_of r1 1 rfl; have f0 := frozen_of r1 0; have f1 := frozen_of r1 1)
      obtain ⟨t0, t1⟩ := put2_cell r1 (.bool bb) (.slice p2 l2 c2)
      refine bodyPost_ret (v := .tuple #[.agg #[.bool bb, .slice p2 l2 c2], .int .i64 er]) (by simp [results, Tryz.results102, go_sem, show (w2.setCell ⟨w.heap.size, 0, none⟩ (.bool bb)).setCell ⟨w.heap.size, 1, none⟩ (.slice p2 l2 c2) = put2 w2 w.heap.size (.bool bb) (.slice p2 l2 c2) from rfl, t0, t1]) rfl (.inl ⟨HOK.out, bb, p2, l2, c2, er, rfl, ?_, ((hB1.trans (hBr.mono hB1.size)).trans (hb2.mono (by omega))).trans ((put2_only _ _ _ _).below (Nat.le_refl _))⟩)
      unfold parseZ
      rw [← HN.out, ← HS.out, hneg]
      exact hfit.put2 r1 (by decide) _ _
 · have hdec : decOK s.data.toList = true := by assumption
   have hneg : neg = false := by have h : ¬ neg = true := by assumption
                                 simpa using h
   have hlong : 5120 < (s.size : Int) := by assumption
   refine bodyPost_ret (v := .tuple #[zeroW, .int .i64 3]) (by simp [results, Tryz.results102, go_sem, zeroW]) rfl (.inl ⟨?_, false, none, 0, 0, 3, rfl, .inr ⟨?_, rfl, rfl⟩, ?_⟩)
   · unfold parseOK
     rw [← HS.out, ← HN.out, hdec, hneg]
     rfl
   · have h := dec_long hdec (by have : s.data.toList.length = s.size := by simp
                                 omega)
     unfold parseZ
     rw [← HN.out, ← HS.out]
     exact cap_sgn h
   · exact (Below.refl _ w).alloc (Nat.le_refl _) _
 · have hdec : decOK s.data.toList = true := by assumption
   have hle : s.size ≤ 5120 := by have : (s.size : Int) ≤ 5120 := by assumption
                                  omega
   have hs1 : ((w.alloc (.cells #[.bool false, .slice none 0 0] 24)).heap.size) = w.heap.size + 1 := by simp
   obtain ⟨w1, hw1⟩ : ∃ w1, w1 = w.alloc (.cells #[.bool false, .slice none 0 0] 24) := ⟨_, rfl⟩
   rw [← hw1] at hs1 ⊢
   have hB1 : Below w.heap.size w w1 := by rw [hw1]; exact (Below.refl _ w).alloc (Nat.le_refl _) _
   have q0 : w1.heap[w.heap.size]? = some (.cells #[.bool false, .slice none 0 0] 24) := by rw [hw1]; exact alloc_new _ _ rfl
   clear hw1
   have hall := dec_all hdec
   have hne := dec_ne hdec
   have hneg : neg = false := by have h : ¬ neg = true := by assumption
                                 simpa using h
   have HALL := Lib.hid hall
   have HDEC := Lib.hid hdec
   clear hall hdec
   go_loopw [4, 6] (fun sv lv wr => ∃ (t : ByteArray) (pre : List UInt8) (X : List Int) (pl : Option Addr) (ll cl : Nat), sv = .string t ∧ lv = .slice pl ll cl ∧ s.data.toList = pre ++ t.data.toList ∧ (pre = [] ∨ 4 ∣ t.size) ∧ Rep X (dv pre) ∧ Own16 w.heap.size wr (.slice pl ll cl) X ∧ Below w1.heap.size w1 wr) (fun sv _ _ => match sv with | .string t => t.size | _ => 0)
   case atStart => exact ⟨s, [], [], none, 0, 0, rfl, rfl, rfl, .inl rfl, Rep.nil, ⟨rfl, .inl ⟨rfl, rfl⟩⟩, Below.refl _ _⟩
   case round =>
    obtain ⟨t, pre, X, pl, ll, cl, rfl, rfl, hcut, hfour, hR, hO, hBr⟩ := hrel
    have hts : t.size ≤ 5120 := by
     have h1 := congrArg List.length hcut
     rw [List.length_append] at h1
     have e1 : s.data.toList.length = s.size := by simp
     have e2 : t.data.toList.length = t.size := by simp
     omega
    have HCUT := Lib.hid hcut
    clear hcut
    by_cases h0 : 1 ≤ t.size
    · have hx1 : t.toList.isEmpty = false := by
       rw [ByteArray.toList_eq, List.isEmpty_eq_false_iff]
       intro h
       have e2 : t.data.toList.length = t.size := by simp
       rw [h] at e2; simp at e2; omega
      obtain ⟨nn, hnn⟩ : ∃ nn : Nat, nn = (t.size - 1) % 4 + 1 := ⟨_, rfl⟩
      have hn1 : 1 ≤ nn := by omega
      have hn4 : nn ≤ 4 := by omega
      have hnt : nn ≤ t.size := by omega
      obtain ⟨ch, hch⟩ : ∃ ch, ch = t.data.toList.take nn := ⟨_, rfl⟩
      have hlt : t.data.toList.length = t.size := by simp
      have hchl : ch.length = nn := by rw [hch, List.length_take]; omega
      have e1 : (t.extract 0 nn).data.toList = ch := by rw [hch, Lib.extract_data]; simp
      have hsplit : t.data.toList = ch ++ (t.extract nn t.size).data.toList := by rw [Lib.extract_data, hch, List.take_of_length_le (l := t.data.toList.drop nn) (by rw [List.length_drop]; omega), List.take_append_drop]
      have hall := HALL.out
      rw [HCUT.out, List.all_append, Bool.and_eq_true] at hall
      obtain ⟨hall1, hall2⟩ := hall
      rw [hsplit, List.all_append, Bool.and_eq_true] at hall2
      obtain ⟨hall3, hall4⟩ := hall2
      have hg0 := dv_lt ch hall3
      have hg : dv ch < 10000 := by
       have : 10 ^ ch.length ≤ 10 ^ 4 := Nat.pow_le_pow_right (by omega) (by omega)
       omega
      have hat := atoi_all ch (by intro h; rw [h] at hchl; simp at hchl; omega) hall3
      have hfour' : pre = [] ∨ ch.length = 4 := by
       rcases hfour with h | h
       · exact .inl h
       · right; omega
      have hdv := dv_chunk hfour'
      have hX5 : X.length ≤ 5120 := by
       have h1 := rep_dec_len hR hall1
       have h2 := congrArg List.length HCUT.out
       rw [List.length_append] at h2
       have h3 : s.data.toList.length = s.size := by simp
       omega
      have hrest : 4 ∣ (t.extract nn t.size).size := by
       have h2 := congrArg List.length hsplit
       rw [List.length_append] at h2
       have h3 : (t.extract nn t.size).data.toList.length = (t.extract nn t.size).size := by simp
       omega
      have hrl : (t.extract nn t.size).size < t.size := by
       have h2 := congrArg List.length hsplit
       rw [List.length_append] at h2
       have h3 : (t.extract nn t.size).data.toList.length = (t.extract nn t.size).size := by simp
       omega
      obtain ⟨g, hgd⟩ : ∃ g : Int, g = (dv ch : Int) := ⟨_, rfl⟩
      have hgl : 0 ≤ g := by omega
      have hgu : g ≤ 9999 := by omega
      have hcut2 : s.data.toList = (pre ++ ch) ++ (t.extract nn t.size).data.toList := by rw [HCUT.out, List.append_assoc, ← hsplit]
      have hdz : ((dv (pre ++ ch) : Nat) : Int) = (dv pre : Int) * 10000 + g := by rw [hdv, hgd]; simp
      have hat : Lib.atoi (t.extract 0 nn).data.toList = some g := by rw [e1, hgd]; exact hat
      have hsz18 : (t.extract 0 nn).size ≤ 18 := by
       have h3 : (t.extract 0 nn).data.toList.length = (t.extract 0 nn).size := by simp
       rw [e1] at h3; omega
      have HAT := Lib.hid hat
      have HNN := Lib.hid hnn
      have HC2 := Lib.hid hcut2
      have HDZ := Lib.hid hdz
      have hsr1 := hBr.size
      have hsr : w.heap.size + 1 ≤ wr.heap.size := by omega
      have hRt : Rep (trim [g]) g := by
       have := trim_rep (Lm.cons (x := g) ⟨hgl, by omega⟩ Lm.nil)
       simpa [val] using this
      have hlt1 : (trim [g]).length ≤ 1 := by obtain ⟨k, hk, e⟩ := trim_prefix [g]; rw [e, List.length_take]; simp at hk ⊢; omega
      clear hat hnn hcut2 hdz hall1 hall3 hall4 hg0 hg hsplit hchl e1 hch hlt hfour' hdv hgd hfour hs1
      go_wp2_with (first | (go_at_call 151; rw [← HNN.out]; refine (atoi_c (t.extract 0 nn) g wr hsz18 HAT.out).mono ?_; rintro e w2 ⟨rfl, hb2⟩; have hO2 := hO.below hb2; have z2 := hb2.size; have hs2 : w.heap.size + 1 ≤ w2.heap.size := (by omega)) | (go_at_call 97; refine (mul_any _ _ X [10000] _ 10000 _ hR rep_tenk (by omega) (by simp) ((hO2.alloc _).lims) ((made_one w2 w.heap.size 10000 (by omega)).lims)).mono ?_; rintro e w3 ⟨v3, Z3, rfl, hO3, hR3, hb3⟩; obtain ⟨p3, l3, c3, rfl⟩ := hO3.shape; have hs3 : w2.heap.size + 1 ≤ w3.heap.size := (by have := hb3.size; simpa using this); have hZ3 : Z3.length ≤ 5122 := mul_len hR hR3 hX5) | (go_at_call 137; refine (trimmed_own w3.heap.size _ [g] _ (by simp) (made_one w3 w3.heap.size g (Nat.le_refl _))).mono ?_; rintro e w4 ⟨v4, rfl, hO4, rfl⟩; obtain ⟨p4, l4, c4, rfl⟩ := hO4.shape) | (go_at_call 127; refine (add_any _ _ Z3 (trim [g]) _ g _ hR3 hRt (by omega) (by omega) ((hO3.alloc _).lims) hO4.lims).mono ?_; rintro e w5 ⟨v5, Z5, rfl, hO5, hR5, hb5⟩; obtain ⟨p5, l5, c5, rfl⟩ := hO5.shape))
      go_roundw
      case rel =>
       refine ⟨_, pre ++ ch, Z5, p5, l5, c5, rfl, rfl, by rw [← HNN.out]; exact HC2.out, .inr (by rw [← HNN.out]; exact hrest), by rw [HDZ.out]; exact hR5, hO5.mono (by simp; omega), ?_⟩
       have y1 : Below w1.heap.size w1 w2 := hBr.trans (hb2.mono hsr1)
       have y2 := y1.alloc (by omega) (.cells #[.int .u16 10000] 48)
       have y3 : Below w1.heap.size w1 w3 := y2.trans (hb3.mono (by simp; omega))
       have y4 := y3.alloc (by omega) (.cells #[.int .u16 g] 48)
       exact y4.trans (hb5.mono (by simp; omega))
      case measure =>
       show (t.extract ((t.size - 1) % 4 + 1) t.size).size < t.size
       rw [← HNN.out]; exact hrl
    · have ht0 : t.data.toList = [] := by
       have e2 : t.data.toList.length = t.size := by simp
       exact List.length_eq_zero_iff.1 (by omega)
      have hx1 : t.toList.isEmpty = true := by rw [ByteArray.toList_eq, ht0]; rfl
      have hpre : s.data.toList = pre := by have := HCUT.out; rw [ht0, List.append_nil] at this; exact this
      rw [← hpre] at hR
      have hX5 : X.length ≤ 5120 := by
       have h1 := rep_dec_len hR HALL.out
       have h3 : s.data.toList.length = s.size := by simp
       omega
      have hsr : w.heap.size + 1 ≤ wr.heap.size := by have := hBr.size; omega
      have r0 := (hBr.block _ (show w.heap.size < w1.heap.size by omega)).trans q0
      have hok : parseOK text.data.toList = true := by
       unfold parseOK
       rw [← HS.out, HDEC.out, ← HN.out, hneg]
       rfl
      have HOK := Lib.hid hok
      clear hok hpre ht0 hfour
      go_wp2_with (go_at_call 96; refine (made_any false _ X _ w.heap.size wr hR hO (by omega)).mono ?_; rintro e w2 ⟨bb, p2, l2, c2, er, rfl, hfit, hb2⟩; have r1 := (hb2.block _ (show w.heap.size < wr.heap.size by omega)).trans r0; have d0 := cell_of r1 0 rfl; have d1 := cell_of r1 1 rfl; have f0 := frozen_of r1 0; have f1 := frozen_of r1 1)
      obtain ⟨t0, t1⟩ := put2_cell r1 (.bool bb) (.slice p2 l2 c2)
      refine bodyPost_ret (v := .tuple #[.agg #[.bool bb, .slice p2 l2 c2], .int .i64 er]) (by simp [results, Tryz.results102, go_sem, show (w2.setCell ⟨w.heap.size, 0, none⟩ (.bool bb)).setCell ⟨w.heap.size, 1, none⟩ (.slice p2 l2 c2) = put2 w2 w.heap.size (.bool bb) (.slice p2 l2 c2) from rfl, t0, t1]) rfl (.inl ⟨HOK.out, bb, p2, l2, c2, er, rfl, ?_, ((hB1.trans (hBr.mono hB1.size)).trans (hb2.mono (by omega))).trans ((put2_only _ _ _ _).below (Nat.le_refl _))⟩)
      unfold parseZ
      rw [← HN.out, ← HS.out, hneg]
      exact hfit.put2 r1 (by decide) _ _
 · have hdec : ¬ decOK s.data.toList = true := by assumption
   refine bodyPost_ret (v := .tuple #[zeroW, .int .i64 10]) (by simp [results, Tryz.results102, go_sem, zeroW]) rfl (.inr ⟨?_, rfl, ?_⟩)
   · unfold parseOK
     rw [← HS.out, Bool.eq_false_iff.2 hdec]; rfl
   · exact (Below.refl _ w).alloc (Nat.le_refl _) _
end Go.Proofs.YtihdbjilolmfiaaGreatDoor
