import Derived.Test.YtihdbjilolmfiaaGreatDoorD35
import Derived.Test.YtihdbjilolmfiaaGreatDoorD01
import Derived.Test.YtihdbjilolmfiaaGreatDoorRows
import Derived.ProofKit
import Derived.OpenShut
import Derived.Carry
import Derived.Deep.DeepHandedRow
import Derived.Deep.DeepWitnessRowRef
import Derived.Lib.LaidTab
import Derived.Lib.SmallJoins
import Derived.Lib.LaidIn
import Derived.SizedLaws
import Derived.Stop.LaidErr
set_option maxRecDepth 100000
set_option maxHeartbeats 4000000
namespace Go.Proofs.YtihdbjilolmfiaaGreatDoor
open Go.RowKit Go.WM Go.WR Go.ChangeShapes Go.WideShapes Go.ChangeAt Go.Lib
theorem own : ownKnob Tryz.prog.godebug = none := by kernel_rfl
theorem laidOut : laidOutB Tryz.prog = true := by kernel_rfl
theorem gPow : Tryz.prog.globalNamed "internal/strconv.uint64pow10" = some 3 := by kernel_rfl
theorem gPowType : (Tryz.prog.globals[3]?).map (·.type) = some 313 := by kernel_rfl
theorem cells313 : Tryz.prog.cellsOf 313 = 20 := by kernel_rfl
theorem cells84 : Tryz.prog.cellsOf 84 = 1 := by kernel_rfl
theorem cells48 : Tryz.prog.cellsOf 48 = 1 := by kernel_rfl
theorem cells26 : Tryz.prog.cellsOf 26 = 4 := by kernel_rfl
theorem ctypes26 : Tryz.prog.cellTypes Tryz.prog.depth 26 = some [4, 22, 4, 22] := by kernel_rfl
theorem two26 : ∃ f0 f1, Tryz.prog.underlying 26 = some (.struct #[f0, f1]) ∧ f0.type = 24 ∧ f1.type = 24 ∧ f0.offset = 0 ∧ f1.offset = 2 := ⟨_, _, Tryz.underlying26, rfl, rfl, rfl, rfl⟩
theorem two24 : ∃ f0 f1, Tryz.prog.underlying 24 = some (.struct #[f0, f1]) ∧ f0.type = 4 ∧ f1.type = 22 ∧ f0.offset = 0 ∧ f1.offset = 1 := ⟨_, _, Tryz.underlying24, rfl, rfl, rfl, rfl⟩
theorem cells4 : Tryz.prog.cellsOf 4 = 1 := by kernel_rfl
theorem cells22 : Tryz.prog.cellsOf 22 = 1 := by kernel_rfl
theorem cells24 : Tryz.prog.cellsOf 24 = 2 := by kernel_rfl
theorem bytes48 : Tryz.prog.bytesOf 48 = 2 := by kernel_rfl
theorem tab_of {W : World} (h : laidMet Tryz.prog Rows.fracFieldRow.laid W) : Tab W :=
 Lib.tabIs_of_head (rest := [("strconv.ErrRange", Rows.laid_strconv_ErrRange), ("strconv.ErrSyntax", Rows.laid_strconv_ErrSyntax)]) (zs := Lib.pow10Tab) gPow gPowType Tryz.underlying313 Tryz.underlying84 cells84 cells313
  (laidMet.tail (laidMet.tail h))
theorem ctypes24 : Tryz.prog.cellTypes Tryz.prog.depth 24 = some [4, 22] := by kernel_rfl
theorem hone24 : ∃ f0 f1, Tryz.prog.underlying 24 = some (.struct #[f0, f1]) ∧ Go.Deep.oneCellFields Tryz.prog #[f0, f1] = true ∧ f0.type = 4 ∧ f1.type = 22 := ⟨_, _, Tryz.underlying24, by kernel_rfl, rfl, rfl⟩
theorem lit16 {x : Int} (h : (Lit.int .u16 x).wf = true) : 0 ≤ x ∧ x < 65536 := by
 have h1 : (decide (IntKind.u16.min ≤ x) && decide (x ≤ IntKind.u16.max)) = true := h
 rw [Bool.and_eq_true, decide_eq_true_eq, decide_eq_true_eq] at h1
 have e1 : IntKind.u16.min = 0 := by decide
 have e2 : IntKind.u16.max = 65535 := by decide
 omega
section
variable {H : Type} {enc : TypeId × Value → H}
theorem open_limbs {W : World} {base m : Nat} {v1 : Value} {y1 : DataW H × List MemPlace} (hcell : Cell.okWide Tryz.prog W .any base 22 v1) (h1 : DataW.trod enc Tryz.prog W 0 (fun _ => true) true m 22 [v1] = some y1)
 (hw : ∀ n ∈ y1.1.weights Tryz.prog 22, n ≤ reachBytes) : ∃ zs : List Int, Lims W.heap.size W v1 zs ∧ zs.length ≤ 140737488355328 ∧ Lm zs := by
 rcases open_ints Tryz.underlying22 Tryz.underlying48 cells48 h1 with ⟨e1, rfl⟩ | ⟨a, len, cap, zs, e1, _, hl, hm, hzl, rfl, hcl, hwf⟩
 · simp only [List.cons.injEq, and_true] at e1
   subst e1
   exact ⟨[], .inl ⟨rfl, rfl⟩, by simp, Lm.nil⟩
 · simp only [List.cons.injEq, and_true] at e1
   subst e1
   simp only [if_true] at hzl
   unfold Cell.okWide Cell.ok at hcell
   rw [Tryz.underlying22] at hcell
   obtain ⟨_, _, _, hspot, row, cells, hsh, _⟩ := hcell
   obtain ⟨blk, off, spot⟩ := a
   simp only at hspot
   subst hspot
   have hblk : blk < W.heap.size := by
    rcases Nat.lt_or_ge blk W.heap.size with h | h
    · exact h
    · unfold World.shape? at hsh
      rw [Array.getElem?_eq_none h] at hsh
      cases hsh
   have hlen : (zs.take len).length = len := by rw [List.length_take]; omega
   have hreach := hw ((((zs.take len).length + (zs.drop len).length)) * Tryz.prog.bytesOf 48) (by simp [DataW.weights, Tryz.underlying22, lits])
   rw [bytes48] at hreach
   have hrb : reachBytes = 140737488351232 := by decide
   refine ⟨zs.take len, .inr ⟨blk, off, cap, by rw [hlen], by omega, hblk, fun j hj => ?_⟩, by omega, fun x hx => ?_⟩
   · rw [hlen] at hj
     rw [List.getElem?_take_of_lt hj]
     have h1 := hcl j (by omega)
     rw [Go.WideShapes.add_plain] at h1
     rw [h1]
     simp [List.getD]
   · have h2 := hwf x (List.mem_of_mem_take hx)
     exact lit16 h2
theorem open_part {W : World} {base m : Nat} {v0 v1 : Value} {y : DataW H × List MemPlace} (hcell : Cell.okWide Tryz.prog W .any base 22 v1) (h : DataW.trod enc Tryz.prog W 0 (fun _ => true) true m 24 [v0, v1] = some y)
 (hw : ∀ n ∈ y.1.weights Tryz.prog 24, n ≤ reachBytes) : ∃ (b : Bool) (zs : List Int), v0 = .bool b ∧ Lims W.heap.size W v1 zs ∧ zs.length ≤ 140737488355328 ∧ Lm zs := by
 obtain ⟨f0, f1, hu, ht0, ht1, ho0, ho1⟩ := two24
 obtain ⟨y0, y1, n, rfl, _, h0, h1⟩ := trod_struct2 hu h
 rw [ht0, ho0, cells4] at h0
 rw [ht1, ho1, cells22] at h1
 obtain ⟨b, e0, _⟩ := DataW.trod_bool Tryz.underlying4 h0
 have e0' : v0 = .bool b := by simpa using e0
 obtain ⟨zs, hL, hl, hm⟩ := open_limbs hcell h1 (fun k hk => hw k (by
  simp only [DataW.weights, hu, DataW.weightsEach, List.map_cons, List.map_nil, ht0, ht1, List.append_nil]
  exact List.mem_append_right _ hk))
 exact ⟨b, zs, e0', hL, hl, hm⟩
theorem cell_ok {W : World} {base t : Nat} {cs : Array Value} {ts : List TypeId} (hv : Value.okWide Tryz.prog W .any base t (.agg cs)) (fs : Array Field) (hu : Tryz.prog.underlying t = some (.struct fs)) (hts : Tryz.prog.cellTypes Tryz.prog.depth t = some ts) (j : Nat) {v : Value} {u : TypeId} (hj : cs[j]? = some v) (hu2 : ts[j % ts.length]? = some u) : Cell.okWide Tryz.prog W .any base u v := by
 unfold Value.okWide at hv
 rw [hu] at hv
 obtain ⟨cs', e, _, ts', hts', _, hc⟩ := hv
 cases e
 rw [hts] at hts'
 cases hts'
 obtain ⟨u', hu1, hok⟩ := hc j v hj
 rw [hu2] at hu1
 cases hu1
 exact hok
theorem open_frac {W : World} {base : Nat} {v : Value} {d : DataW H} {p : List MemPlace} (hv : Value.okWide Tryz.prog W .any base 26 v) (h : DataW.Trod enc Tryz.prog W 0 (fun _ => true) true 26 v d p)
 (hz : ∀ n ∈ d.weights Tryz.prog 26, n ≤ reachBytes) : ∃ (n1 : Bool) (z1 : List Int) (n2 : Bool) (z2 : List Int), Is (frw n1 z1 n2 z2) v W ∧ RawL z1 z2 := by
 obtain ⟨f0, f1, hu, ht0, ht1, ho0, ho1⟩ := two26
 obtain ⟨cs, rfl, hsz⟩ := okWide_struct hu hv
 obtain ⟨c0, c1, c2, c3, rfl⟩ := Joins.array4 (hsz.trans cells26)
 obtain ⟨fuel, hf⟩ := h
 obtain ⟨y0, y1, m, hx, _, h0, h1⟩ := trod_struct2 hu hf
 simp only [Prod.mk.injEq] at hx
 obtain ⟨rfl, rfl⟩ := hx
 rw [ht0, ho0, cells24] at h0
 rw [ht1, ho1, cells24] at h1
 have w0 : ∀ k ∈ y0.1.weights Tryz.prog 24, k ≤ reachBytes := fun k hk => hz k (by
  simp only [DataW.weights, hu, DataW.weightsEach, List.map_cons, List.map_nil, ht0, ht1, List.append_nil]
  exact List.mem_append_left _ hk)
 have w1 : ∀ k ∈ y1.1.weights Tryz.prog 24, k ≤ reachBytes := fun k hk => hz k (by
  simp only [DataW.weights, hu, DataW.weightsEach, List.map_cons, List.map_nil, ht0, ht1, List.append_nil]
  exact List.mem_append_right _ hk)
 obtain ⟨n1, z1, rfl, hL1, l1, m1⟩ := open_part (cell_ok hv _ hu ctypes26 1 rfl rfl) h0 w0
 obtain ⟨n2, z2, rfl, hL2, l2, m2⟩ := open_part (cell_ok hv _ hu ctypes26 3 rfl rfl) h1 w1
 obtain ⟨p1, a1, b1, rfl⟩ := hL1.form
 obtain ⟨p2, a2, b2, rfl⟩ := hL2.form
 exact ⟨n1, z1, n2, z2, ⟨_, _, _, _, _, _, rfl, hL1, hL2⟩, m1, m2, l1, l2⟩
theorem open_whole {W : World} {base : Nat} {v : Value} {d : DataW H} {p : List MemPlace} (hv : Value.okWide Tryz.prog W .any base 24 v) (h : DataW.Trod enc Tryz.prog W 0 (fun _ => true) true 24 v d p)
 (hz : ∀ n ∈ d.weights Tryz.prog 24, n ≤ reachBytes) : ∃ (b : Bool) (zs : List Int), Is (raw b zs) v W ∧ zs.length ≤ 140737488355328 ∧ Lm zs := by
 obtain ⟨f0, f1, hu, _⟩ := two24
 obtain ⟨cs, rfl, hsz⟩ := okWide_struct hu hv
 obtain ⟨c0, c1, rfl⟩ := Joins.array2 (hsz.trans cells24)
 obtain ⟨fuel, hf⟩ := h
 obtain ⟨b, zs, rfl, hL, hl, hm⟩ := open_part (cell_ok hv _ hu ctypes24 1 rfl rfl) (show DataW.trod enc Tryz.prog W 0 (fun _ => true) true fuel 24 [c0, c1] = some (d, p) from hf) hz
 obtain ⟨p1, a1, b1, rfl⟩ := hL.form
 exact ⟨b, zs, ⟨_, _, _, rfl, hL⟩, hl, hm⟩
end
theorem trodAll_below {H : Type} {enc : TypeId × Value → H} {W W' : World} (hb : Below W.heap.size W W') : ∀ {ts : List TypeId} {vs : List Value} {ds : List (DataW H)} {ps : List MemPlace}, (∀ t ∈ ts, Tryz.prog.readableRec t = true ∧ t < Tryz.prog.types.size) →
 DataW.TrodAll enc Tryz.prog W 0 (fun _ => true) true ts vs ds ps → (∀ x ∈ ps, x.block < W.heap.size) → DataW.TrodAll enc Tryz.prog W' 0 (fun b => decide (b < W.heap.size)) true ts vs ds ps
 | [], vs, ds, ps, _, h, _ => by
  obtain ⟨rfl, rfl, rfl⟩ := trodAll_nil h
  exact trodAll_mk0
 | t :: ts, vs, ds, ps, hr, h, hlt => by
  obtain ⟨v, vs', d, ds', p, q, rfl, rfl, rfl, h0, h1⟩ := trodAll_cons h
  have ht := hr t (by simp)
  exact trodAll_cons_mk (Below.trod laidOut ht.1 ht.2 h0 hb (fun x hx => hlt x (by simp [hx]))) (trodAll_below hb (fun u hu => hr u (List.mem_cons_of_mem _ hu)) h1 (fun x hx => hlt x (by simp [hx])))
def tabVals : DataW Unit → Array Value
 | .agg l => (l.map fun d => match d with | .lit (.int k z) => Value.int k z | _ => undef).toArray
 | _ => #[]
noncomputable def low : Nat := (World.holding Tryz.prog default ⟨#[], #[], []⟩).heap.size
noncomputable def laidWorld (os : Os) : World :=
 let w0 := World.holding Tryz.prog os ⟨#[.cells #[.string ⟨#[118, 97, 108, 117, 101, 32, 111, 117, 116, 32, 111, 102, 32, 114, 97, 110, 103, 101]⟩] 327, .cells #[.string ⟨#[105, 110, 118, 97, 108, 105, 100, 32, 115, 121, 110, 116, 97, 120]⟩] 327], #[], []⟩
 let put (h : Array Obj) (g : Nat) (cs : Array Value) : Array Obj := h.modify g fun
  | .cells _ t frozen => .cells cs t frozen
  | o => o
 { w0 with heap := put (put (put (put (put w0.heap 1 #[.iface 325 (.pointer (some ⟨low + 1, 0, none⟩))]) 2 #[.iface 325 (.pointer (some ⟨low, 0, none⟩))]) 3 (tabVals Rows.laid_internal_strconv_uint64pow10)) 4 (tabVals Rows.laid_math_bits_deBruijn32tab)) 5 (tabVals Rows.laid_math_bits_deBruijn64tab) }
theorem laid_met (os : Os) (args : Array Value) : laidMet Tryz.prog Rows.fracFieldRow.laid ((laidWorld os).forCall (fun _ _ => 0) ⟨#[], args, []⟩).memory :=
 laidMet_of_run' 8 (by kernel_rfl) (by kernel_rfl)
end Go.Proofs.YtihdbjilolmfiaaGreatDoor
