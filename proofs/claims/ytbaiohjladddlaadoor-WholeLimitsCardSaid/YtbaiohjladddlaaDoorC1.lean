import Derived.Test.YtbaiohjladddlaaDoorRows
import Derived.Test.YtbaiohjladddlaaDoorL7
import Derived.ProofKit
import Derived.OpenShut
import Derived.Carry
import Derived.Deep.DeepHandedRow
import Derived.Deep.DeepWitnessRowRef
import Derived.Lib.LaidTab
import Derived.Lib.SmallJoins
import Derived.Lib.LaidIn
import Derived.SizedLaws
import Derived.Stop.LaidErr
/- The laws' rows: what the list of variables gives; a number that came in; a world for the witness. -/
namespace Go.Proofs.YtbaiohjladddlaaDoor
open Go.RowKit Go.WM Go.WR Go.ChangeShapes Go.WideShapes Go.ChangeAt Go.Lib

theorem own : ownKnob Tryd.prog.godebug = none := by kernel_rfl
theorem laidOut : laidOutB Tryd.prog = true := by kernel_rfl
theorem gPow : Tryd.prog.globalNamed "internal/strconv.uint64pow10" = some 2 := by kernel_rfl
theorem gPowType : (Tryd.prog.globals[2]?).map (·.type) = some 123 := by kernel_rfl
theorem cells123 : Tryd.prog.cellsOf 123 = 20 := by kernel_rfl
theorem cells82 : Tryd.prog.cellsOf 82 = 1 := by kernel_rfl
theorem cells40 : Tryd.prog.cellsOf 40 = 1 := by kernel_rfl
theorem cells24 : Tryd.prog.cellsOf 24 = 2 := by kernel_rfl
theorem bytes40 : Tryd.prog.bytesOf 40 = 2 := by kernel_rfl

theorem tab_of {W : World} (h : laidMet Tryd.prog Rows.wholeRingRow.laid W) : Tab W :=
  Lib.tabIs_of_head (rest := [("strconv.ErrRange", Rows.laid_strconv_ErrRange), ("strconv.ErrSyntax", Rows.laid_strconv_ErrSyntax)]) (zs := Lib.pow10Tab) gPow gPowType Tryd.underlying123 Tryd.underlying82 cells82 cells123
    (laidMet.tail (laidMet.tail h))

theorem ctypes24 : Tryd.prog.cellTypes Tryd.prog.depth 24 = some [4, 22] := by kernel_rfl
theorem hone24 : ∃ f0 f1, Tryd.prog.underlying 24 = some (.struct #[f0, f1]) ∧ Go.Deep.oneCellFields Tryd.prog #[f0, f1] = true ∧ f0.type = 4 ∧ f1.type = 22 := ⟨_, _, Tryd.underlying24, by kernel_rfl, rfl, rfl⟩

theorem lit16 {x : Int} (h : (Lit.int .u16 x).wf = true) : 0 ≤ x ∧ x < 65536 := by
  have h1 : (decide (IntKind.u16.min ≤ x) && decide (x ≤ IntKind.u16.max)) = true := h
  rw [Bool.and_eq_true, decide_eq_true_eq, decide_eq_true_eq] at h1
  have e1 : IntKind.u16.min = 0 := by decide
  have e2 : IntKind.u16.max = 65535 := by decide
  omega

section
variable {H : Type} {enc : TypeId × Value → H}

set_option maxRecDepth 100000 in
/-- a number that came in: its sign, and its limbs, below the heap's size -/
theorem open_whole {W : World} {base : Nat} {v : Value} {d : DataW H} {p : List MemPlace} (hv : Value.okWide Tryd.prog W .any base 24 v) (h : DataW.Trod enc Tryd.prog W 0 (fun _ => true) true 24 v d p)
    (hz : ∀ n ∈ d.weights Tryd.prog 24, n ≤ reachBytes) : ∃ (b : Bool) (zs : List Int), Wr W.heap.size W v b zs ∧ zs.length ≤ 140737488355328 ∧ Lm zs := by
  obtain ⟨f0, f1, hu, hone, ht0, ht1⟩ := hone24
  have hv' := hv
  obtain ⟨v0, v1, y0, y1, m, rfl, rfl, rfl, h0, h1⟩ := Joins.open_agg2 hu hone cells24 hv h
  rw [ht0] at h0
  rw [ht1] at h1
  obtain ⟨b, e0, rfl⟩ := DataW.trod_bool Tryd.underlying4 h0
  simp only [List.cons.injEq, and_true] at e0
  subst e0
  have hcell : Cell.okWide Tryd.prog W .any base 22 v1 := by
    unfold Value.okWide at hv'
    rw [hu] at hv'
    obtain ⟨cs, e, _, ts, hts, _, hc⟩ := hv'
    cases e
    rw [ctypes24] at hts
    cases hts
    obtain ⟨u, hu1, hok⟩ := hc 1 v1 rfl
    have : u = 22 := by simpa using hu1.symm
    subst this
    exact hok
  have hw : ∀ n ∈ y1.1.weights Tryd.prog 22, n ≤ reachBytes := by
    intro n hn
    refine hz n ?_
    simp only [DataW.weights, hu, DataW.weightsEach, List.map_cons, List.map_nil, ht0, ht1, List.append_nil, List.nil_append]
    exact hn
  rcases open_ints Tryd.underlying22 Tryd.underlying40 cells40 h1 with ⟨e1, rfl⟩ | ⟨a, len, cap, zs, e1, _, hl, hm, hzl, rfl, hcl, hwf⟩
  · simp only [List.cons.injEq, and_true] at e1
    subst e1
    exact ⟨b, [], ⟨_, rfl, .inl ⟨rfl, rfl⟩⟩, by simp, Lm.nil⟩
  · simp only [List.cons.injEq, and_true] at e1
    subst e1
    simp only [if_true] at hzl
    unfold Cell.okWide Cell.ok at hcell
    rw [Tryd.underlying22] at hcell
    obtain ⟨_, _, _, hspot, row, cells, hsh, _⟩ := hcell
    obtain ⟨blk, off, spot⟩ := a
    simp only at hspot
    subst hspot
    have hblk : blk < W.heap.size := by
      rcases Nat.lt_or_ge blk W.heap.size with h | h
      · exact h
      · unfold World.shape? at hsh
        rw [Array.getElem?_eq_none h] at hsh
        cases hsh
    have hlen : (zs.take len).length = len := by rw [List.length_take]; omega
    have hreach := hw ((((zs.take len).length + (zs.drop len).length)) * Tryd.prog.bytesOf 40) (by simp [DataW.weights, Tryd.underlying22, lits])
    rw [bytes40] at hreach
    have hrb : reachBytes = 140737488351232 := by decide
    refine ⟨b, zs.take len, ⟨_, rfl, .inr ⟨blk, off, cap, by rw [hlen], by omega, hblk, fun j hj => ?_⟩⟩, by omega, fun x hx => ?_⟩
    · rw [hlen] at hj
      rw [List.getElem?_take_of_lt hj]
      have h1 := hcl j (by omega)
      rw [Go.WideShapes.add_plain] at h1
      rw [h1]
      simp [List.getD]
    · have h2 := hwf x (List.mem_of_mem_take hx)
      exact lit16 h2

end

/-- the arguments read behind the call as they did before -/
theorem trodAll_below {H : Type} {enc : TypeId × Value → H} {W W' : World} (hb : Below W.heap.size W W') : ∀ {ts : List TypeId} {vs : List Value} {ds : List (DataW H)} {ps : List MemPlace}, (∀ t ∈ ts, Tryd.prog.readableRec t = true ∧ t < Tryd.prog.types.size) →
    DataW.TrodAll enc Tryd.prog W 0 (fun _ => true) true ts vs ds ps → (∀ x ∈ ps, x.block < W.heap.size) → DataW.TrodAll enc Tryd.prog W' 0 (fun b => decide (b < W.heap.size)) true ts vs ds ps
  | [], vs, ds, ps, _, h, _ => by
    obtain ⟨rfl, rfl, rfl⟩ := trodAll_nil h
    exact trodAll_mk0
  | t :: ts, vs, ds, ps, hr, h, hlt => by
    obtain ⟨v, vs', d, ds', p, q, rfl, rfl, rfl, h0, h1⟩ := trodAll_cons h
    have ht := hr t (by simp)
    exact trodAll_cons_mk (Below.trod laidOut ht.1 ht.2 h0 hb (fun x hx => hlt x (by simp [hx]))) (trodAll_below hb (fun u hu => hr u (List.mem_cons_of_mem _ hu)) h1 (fun x hx => hlt x (by simp [hx])))

/-- what a table holds -/
def tabVals : DataW Unit → Array Value
  | .agg l => (l.map fun d => match d with | .lit (.int k z) => Value.int k z | _ => undef).toArray
  | _ => #[]

noncomputable def low : Nat := (World.holding Tryd.prog default ⟨#[], #[], []⟩).heap.size
/-- a world for the witness: the variables hold what their initialisers lay -/
noncomputable def laidWorld (os : Os) : World :=
  let w0 := World.holding Tryd.prog os ⟨#[.cells #[.string ⟨#[118, 97, 108, 117, 101, 32, 111, 117, 116, 32, 111, 102, 32, 114, 97, 110, 103, 101]⟩] 130, .cells #[.string ⟨#[105, 110, 118, 97, 108, 105, 100, 32, 115, 121, 110, 116, 97, 120]⟩] 130], #[], []⟩
  let put (h : Array Obj) (g : Nat) (cs : Array Value) : Array Obj := h.modify g fun
    | .cells _ t frozen => .cells cs t frozen
    | o => o
  { w0 with heap := put (put (put (put (put w0.heap 0 #[.iface 128 (.pointer (some ⟨low + 1, 0, none⟩))]) 1 #[.iface 128 (.pointer (some ⟨low, 0, none⟩))]) 2 (tabVals Rows.laid_internal_strconv_uint64pow10)) 3 (tabVals Rows.laid_math_bits_deBruijn32tab)) 4 (tabVals Rows.laid_math_bits_deBruijn64tab) }

theorem laid_met (os : Os) (args : Array Value) : laidMet Tryd.prog Rows.wholeRingRow.laid ((laidWorld os).forCall (fun _ _ => 0) ⟨#[], args, []⟩).memory :=
  laidMet_of_run' 8 (by kernel_rfl) (by kernel_rfl)

#print axioms laid_met
end Go.Proofs.YtbaiohjladddlaaDoor
