import Derived.Test.YtihdbjilolmfiaaGreatDoorRFloors04
import Derived.Test.YtihdbjilolmfiaaGreatDoorJFloorsp
import Derived.Test.YtihdbjilolmfiaaGreatDoorCards
import Derived.Test.YtihdbjilolmfiaaGreatDoorTie
/- The law FracFloors returns true at every input that can be read, and leaves its arguments as they were. The card lists five package-level variables of Go's library with what they hold; nothing else is asked. -/
namespace Go.Proofs.YtihdbjilolmfiaaGreatDoor
namespace fracFloors
open Go.RowKit Go.WM Go.WR Go.ChangeShapes Go.WideShapes Go.ChangeAt Go.Lib
set_option maxRecDepth 100000 in
theorem contract (H : Type) (enc : TypeId × Value → H) (W : World) (base : Nat) (args : Array Value) (ds gs : List (DataW H)) (before : List MemPlace)
 (hval : ∀ (j : Nat) t v, Tryz.f11.params[j]? = some t → args[j]? = some v → Value.okWide Tryz.prog W .any base t v)
 (hW : DataW.Whole enc Tryz.prog Tryz.f11.params.toList Rows.fracFloorsSpec.vars false W args.toList ds gs before)
 (hz : (DataW.weightsEach Tryz.prog (Tryz.f11.params.toList ++ (OpenSpec.ofChange Rows.fracFloorsSpec).bare.plain.varTypes Tryz.prog) (ds ++ gs)).all (· ≤ reachBytes) = true)
 (hL : laidMetH Tryz.prog Rows.fracFieldRow.laid W) :
 Calls Tryz.prog 11 args W fun e W' => ∃ v, e = .returned v ∧ Rows.fracFloorsSpec.post enc Tryz.prog Tryz.f11 false true false false W args v W' := by
 have hW' := hW
 obtain ⟨p, q, hA0, hV, rfl, hfz, hnd⟩ := hW
 have hA : DataW.TrodAll enc Tryz.prog W 0 (fun _ => true) true Tryz.f11.params.toList args.toList ds p := hA0
 have hAk := hA
 rw [Tryz.params11] at hA hval hz
 obtain ⟨rfl, rfl⟩ := trodVars_none hV
 obtain ⟨v0, vs0, d0, ds0, p0, q0, hargs0, rfl, rfl, h0, r0⟩ := trodAll_cons hA
 obtain ⟨rfl, rfl, rfl⟩ := trodAll_nil r0
 obtain rfl : args = #[v0] := by cases args; simp_all
 have hz' : (DataW.weightsEach Tryz.prog [26] [d0]).all (· ≤ reachBytes) = true := hz
 have hw : ∀ (j : Nat) (t : TypeId) (d : DataW H), ([26] : List TypeId)[j]? = some t → ([d0] : List (DataW H))[j]? = some d → ∀ n ∈ d.weights Tryz.prog t, n ≤ reachBytes := fun j t d h1 h2 n hn => of_decide_eq_true (List.all_eq_true.1 hz' n (DataW.weights_mem_each h1 h2 n hn))
 obtain ⟨na0, Za0, nb0, Zb0, k0, rl0⟩ := open_frac (hval 0 26 v0 rfl rfl) h0 (hw 0 26 d0 rfl rfl)
 have htab : Tab W := tab_of hL
 refine (Floors_any rl0 k0).mono fun e W' ⟨_, he, hv', hb⟩ => ?_
 subst he
 obtain rfl := hv'
 refine ⟨_, rfl, _, _, _, [], _, [], hW', ?_, trodAll_below hb (by rw [Tryz.params11]; exact by simp; first | kernel_rfl | decide) hAk (fun x hx => hW'.lt x (by simpa using hx)), ?_, hb.frame _, fun h => by cases h⟩
 · exact trodAll_mk1 (shut_bool Tryz.underlying4 _)
 · rfl
theorem reads (os : Os) {H : Type} (enc : TypeId × Value → H) : ∃ places, DataW.whole enc Tryz.prog ((laidWorld os).forCall (fun _ _ => 0) ⟨#[], #[.agg #[.bool false, .slice none 0 0, .bool false, .slice none 0 0]], []⟩).memory Tryz.f11.params.toList Rows.fracFloorsSpec.vars false (#[.agg #[.bool false, .slice none 0 0, .bool false, .slice none 0 0]] : Array Value).toList 8 = some ([.agg [.agg [.lit (.bool false), .nil], .agg [.lit (.bool false), .nil]]], [], places) :=
 ⟨[], by kernel_rfl⟩
set_option maxRecDepth 100000 in
theorem lifted (os : Os) (started : os.Started) (H : Type) (enc : TypeId × Value → H) (F : Stop.Interp) :
 ReturnsInHanded {} Tryz.checked os 11 .any ((OpenSpec.ofChange Rows.fracFloorsSpec).preRow enc Tryz.prog Tryz.f11 Rows.fracFloorsRow.domain false Rows.fracFloorsRow.laid) (((OpenSpec.ofChange Rows.fracFloorsSpec).at F).post enc Tryz.prog Tryz.f11 false true false false) := by
 obtain ⟨places, hx⟩ := reads os enc
 refine returnsInHanded_of_row (C := Tryz.checked) (s := OpenSpec.ofChange Rows.fracFloorsSpec) own started (by kernel_rfl) Tryz.func11
  (witness_row_atRef (enc := enc) (C := Tryz.checked) false (laidWorld os) #[.agg #[.bool false, .slice none 0 0, .bool false, .slice none 0 0]] rfl (by kernel_rfl) (by kernel_rfl) (by kernel_rfl)
   (OpenSpec.preRow_of_cond 8 hx (by kernel_rfl) (fun k hk => by cases hk) (by kernel_rfl) (laid_met os _))) ?_
 intro W base args ds gs before hval hW _ _ hz hL _ _
 exact contract H enc W base args ds gs before hval hW hz hL
theorem said : Rows.FracFloorsSaid :=
 OpenClaim.holds_of_cond 11 Tryz.f11 rfl rfl rfl rfl rfl rfl rfl ⟨rfl, rfl, rfl, rfl, rfl⟩ rfl rfl rfl rfl rfl (by kernel_rfl) Tryz.func11 joined
  (of_decide_eq_true (by kernel_rfl)) (by unfold Func.isWrapper; first | (rw [if_pos (by decide +kernel)]; kernel_rfl) | (rw [if_neg (by decide +kernel)]; exact ⟨rfl, rfl⟩))
  (fun os started H enc _ F => by rw [OpenClaim.pre_eq_preRow]; exact lifted os started H enc F)
theorem plain (f : FuncId) (fn : Func) (hf : Tryz.pinned.checked.prog.funcNamed "annuitant/annuitantlaw02.FracFloors" = some f) (hfn : Tryz.pinned.checked.prog.funcs[f]? = some fn) :
 true = Tryz.pinned.checked.prog.looks [] ∧ ∀ (j : Nat) t, fn.params[j]? = some t → Tryz.pinned.checked.prog.wantsStandIn t = false := by
 obtain rfl : f = 11 := Option.some.inj ((show Tryz.prog.funcNamed "annuitant/annuitantlaw02.FracFloors" = some 11 by kernel_rfl).symm.trans hf) |>.symm
 obtain rfl : fn = Tryz.f11 := (Option.some.inj (Tryz.func11.symm.trans hfn)).symm
 refine ⟨by kernel_rfl, fun j t ht => ?_⟩
 rw [Tryz.params11] at ht
 have hm := Array.mem_of_getElem? ht
 simp at hm
 obtain rfl : t = 26 := by simpa using hm
 exact (show Tryz.prog.wantsStandIn 26 = false by kernel_rfl)
/-- The law FracFloors: its card. -/
theorem card : Rows.FracFloorsCardSaid :=
 Claim7.holds_tied_plain_at .later [] _ _ _ _ said (fun _ h => by cases h) wfText (fun _ h => by cases h) fracFloors_row_tie rfl ⟨rfl, rfl⟩ mainFact rfl plain goesFact
end fracFloors
end Go.Proofs.YtihdbjilolmfiaaGreatDoor
