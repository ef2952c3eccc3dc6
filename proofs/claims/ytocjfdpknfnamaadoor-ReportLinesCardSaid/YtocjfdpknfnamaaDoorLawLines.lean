/- The law ReportLines holds for any outcome; and its card. -/
import Derived.Test.YtocjfdpknfnamaaDoorRepG
import Derived.Test.YtocjfdpknfnamaaDoorOpens
import Derived.Test.YtocjfdpknfnamaaDoorCards
import Derived.Test.YtocjfdpknfnamaaDoorTie
import Derived.WalkKit
import Derived.ProofKit
import Derived.OpenShut
import Derived.ShutString
import Derived.ChangeMaps5
import Derived.ChangeOld
import Derived.Below
import Derived.SizedLaws
import Derived.LaidLaws
import Derived.LaidHandle
import Derived.LaidMore
import Derived.Lib.LaidTab
import Derived.Stop.LaidErr
namespace Go.Proofs.YtocjfdpknfnamaaDoor.reportLines
open Go.ChangeShapes Go.WideShapes Go.ChangeAt Go.RowKit
open Go.Proofs.YtocjfdpknfnamaaDoor.PReportPlaces Go.Proofs.YtocjfdpknfnamaaDoorW.PrintWords Go.Proofs.YtocjfdpknfnamaaDoorW.PrintLast Go.Proofs.YtocjfdpknfnamaaDoorW.PrintMore
open Go.Proofs.YtocjfdpknfnamaaDoor.Opens Go.Proofs.YtocjfdpknfnamaaDoor.Rep
set_option linter.unusedVariables false

/-! ### what is read -/
theorem c3 : Tryd.prog.cellsOf 3 = 1 := by kernel_rfl
theorem c32 : Tryd.prog.cellsOf 32 = 1 := by kernel_rfl
theorem c34 : Tryd.prog.cellsOf 34 = 3 := by kernel_rfl
theorem wf_i64 {n : Int} (h : (Lit.int .i64 n).wf = true) : okInt n := by
  simp only [Lit.wf, Bool.and_eq_true, decide_eq_true_eq] at h
  exact ⟨h.1, h.2⟩
abbrev kO : Kd (Int × Int × List Int) := Kd.pair (Kd.int .i64) (Kd.pair (Kd.int .i64) (Kd.slice 3 (Kd.int .i64)))
def Good (x : Int × Int × List Int) : Prop := okInt x.1 ∧ okInt x.2.1 ∧ ∀ n ∈ x.2.2, okInt n
theorem opens34 (n : Nat) : Opens Tryd.prog 34 n kO Good (fun _ => 0) := by
  refine imp (of_struct (k := kO) Tryd.underlying34 c34 (fun j hj => fs_cons (of_int Tryd.underlying3 j) rfl c3 (fs_cons (of_int Tryd.underlying3 j) rfl c3 (fs_one (of_slice Tryd.underlying32 c3.symm (fun i hi => of_int Tryd.underlying3 i)) rfl c32)))) ?_ (fun _ => Nat.zero_le _)
  rintro ⟨a, b, l⟩ ⟨ha, hb, hl, _⟩
  exact ⟨wf_i64 ha, wf_i64 hb, fun n hn => wf_i64 (hl n hn)⟩
theorem kO_open {w : World} {x : Int × Int × List Int} {cs : List Value} (h : kO.K w x cs) : ∃ A c, cs = [.int .i64 x.1, .int .i64 x.2.1, .slice A x.2.2.length c] ∧ x.2.2.length ≤ c ∧ (Kd.int .i64).C w A x.2.2.length x.2.2 := by
  obtain ⟨_, _, rfl, rfl, ⟨_, _, rfl, rfl, ⟨A, c, rfl, l, g⟩⟩⟩ := h
  exact ⟨A, c, rfl, l, g⟩

/-! ### the listed table -/
theorem g1 : Tryd.prog.globalNamed "internal/strconv.uint64pow10" = some 1 := by kernel_rfl
theorem ty1 : (Tryd.prog.globals[1]?).map (·.type) = some 79 := by kernel_rfl
theorem c70 : Tryd.prog.cellsOf 70 = 1 := by kernel_rfl
theorem c79 : Tryd.prog.cellsOf 79 = 20 := by kernel_rfl
theorem tab_of_laid {W : World} (h : laidMetH Tryd.prog Rows.reportLinesRow.laid W) : Tab W := by
  have h' : laidMet Tryd.prog [("math/bits.deBruijn32tab", Rows.laid_math_bits_deBruijn32tab), ("math/bits.deBruijn64tab", Rows.laid_math_bits_deBruijn64tab), ("internal/strconv.uint64pow10", Rows.laid_internal_strconv_uint64pow10)] W := h
  have h2 : laidMet Tryd.prog [("internal/strconv.uint64pow10", Lib.tabData .u64 Lib.pow10Tab)] W := laidMet.tail (laidMet.tail h')
  exact Lib.tabBelow_of_tabIs (Lib.tabIs_of_head g1 ty1 Tryd.underlying79 Tryd.underlying70 c70 c79 h2)
theorem door_met (os : Os) (args : Array Value) : laidMetH Tryd.prog Rows.reportLinesRow.laid ((World.doorLaid Tryd.prog 65 os).forCall (fun _ _ => 0) ⟨#[], args, []⟩).memory :=
  laidMet_of_run' 8 (by kernel_rfl) (by kernel_rfl)

/-! ### the row -/
theorem own : ownKnob Tryd.prog.godebug = none := by kernel_rfl
theorem laidOut : laidOutB Tryd.prog = true := by kernel_rfl
set_option maxRecDepth 100000 in
theorem lifted (os : Os) (started : os.Started) (H : Type) (enc : TypeId × Value → H) :
    ReturnsInHanded {} Tryd.checked os 5 .any (fun w args => (Rows.reportLinesSpec.pre enc Tryd.prog Tryd.f5 Rows.reportLinesRow.domain false w args ∧ laidMetH Tryd.prog Rows.reportLinesRow.laid w) ∧ sizedMet enc Tryd.prog Tryd.f5 (OpenSpec.ofChange Rows.reportLinesSpec) false w args)
      (Rows.reportLinesSpec.post enc Tryd.prog Tryd.f5 false true false false) := by
  refine returnsInHanded_of_change_and (C := Tryd.checked) (X := fun w _ => laidMetH Tryd.prog Rows.reportLinesRow.laid w) (fun _ _ _ hh h => h.of_heap hh) own started (by kernel_rfl) Tryd.func5
    (ChangeSpec.witness_shaped (enc := enc) (C := Tryd.checked) (os := os) (X := fun w _ => laidMetH Tryd.prog Rows.reportLinesRow.laid w) false (World.doorLaid Tryd.prog 65 os)
      #[.agg #[.int .i64 0, .int .i64 0, .slice none 0 0]]
      8 rfl (World.shaped_of_RefB (by kernel_rfl) (by kernel_rfl)) (by kernel_rfl) (by kernel_rfl) (by kernel_rfl) (door_met os _)) ?_
  intro W base args ds gs before hval0 hW hcnd hsz0 hL _
  have hsz : (DataW.weightsEach Tryd.prog (Tryd.f5.params.toList ++ Rows.reportLinesSpec.plain.varTypes Tryd.prog) (ds ++ gs)).all (· ≤ reachBytes) = true := hsz0
  have hval : ∀ (j : Nat) t v, Tryd.f5.params[j]? = some t → args[j]? = some v → Value.okWide Tryd.prog W .any base t v := hval0
  have hW' := hW
  obtain ⟨p, q, hA0, hV, rfl, hfz, hnd⟩ := hW
  have hA : DataW.TrodAll enc Tryd.prog W 0 (fun _ => true) true Tryd.f5.params.toList args.toList ds p := hA0
  rw [Tryd.params5] at hA hval hsz
  obtain ⟨v2, vs2, d2, ds2, p2, q2, hargs, rfl, rfl, h2, r2⟩ := trodAll_cons hA
  obtain ⟨rfl, rfl, rfl⟩ := trodAll_nil r2
  obtain rfl : args = #[v2] := by cases args; simp_all
  obtain ⟨rfl, rfl⟩ := trodVars_none hV
  obtain ⟨cs2, rfl, hcs2⟩ := okWide_struct Tryd.underlying34 (hval 0 34 v2 rfl rfl)
  have h2k := h2
  obtain ⟨fuel2, hf2⟩ := h2
  obtain ⟨x, hK2, ⟨gk, gc, gl⟩, _⟩ := (opens34 fuel2).get hf2 (fun z hz => by
    have := List.all_eq_true.1 hsz z (DataW.weights_mem_each (j := 0) (t := 34) rfl rfl z hz)
    simpa using this)
  obtain ⟨A, cp, hc2, l4, g4⟩ := kO_open hK2
  obtain rfl : cs2 = #[.int .i64 x.1, .int .i64 x.2.1, .slice A x.2.2.length cp] := by
    have : cs2.toList = _ := hc2
    cases cs2; simp_all
  obtain ⟨k, hd⟩ := lines_law x.1 x.2.1 x.2.2 gl gc gk
  have hlt : ∀ y ∈ p2 ++ ([] ++ []), y.block < W.heap.size := fun y hy => hW'.lt y (by simpa using hy)
  clear hA0 hval0 hsz0
  refine (ferrulelaw28_ReportLines.calls k x.1 x.2.1 A cp x.2.2 true W (tab_of_laid hL) g4 l4 hd).mono fun e W' ⟨he, bel⟩ => ?_
  subst he
  exact ⟨_, rfl, _, _, _, [], p2 ++ ([] ++ []), [], hW', trodAll_mk1 (shut_bool Tryd.underlying4 _), (trodAll_cons_mk (Below.trod laidOut (by kernel_rfl) (of_decide_eq_true (by kernel_rfl)) h2k bel (fun y hy => hlt y (by simp [hy]))) trodAll_mk0), rfl, bel.frame _, fun h => by cases h⟩
theorem over : Rows.reportLinesRow.holds Tryd.pinned (OpenSpec.ofChange Rows.reportLinesSpec) :=
  OpenClaim.holds_of_wide 5 Tryd.f5 rfl rfl rfl rfl rfl rfl rfl ⟨rfl, rfl, rfl, rfl, rfl⟩ rfl rfl rfl rfl rfl (by kernel_rfl) Tryd.func5 (by kernel_rfl)
    (of_decide_eq_true (by kernel_rfl)) (by unfold Func.isWrapper; first | (rw [if_pos (by decide +kernel)]; kernel_rfl) | (rw [if_neg (by decide +kernel)]; exact ⟨rfl, rfl⟩))
    (fun os started H enc _ => lifted os started H enc)
theorem proved : Rows.ReportLinesSaid := over
theorem card : Rows.ReportLinesCardSaid :=
  Claim7.holds_tied_plain_at .later [] [.data, .data, .data] true (true, "a80e3c7a991306e56f2d4bfeda0baa61953363c1d4a915f6cdf2292b3756f330") false
    proved (fun _ h => by cases h) (by kernel_rfl) (fun _ h => by cases h) reportLines_row_tie rfl ⟨rfl, rfl⟩ (by kernel_rfl) rfl
    (fun f fn hf hfn => by
      obtain rfl : f = 5 := Option.some.inj ((show Tryd.prog.funcNamed "ferrule/ferrulelaw28.ReportLines" = some 5 by kernel_rfl).symm.trans hf) |>.symm
      obtain rfl : fn = Tryd.f5 := (Option.some.inj (Tryd.func5.symm.trans hfn)).symm
      exact ⟨by kernel_rfl, fun j t ht => by
        rw [Tryd.params5] at ht
        have h3 : t = 34 := by
          rcases j with _ | j
          · simpa using ht.symm
          · simp at ht
        subst h3
        exact (show Tryd.prog.wantsStandIn 34 = false by kernel_rfl)⟩)
    (by kernel_rfl)
#print axioms card
end Go.Proofs.YtocjfdpknfnamaaDoor.reportLines
namespace Go.Proofs.YtocjfdpknfnamaaDoor
/-- The card, under a short name, for the claim. -/
theorem reportLines_holds : Rows.ReportLinesCardSaid := reportLines.card
end Go.Proofs.YtocjfdpknfnamaaDoor
