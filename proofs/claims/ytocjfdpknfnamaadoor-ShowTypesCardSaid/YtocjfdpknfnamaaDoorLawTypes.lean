/- The law ShowTypes holds for any type and any two trees; and its card. -/
import Derived.Test.YtocjfdpknfnamaaDoorTypW
import Derived.Test.YtocjfdpknfnamaaDoorOpens
import Derived.Test.YtocjfdpknfnamaaDoorCards
import Derived.Test.YtocjfdpknfnamaaDoorTie
import Derived.WalkKit
import Derived.ProofKit
import Derived.OpenShut
import Derived.ShutString
import Derived.ChangeOld
import Derived.Below
import Derived.SizedLaws
import Derived.LaidLaws
import Derived.LaidHandle
import Derived.LaidMore
import Derived.Lib.LaidTab
import Derived.Stop.LaidErr
namespace Go.Proofs.YtocjfdpknfnamaaDoor.showTypes
open Go.ChangeShapes Go.WideShapes Go.ChangeAt Go.RowKit
open Go.Proofs.YtocjfdpknfnamaaDoor.PShowTypes Go.Proofs.YtocjfdpknfnamaaDoorW.PrintWords Go.Proofs.YtocjfdpknfnamaaDoorW.PrintLast Go.Proofs.YtocjfdpknfnamaaDoorW.PrintMore
open Go.Proofs.YtocjfdpknfnamaaDoor.Opens Go.Proofs.YtocjfdpknfnamaaDoor.Typ
set_option linter.unusedVariables false

/-! ### the law -/
theorem eta27 (x : S27) : (⟨x.f0, x.f1, x.f2, x.f3, x.f4, x.f5, ⟨x.f6.f0, x.f6.f1, x.f6.f2, x.f6.f3⟩⟩ : S27) = x := by
  rcases x with ⟨_, _, _, _, _, _, ⟨_, _, _, _⟩⟩; rfl
theorem law (t : S24) (x y : S27) (nt : Named t) (nx : NamedE x) : ∃ k, ferrulelaw04_ShowTypes.f k t.f0 t.f1 t.f2 t.f3 x.f0 x.f1 x.f2 x.f3 x.f4 x.f5 x.f6.f0 x.f6.f1 x.f6.f2 x.f6.f3 y.f0 y.f1 y.f2 y.f3 y.f4 y.f5 y.f6.f0 y.f6.f1 y.f6.f2 y.f6.f3 = some true := by
  obtain ⟨n, hn⟩ := chain_ends 200 0 t (by omega)
  have hc : ∀ k, 201 ≤ k → ferrulelaw04_chain.f k t.f0 t.f1 t.f2 t.f3 = some n := fun k hk =>
    at_rounds (fun k => ferrulelaw04_chain.mono _ _ _ _ k) hk hn
  by_cases hlt : n < 200
  · have hf := chain_fits 200 0 t n (by omega) nt hn hlt
    obtain ⟨k1, h1⟩ := ref_type 200 (by omega) t hf
    obtain ⟨k2, h2⟩ := ref_alike _ x y (Nat.lt_succ_self _) nx
    refine ⟨201 + (k1 + k2), ?_⟩
    have e1 := refT_le (show k1 ≤ 201 + (k1 + k2) by omega) h1
    have e2 := refA_le (show k2 ≤ 201 + (k1 + k2) by omega) h2
    simp only [refT] at e1
    simp only [refA] at e2
    have e3 : show_Type.f t.f0 t.f1 t.f2 t.f3 = some (text 200 t) := if_pos hf
    have e4 : show_Alike.f x.f0 x.f1 x.f2 x.f3 x.f4 x.f5 x.f6.f0 x.f6.f1 x.f6.f2 x.f6.f3 y.f0 y.f1 y.f2 y.f3 y.f4 y.f5 y.f6.f0 y.f6.f1 y.f6.f2 y.f6.f3 = some (Alike.alike x y) := by unfold show_Alike.f; rw [eta27, eta27]
    have e5 : show_Alike.f x.f0 x.f1 x.f2 x.f3 x.f4 x.f5 x.f6.f0 x.f6.f1 x.f6.f2 x.f6.f3 x.f0 x.f1 x.f2 x.f3 x.f4 x.f5 x.f6.f0 x.f6.f1 x.f6.f2 x.f6.f3 = some true := by unfold show_Alike.f; rw [eta27, Alike.alike_self]
    have e6 : show_Alike.f y.f0 y.f1 y.f2 y.f3 y.f4 y.f5 y.f6.f0 y.f6.f1 y.f6.f2 y.f6.f3 y.f0 y.f1 y.f2 y.f3 y.f4 y.f5 y.f6.f0 y.f6.f1 y.f6.f2 y.f6.f3 = some true := by unfold show_Alike.f; rw [eta27, Alike.alike_self]
    unfold ferrulelaw04_ShowTypes.f
    rw [hc _ (by omega)]
    simp only [Option.bind_some]
    rw [if_neg (by omega), e3]
    simp only [Option.bind_some]
    rw [e1]
    simp only [Option.bind_some]
    rw [if_pos trivial, e4]
    simp only [Option.bind_some]
    rw [e2]
    simp only [Option.bind_some]
    rw [if_pos (by simp), e5]
    simp only [Option.bind_some]
    rw [if_pos trivial, e6]
    rfl
  · refine ⟨201, ?_⟩
    unfold ferrulelaw04_ShowTypes.f
    rw [hc _ (by omega)]
    simp only [Option.bind_some]
    rw [if_pos (by omega)]

/-! ### what is read -/
theorem c3 : Tryd.prog.cellsOf 3 = 1 := by kernel_rfl
theorem c9 : Tryd.prog.cellsOf 9 = 1 := by kernel_rfl
theorem c22 : Tryd.prog.cellsOf 22 = 1 := by kernel_rfl
theorem c25 : Tryd.prog.cellsOf 25 = 1 := by kernel_rfl
theorem c24 : Tryd.prog.cellsOf 24 = 4 := by kernel_rfl
theorem c27 : Tryd.prog.cellsOf 27 = 10 := by kernel_rfl
theorem b24 : Tryd.prog.bytesOf 24 = 56 := by kernel_rfl
theorem b27 : Tryd.prog.bytesOf 27 = 144 := by kernel_rfl
theorem reach : reachBytes = 140737488351232 := by kernel_rfl
theorem wf_i64 {n : Int} (h : (Lit.int .i64 n).wf = true) : -9223372036854775808 ≤ n ∧ n ≤ 9223372036854775807 := by
  simp only [Lit.wf, Bool.and_eq_true, decide_eq_true_eq] at h
  exact ⟨h.1, h.2⟩

theorem upto24 (n : Nat) : Opens Tryd.prog 24 n (Kd.upto F24 4 [24] n) Named (fun _ => 0) := by
  induction n using Nat.strongRecOn with
  | _ n ih =>
  cases n with
  | zero => exact of_zero
  | succ n =>
    refine imp (of_iso (fun y => ⟨y.1, y.2.1, y.2.2.1, y.2.2.2⟩) (fun _ => rfl) (of_struct Tryd.underlying24 c24 (fun j hj =>
      fs_cons (of_int Tryd.underlying3 j) rfl c3 (fs_cons (of_string Tryd.underlying9 j) rfl c9 (fs_cons (of_int Tryd.underlying3 j) rfl c3
        (fs_one (of_slice Tryd.underlying22 ((sz24 n).trans c24.symm) (fun i hi => upto_mono mono24 sz24 (show i ≤ n by omega) (ih i (by omega)))) rfl c22)))))) ?_ (fun _ => Nat.zero_le _)
    rintro ⟨k, m, c, e⟩ ⟨hk, hs, hc, hall, hl⟩
    rw [b24, reach] at hl
    rw [reach] at hs
    exact Named.mk _ hs (wf_i64 hc).1 (wf_i64 hc).2 (by simp only at hl ⊢; omega) hall
theorem opens24 (n : Nat) : Opens Tryd.prog 24 n k24 Named (fun _ => 0) := of_fix n (upto24 n)
theorem upto27 (n : Nat) : Opens Tryd.prog 27 n (Kd.upto F27 10 [24, 27] n) NamedE (fun _ => 0) := by
  induction n using Nat.strongRecOn with
  | _ n ih =>
  cases n with
  | zero => exact of_zero
  | succ n =>
    refine imp (of_iso (fun y => ⟨y.1, y.2.1, y.2.2.1, y.2.2.2.1, y.2.2.2.2.1, y.2.2.2.2.2.1, y.2.2.2.2.2.2⟩) (fun _ => rfl) (of_struct Tryd.underlying27 c27 (fun j hj =>
      fs_cons (of_int Tryd.underlying3 j) rfl c3 (fs_cons (of_int Tryd.underlying3 j) rfl c3 (fs_cons (of_int Tryd.underlying3 j) rfl c3 (fs_cons (of_string Tryd.underlying9 j) rfl c9
        (fs_cons (of_slice Tryd.underlying25 ((sz27 n).trans c27.symm) (fun i hi => upto_mono mono27 sz27 (show i ≤ n by omega) (ih i (by omega)))) rfl c25
          (fs_cons (of_slice Tryd.underlying22 c24.symm (fun i hi => opens24 i)) rfl c22 (fs_one (opens24 j) rfl c24))))))))) ?_ (fun _ => Nat.zero_le _)
    rintro ⟨a, b, c, s, l, t, u⟩ ⟨_, _, _, _, ⟨h4, l4⟩, ⟨h5, l5⟩, _⟩
    rw [b27, reach] at l4
    rw [b24, reach] at l5
    exact NamedE.mk _ (by simp only at l4 ⊢; omega) (by simp only at l5 ⊢; omega) h5 h4
theorem opens27 (n : Nat) : Opens Tryd.prog 27 n k27 NamedE (fun _ => 0) := of_fix n (upto27 n)

/-! ### the listed table -/
theorem g1 : Tryd.prog.globalNamed "internal/strconv.uint64pow10" = some 1 := by kernel_rfl
theorem ty1 : (Tryd.prog.globals[1]?).map (·.type) = some 79 := by kernel_rfl
theorem c70 : Tryd.prog.cellsOf 70 = 1 := by kernel_rfl
theorem c79 : Tryd.prog.cellsOf 79 = 20 := by kernel_rfl
theorem tab_of_laid {W : World} (h : laidMetH Tryd.prog Rows.showTypesRow.laid W) : Tab W := by
  have h' : laidMet Tryd.prog [("math/bits.deBruijn32tab", Rows.laid_math_bits_deBruijn32tab), ("math/bits.deBruijn64tab", Rows.laid_math_bits_deBruijn64tab), ("internal/strconv.uint64pow10", Rows.laid_internal_strconv_uint64pow10)] W := h
  have h2 : laidMet Tryd.prog [("internal/strconv.uint64pow10", Lib.tabData .u64 Lib.pow10Tab)] W := laidMet.tail (laidMet.tail h')
  exact Lib.tabBelow_of_tabIs (Lib.tabIs_of_head g1 ty1 Tryd.underlying79 Tryd.underlying70 c70 c79 h2)
theorem door_met (os : Os) (args : Array Value) : laidMetH Tryd.prog Rows.showTypesRow.laid ((World.doorLaid Tryd.prog 65 os).forCall (fun _ _ => 0) ⟨#[], args, []⟩).memory :=
  laidMet_of_run' 8 (by kernel_rfl) (by kernel_rfl)

/-! ### the row -/
theorem own : ownKnob Tryd.prog.godebug = none := by kernel_rfl
theorem laidOut : laidOutB Tryd.prog = true := by kernel_rfl
set_option maxRecDepth 100000 in
theorem lifted (os : Os) (started : os.Started) (H : Type) (enc : TypeId × Value → H) :
    ReturnsInHanded {} Tryd.checked os 3 .any (fun w args => (Rows.showTypesSpec.pre enc Tryd.prog Tryd.f3 Rows.showTypesRow.domain false w args ∧ laidMetH Tryd.prog Rows.showTypesRow.laid w) ∧ sizedMet enc Tryd.prog Tryd.f3 (OpenSpec.ofChange Rows.showTypesSpec) false w args)
      (Rows.showTypesSpec.post enc Tryd.prog Tryd.f3 false true false false) := by
  refine returnsInHanded_of_change_and (C := Tryd.checked) (X := fun w _ => laidMetH Tryd.prog Rows.showTypesRow.laid w) (fun _ _ _ hh h => h.of_heap hh) own started (by kernel_rfl) Tryd.func3
    (ChangeSpec.witness_shaped (enc := enc) (C := Tryd.checked) (os := os) (X := fun w _ => laidMetH Tryd.prog Rows.showTypesRow.laid w) false (World.doorLaid Tryd.prog 65 os)
      #[.agg #[.int .i64 0, .string ByteArray.empty, .int .i64 0, .slice none 0 0], .agg #[.int .i64 0, .int .i64 0, .int .i64 0, .string ByteArray.empty, .slice none 0 0, .slice none 0 0, .int .i64 0, .string ByteArray.empty, .int .i64 0, .slice none 0 0], .agg #[.int .i64 0, .int .i64 0, .int .i64 0, .string ByteArray.empty, .slice none 0 0, .slice none 0 0, .int .i64 0, .string ByteArray.empty, .int .i64 0, .slice none 0 0]]
      8 rfl (World.shaped_of_RefB (by kernel_rfl) (by kernel_rfl)) (by kernel_rfl) (by kernel_rfl) (by kernel_rfl) (door_met os _)) ?_
  intro W base args ds gs before hval0 hW hcnd hsz0 hL _
  have hsz : (DataW.weightsEach Tryd.prog (Tryd.f3.params.toList ++ Rows.showTypesSpec.plain.varTypes Tryd.prog) (ds ++ gs)).all (· ≤ reachBytes) = true := hsz0
  have hval : ∀ (j : Nat) t v, Tryd.f3.params[j]? = some t → args[j]? = some v → Value.okWide Tryd.prog W .any base t v := hval0
  have hW' := hW
  obtain ⟨p, q, hA0, hV, rfl, hfz, hnd⟩ := hW
  have hA : DataW.TrodAll enc Tryd.prog W 0 (fun _ => true) true Tryd.f3.params.toList args.toList ds p := hA0
  rw [Tryd.params3] at hA hval hsz
  obtain ⟨v0, vs0, d0, ds0, p0, q0, hargs, rfl, rfl, h0, r0⟩ := trodAll_cons hA
  obtain ⟨v1, vs1, d1, ds1, p1, q1, rfl, rfl, rfl, h1, r1⟩ := trodAll_cons r0
  obtain ⟨v2, vs2, d2, ds2, p2, q2, rfl, rfl, rfl, h2, r2⟩ := trodAll_cons r1
  obtain ⟨rfl, rfl, rfl⟩ := trodAll_nil r2
  obtain rfl : args = #[v0, v1, v2] := by cases args; simp_all
  obtain ⟨rfl, rfl⟩ := trodVars_none hV
  have hget : ∀ (j : Nat) (ty : TypeId) (d : DataW H), [24, 27, 27][j]? = some ty → ([d0, d1, d2] : List (DataW H))[j]? = some d → ∀ z ∈ d.weights Tryd.prog ty, z ≤ reachBytes := fun j ty d hj hd z hz => by
    have hj' : ([24, 27, 27] ++ Rows.showTypesSpec.plain.varTypes Tryd.prog)[j]? = some ty := hj
    have := List.all_eq_true.1 hsz z (DataW.weights_mem_each (j := j) (t := ty) hj' hd z hz)
    simpa using this
  obtain ⟨cs0, rfl, hcs0⟩ := okWide_struct Tryd.underlying24 (hval 0 24 v0 rfl rfl)
  obtain ⟨cs1, rfl, hcs1⟩ := okWide_struct Tryd.underlying27 (hval 1 27 v1 rfl rfl)
  obtain ⟨cs2, rfl, hcs2⟩ := okWide_struct Tryd.underlying27 (hval 2 27 v2 rfl rfl)
  have h0k := h0
  have h1k := h1
  have h2k := h2
  obtain ⟨fuel0, hf0⟩ := h0
  obtain ⟨fuel1, hf1⟩ := h1
  obtain ⟨fuel2, hf2⟩ := h2
  obtain ⟨t, hK0, nt, _⟩ := (opens24 fuel0).get hf0 (hget 0 24 _ rfl rfl)
  obtain ⟨x, hK1, nx, _⟩ := (opens27 fuel1).get hf1 (hget 1 27 _ rfl rfl)
  obtain ⟨y, hK2, ny, _⟩ := (opens27 fuel2).get hf2 (hget 2 27 _ rfl rfl)
  obtain ⟨A3, c3, hc0, l3, g3⟩ := k24_open hK0
  obtain ⟨A4, c4, A5, c5, A9, c9, hc1, l4, g4, l5, g5, l9, g9⟩ := k27_open hK1
  obtain ⟨B4, d4, B5, d5, B9, d9, hc2, m4, q4, m5, q5, m9, q9⟩ := k27_open hK2
  obtain rfl : cs0 = #[.int .i64 t.f0, .string t.f1, .int .i64 t.f2, .slice A3 t.f3.length c3] := by
    have : cs0.toList = _ := hc0
    cases cs0; simp_all
  obtain rfl : cs1 = #[.int .i64 x.f0, .int .i64 x.f1, .int .i64 x.f2, .string x.f3, .slice A4 x.f4.length c4, .slice A5 x.f5.length c5, .int .i64 x.f6.f0, .string x.f6.f1, .int .i64 x.f6.f2, .slice A9 x.f6.f3.length c9] := by
    have : cs1.toList = _ := hc1
    cases cs1; simp_all
  obtain rfl : cs2 = #[.int .i64 y.f0, .int .i64 y.f1, .int .i64 y.f2, .string y.f3, .slice B4 y.f4.length d4, .slice B5 y.f5.length d5, .int .i64 y.f6.f0, .string y.f6.f1, .int .i64 y.f6.f2, .slice B9 y.f6.f3.length d9] := by
    have : cs2.toList = _ := hc2
    cases cs2; simp_all
  obtain ⟨k, hd⟩ := law t x y nt nx
  have hlt : ∀ y ∈ p0 ++ (p1 ++ (p2 ++ [])), y.block < W.heap.size := fun y hy => hW'.lt y (by simpa using hy)
  clear hA0 hval0 hsz0
  refine (ferrulelaw04_ShowTypes.calls k _ _ _ A3 c3 _ _ _ _ _ A4 c4 _ A5 c5 _ _ _ _ A9 c9 _ _ _ _ _ B4 d4 _ B5 d5 _ _ _ _ B9 d9 _ true W (tab_of_laid hL) g3 l3 g4 l4 g5 l5 g9 l9 q4 m4 q5 m5 q9 m9 hd).mono fun e W' ⟨he, bel⟩ => ?_
  subst he
  exact ⟨_, rfl, _, _, _, [], p0 ++ (p1 ++ (p2 ++ [])), [], hW', trodAll_mk1 (shut_bool Tryd.underlying4 _), (trodAll_cons_mk (Below.trod laidOut (by kernel_rfl) (of_decide_eq_true (by kernel_rfl)) h0k bel (fun y hy => hlt y (by simp [hy]))) (trodAll_cons_mk (Below.trod laidOut (by kernel_rfl) (of_decide_eq_true (by kernel_rfl)) h1k bel (fun y hy => hlt y (by simp [hy]))) (trodAll_cons_mk (Below.trod laidOut (by kernel_rfl) (of_decide_eq_true (by kernel_rfl)) h2k bel (fun y hy => hlt y (by simp [hy]))) trodAll_mk0))), rfl, bel.frame _, fun h => by cases h⟩
theorem over : Rows.showTypesRow.holds Tryd.pinned (OpenSpec.ofChange Rows.showTypesSpec) :=
  OpenClaim.holds_of_wide 3 Tryd.f3 rfl rfl rfl rfl rfl rfl rfl ⟨rfl, rfl, rfl, rfl, rfl⟩ rfl rfl rfl rfl rfl (by kernel_rfl) Tryd.func3 (by kernel_rfl)
    (of_decide_eq_true (by kernel_rfl)) (by unfold Func.isWrapper; first | (rw [if_pos (by decide +kernel)]; kernel_rfl) | (rw [if_neg (by decide +kernel)]; exact ⟨rfl, rfl⟩))
    (fun os started H enc _ => lifted os started H enc)
theorem proved : Rows.ShowTypesSaid := over
theorem card : Rows.ShowTypesCardSaid :=
  Claim7.holds_tied_plain_at .later [] [.data, .data, .data] true (true, "a80e3c7a991306e56f2d4bfeda0baa61953363c1d4a915f6cdf2292b3756f330") false
    proved (fun _ h => by cases h) (by kernel_rfl) (fun _ h => by cases h) showTypes_row_tie rfl ⟨rfl, rfl⟩ (by kernel_rfl) rfl
    (fun f fn hf hfn => by
      obtain rfl : f = 3 := Option.some.inj ((show Tryd.prog.funcNamed "ferrule/ferrulelaw04.ShowTypes" = some 3 by kernel_rfl).symm.trans hf) |>.symm
      obtain rfl : fn = Tryd.f3 := (Option.some.inj (Tryd.func3.symm.trans hfn)).symm
      exact ⟨by kernel_rfl, fun j t ht => by
        rw [Tryd.params3] at ht
        have h3 : t = 24 ∨ t = 27 := by
          rcases j with _ | _ | _ | j
          · left; simpa using ht.symm
          · right; simpa using ht.symm
          · right; simpa using ht.symm
          · simp at ht
        rcases h3 with rfl | rfl
        · exact (show Tryd.prog.wantsStandIn 24 = false by kernel_rfl)
        · exact (show Tryd.prog.wantsStandIn 27 = false by kernel_rfl)⟩)
    (by kernel_rfl)
#print axioms card
end Go.Proofs.YtocjfdpknfnamaaDoor.showTypes
namespace Go.Proofs.YtocjfdpknfnamaaDoor
/-- The card, under a short name, for the claim. -/
theorem showTypes_holds : Rows.ShowTypesCardSaid := showTypes.card
end Go.Proofs.YtocjfdpknfnamaaDoor
