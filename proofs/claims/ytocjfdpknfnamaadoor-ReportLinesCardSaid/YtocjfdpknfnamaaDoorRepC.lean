/- report.Outcome, walked. -/
import Derived.Test.YtocjfdpknfnamaaDoorRepB
import Derived.RegionTactic
import Derived.BigRegion
import Derived.ChangeAlike
namespace Go.Proofs.YtocjfdpknfnamaaDoor.Rep
open Go.Maps Go.RowKit Go.Proofs.YtocjfdpknfnamaaDoor.PReportPlaces Go.Proofs.YtocjfdpknfnamaaDoorW.PrintWords Go.Proofs.YtocjfdpknfnamaaDoorW.PrintLast Go.Proofs.YtocjfdpknfnamaaDoorW.PrintMore
set_option linter.unusedVariables false

def lastB (k c : Int) : ByteArray := if k = 1 then wordB 1 ++ (⟨#[32]⟩ ++ itoaB c) else if known k = true then wordB k else ⟨#[63]⟩
def outL (k c : Int) (l : List Int) : List UInt8 := lines l ++ ((lastB k c).data.toList ++ [10])
theorem int_at {w : World} {A : Option Addr} {l : List Int} (h : (Kd.int .i64).C w A l.length l) (i : Int) (h0 : 0 ≤ i) (h1 : i < l.length) :
    ∃ ad, A = some ad ∧ w.cell? (ad.add i.toNat) = some (.int .i64 (l.getD i.toNat 0)) := by
  obtain ⟨ad, c, e, _, hK, hc0⟩ := Kd.C_get h (0 : Int) i h0 h1
  have hK' : c = [.int .i64 (l.getD i.toNat 0)] := hK
  subst hK'
  have hq : w.cell? (ad.add (i.toNat * 1 + 0)) = _ := hc0 0 _ rfl
  exact ⟨ad, e, by rwa [Nat.mul_one, Nat.add_zero] at hq⟩
theorem wordB_size (k : Int) : (wordB k).size ≤ 8 := by
  unfold wordB
  repeat' split
  all_goals decide
theorem lastB_size (k c : Int) (h : okInt c) : (lastB k c).size ≤ 34 := by
  have h1 := itoaB_size c h
  have h2 := wordB_size 1
  have h3 := wordB_size k
  unfold lastB
  split
  · simp only [ByteArray.size_append, show (⟨#[32]⟩ : ByteArray).size = 1 from rfl]; omega
  split
  · omega
  · show 1 ≤ 34; omega

set_option maxRecDepth 100000 in
set_option maxHeartbeats 4000000 in
theorem out (k c : Int) (A : Option Addr) (cp : Nat) (l : List Int) (w : World) (h : (Kd.int .i64).C w A l.length l) (hc : l.length ≤ cp) (hT : Tab w) (hl : l.length ≤ 1000) (hr : ∀ n ∈ l, okInt n) (hcc : okInt c) (hkk : okInt k) :
    Calls Tryd.prog 13 #[.agg #[.int .i64 k, .int .i64 c, .slice A l.length cp]] w fun e w' => e = .returned (.string ⟨(outL k c l).toArray⟩) ∧ Below w.heap.size w w' := by
  have H := Aside0.mk h
  have HT := Aside0.mk hT
  have HR := Aside0.mk hr
  have HC := Aside0.mk hcc
  have HK := Aside0.mk hkk
  have HLL := Aside0.mk hl
  clear h hT hr hcc hkk
  go_enter Tryd.func13, Tryd.ntmps13
  go_wp2_with fail
  go_loopw [13] (fun v w' => ∃ i : Int, v = .int .i64 i ∧ 0 ≤ i ∧ i ≤ l.length ∧ Aside0 (Lib.IsBuilderF 52 5 (w.heap.size + 1) (w.heap.size + 1) (Lib.byteCells (lines (l.take i.toNat))) w') ∧ Aside0 (Below (w.heap.size + 1) (w.alloc (.cells #[.int .i64 k, .int .i64 c, .slice A l.length cp] 34)) w')) (fun i _ => l.length - (intOf i).toNat)
  case atStart =>
    refine ⟨0, rfl, by omega, by omega, ⟨?_⟩, ⟨?_⟩⟩
    · have := Lib.IsBuilderF.of (Lib.fresh_isBuilder 52 5 (w.alloc (.cells #[.int .i64 k, .int .i64 c, .slice A l.length cp] 34)))
      rw [World.size_alloc] at this
      exact this
    · have := below_alloc (Below.refl (w.alloc (.cells #[.int .i64 k, .int .i64 c, .slice A l.length cp] 34)).heap.size (w.alloc (.cells #[.int .i64 k, .int .i64 c, .slice A l.length cp] 34))) (.cells #[Value.pointer none, Value.slice none 0 0] 52)
      rw [World.size_alloc] at this
      exact this
  case round =>
    obtain ⟨i, rfl, hi0, hi1, HI, HB⟩ := hrel
    have HW := Aside0.mk (show Below w.heap.size w wr from (below_alloc (Below.refl w.heap.size w) _).trans (HB.out.mono (by omega)))
    have HS := Aside0.mk (show w.heap.size + 1 ≤ wr.heap.size by have := HB.out.size; rw [World.size_alloc] at this; exact this)
    by_cases hlt : i < l.length
    · obtain ⟨ad, e1, hx0⟩ := int_at H.out i hi0 hlt
      subst e1
      replace hx0 := (HW.out.cell (World.block_lt_of_cell? w _ hx0)).trans hx0
      have HX := Aside0.mk (show okInt (l.getD i.toNat 0) from HR.out _ (by
        rw [List.getD_eq_getElem?_getD, List.getElem?_eq_getElem (by omega)]; exact List.getElem_mem _))
      obtain ⟨n, hn⟩ : ∃ n, l.getD i.toNat 0 = n := ⟨_, rfl⟩
      have hs := lines_snoc l i.toNat (by omega)
      have hlen := lines_len (l.take i.toNat) (fun m hm => HR.out m (List.mem_of_mem_take hm))
      rw [hn] at hx0 HX hs
      have HSN := Aside0.mk hs
      have HLN := Aside0.mk (show (lines (l.take i.toNat)).length ≤ 22000 by rw [List.length_take] at hlen; have := HLL.out; omega)
      clear hn hs hlen
      go_wp2_with (first | (go_at_call 17; (refine (itoa_call n HX.out _ (Tab.below HT.out HW.out) HI.out).mono ?_); rintro e w2 ⟨rfl, hI2, hb2⟩; have HI2 := Aside0.mk hI2; have HB2 := Aside0.mk hb2; clear hI2 hb2) | (go_at_call 25; (refine (line_call (w.heap.size + 1) _ (itoaB n) _ HI2.out ?side1 ?side2).mono ?_); (case side1 => have := HS.out; have := HB2.out.size; omega); (case side2 => have := HLN.out; have := itoaB_size n HX.out; omega); rintro e w3 ⟨rfl, hI3, hb3⟩; have HI3 := Aside0.mk hI3; have HB3 := Aside0.mk hb3; clear hI3 hb3))
      go_roundw
      case measure => simp [intOf]; omega
      case rel =>
        refine ⟨i + 1, rfl, by omega, by omega, ⟨?_⟩, ⟨?_⟩⟩
        · have e : (i + 1).toNat = i.toNat + 1 := by omega
          rw [e, HSN.out]
          exact HI3.out
        · exact HB.out.trans ((HB2.out.mono HS.out).trans HB3.out)
    · have hlen := lines_len l HR.out
      have e : l.take i.toNat = l := List.take_of_length_le (by omega)
      have HI1 := Aside0.mk (show Lib.IsBuilderF 52 5 (w.heap.size + 1) (w.heap.size + 1) (Lib.byteCells (lines l)) wr by have := HI.out; rwa [e] at this)
      have HLN := Aside0.mk (show (lines l).length ≤ 22000 by have := HLL.out; omega)
      clear hlen e HI
      have hp0 : wr.cell? ⟨w.heap.size, 0, none⟩ = some (.int .i64 k) := (HB.out.cell (p := ⟨w.heap.size, 0, none⟩) (by simp)).trans (by rw [World.cell?_alloc_new]; rfl)
      have hp1 : wr.cell? ⟨w.heap.size, 1, none⟩ = some (.int .i64 c) := (HB.out.cell (p := ⟨w.heap.size, 1, none⟩) (by simp)).trans (by rw [World.cell?_alloc_new]; rfl)
      by_cases h1 : k = 1
      · subst h1
        have hkn : known 1 = true := rfl
        have e : lastB 1 c = wordB 1 ++ (⟨#[32]⟩ ++ itoaB c) := if_pos rfl
        have hz1 := itoaB_size c HC.out
        have hz2 := wordB_size 1
        have HZ0 := lastB_size 1 c HC.out
        obtain ⟨x, hx⟩ : ∃ x, wordB 1 = x := ⟨_, rfl⟩
        have HX := Aside0.mk hx
        rw [hx] at e hz2
        clear hx
        have hz3 : 1 + (itoaB c).size ≤ 9223372036854775807 := by omega
        have hz4 : x.size + (1 + (itoaB c).size) ≤ 9223372036854775807 := by omega
        have HZ := Aside0.mk (show (x ++ (⟨#[32]⟩ ++ itoaB c)).size ≤ 34 by rw [← e]; exact HZ0)
        have HE := Aside0.mk e
        clear e hz1 hz2 HZ0
        have HID := Aside0.mk (show Lib.IsBuilderF 52 5 (w.heap.size + 1) (w.heap.size + 1) (Lib.byteCells (lines l)) wr.drew from HI1.out.imp (fun h => h.drew) (fun h => h.drew))
        go_wp2
        go_region_with (first | (go_at_call 27; (refine (words_call _ HID.out).mono ?_); rintro e w4 ⟨m, rfl, hm, hI4, hb4⟩; have HM := Aside0.mk hm; have HI4 := Aside0.mk hI4; have HB4 := Aside0.mk (Below.trans (Below.drew (Below.refl wr.heap.size wr)) hb4); have hq0 := (hb4.cell (p := ⟨w.heap.size, 0, none⟩) HS.out).trans hp0; have hq1 := (hb4.cell (p := ⟨w.heap.size, 1, none⟩) HS.out).trans hp1; have hlk := word_run w4 m hm 1 HK.out; rw [HX.out] at hlk; clear hm hI4 hb4))
        all_goals
          go_wp2_with (first | (go_at_call 17; (with_reducible refine (itoa_call c HC.out _ (Tab.below HT.out (HW.out.trans (HB4.out.mono HW.out.size))) HI4.out).mono ?_); rintro e w7 ⟨rfl, hI7, hb7⟩; have HI7 := Aside0.mk hI7; have HB7 := Aside0.mk hb7; clear hI7 hb7) | (go_at_call 25; (with_reducible refine (line_call (w.heap.size + 1) _ (x ++ (⟨#[32]⟩ ++ itoaB c)) _ HI7.out ?side1 ?side2).mono ?_); (case side1 => have h1 := HS.out; have h2 := HB4.out.size; have h4 := HB7.out.size; omega); (case side2 => have h1 := HLN.out; have h5 := HZ.out; omega); rintro e w5 ⟨rfl, hI5, hb5⟩; have HI5 := Aside0.mk hI5; have HB5 := Aside0.mk hb5; clear hI5 hb5) | (go_at_call 28; (with_reducible refine (Tryd.Builder_String_any_k (w.heap.size + 1) (w.heap.size + 1) _ _ HI5.out ?side1).mono ?_); (case side1 => have h1 := HS.out; have h2 := HB4.out.size; have h3 := HB5.out.size; have h4 := HB7.out.size; omega); rintro e w6 ⟨rfl, _, hb6, _⟩))
          go_ret
          refine ⟨by unfold outL; rw [HE.out]; first | rfl | (refine congrArg Ending.returned (congrArg Value.string (congrArg ByteArray.mk ?_)); simp; done), ?_⟩
          have h1 := HB4.out.mono HW.out.size
          have h3 := HB5.out.mono (show w.heap.size ≤ w.heap.size + 1 by omega)
          have h4 := hb6.mono (show w.heap.size ≤ w.heap.size + 1 by omega)
          have h2 := HB7.out.mono (show w.heap.size ≤ _ from Nat.le_trans HW.out.size HB4.out.size)
          exact HW.out.trans (h1.trans (h2.trans (h3.trans h4)))
      · cases hkn : known k with
        | true =>
          have e : lastB k c = wordB k := by unfold lastB; rw [if_neg h1, if_pos hkn]
          have HZ0 := lastB_size k c HC.out
          obtain ⟨x, hx⟩ : ∃ x, wordB k = x := ⟨_, rfl⟩
          have HX := Aside0.mk hx
          rw [hx] at e
          have HZ := Aside0.mk (show x.size ≤ 34 by rw [← e]; exact HZ0)
          clear hx HZ0
          have HE := Aside0.mk e
          clear e
          have HID := Aside0.mk (show Lib.IsBuilderF 52 5 (w.heap.size + 1) (w.heap.size + 1) (Lib.byteCells (lines l)) wr.drew from HI1.out.imp (fun h => h.drew) (fun h => h.drew))
          go_wp2
          go_region_with (first | (go_at_call 27; (refine (words_call _ HID.out).mono ?_); rintro e w4 ⟨m, rfl, hm, hI4, hb4⟩; have HM := Aside0.mk hm; have HI4 := Aside0.mk hI4; have HB4 := Aside0.mk (Below.trans (Below.drew (Below.refl wr.heap.size wr)) hb4); have hq0 := (hb4.cell (p := ⟨w.heap.size, 0, none⟩) HS.out).trans hp0; have hq1 := (hb4.cell (p := ⟨w.heap.size, 1, none⟩) HS.out).trans hp1; have hlk := word_run w4 m hm k HK.out; rw [HX.out] at hlk; clear hm hI4 hb4))
          all_goals
            go_wp2_with (first | (go_at_call 25; (with_reducible refine (line_call (w.heap.size + 1) _ x _ HI4.out ?side1 ?side2).mono ?_); (case side1 => have h1 := HS.out; have h2 := HB4.out.size; omega); (case side2 => have h1 := HLN.out; have h5 := HZ.out; omega); rintro e w5 ⟨rfl, hI5, hb5⟩; have HI5 := Aside0.mk hI5; have HB5 := Aside0.mk hb5; clear hI5 hb5) | (go_at_call 28; (with_reducible refine (Tryd.Builder_String_any_k (w.heap.size + 1) (w.heap.size + 1) _ _ HI5.out ?side1).mono ?_); (case side1 => have h1 := HS.out; have h2 := HB4.out.size; have h3 := HB5.out.size; omega); rintro e w6 ⟨rfl, _, hb6, _⟩))
            go_ret
            refine ⟨by unfold outL; rw [HE.out]; first | rfl | (refine congrArg Ending.returned (congrArg Value.string (congrArg ByteArray.mk ?_)); simp; done), ?_⟩
            have h1 := HB4.out.mono HW.out.size
            have h3 := HB5.out.mono (show w.heap.size ≤ w.heap.size + 1 by omega)
            have h4 := hb6.mono (show w.heap.size ≤ w.heap.size + 1 by omega)
            exact HW.out.trans (h1.trans (h3.trans h4))
        | false =>
          have e : lastB k c = ⟨#[63]⟩ := by unfold lastB; rw [if_neg h1, hkn]; rfl
          have HZ := Aside0.mk (show (⟨#[63]⟩ : ByteArray).size ≤ 34 by decide)
          obtain ⟨x, hx⟩ : ∃ x, wordB k = x := ⟨_, rfl⟩
          have HX := Aside0.mk hx
          clear hx
          have HE := Aside0.mk e
          clear e
          have HID := Aside0.mk (show Lib.IsBuilderF 52 5 (w.heap.size + 1) (w.heap.size + 1) (Lib.byteCells (lines l)) wr.drew from HI1.out.imp (fun h => h.drew) (fun h => h.drew))
          go_wp2
          go_region_with (first | (go_at_call 27; (refine (words_call _ HID.out).mono ?_); rintro e w4 ⟨m, rfl, hm, hI4, hb4⟩; have HM := Aside0.mk hm; have HI4 := Aside0.mk hI4; have HB4 := Aside0.mk (Below.trans (Below.drew (Below.refl wr.heap.size wr)) hb4); have hq0 := (hb4.cell (p := ⟨w.heap.size, 0, none⟩) HS.out).trans hp0; have hq1 := (hb4.cell (p := ⟨w.heap.size, 1, none⟩) HS.out).trans hp1; have hlk := word_run w4 m hm k HK.out; rw [HX.out] at hlk; clear hm hI4 hb4))
          all_goals
            go_wp2_with (first | (go_at_call 25; (with_reducible refine (line_call (w.heap.size + 1) _ ⟨#[63]⟩ _ HI4.out ?side1 ?side2).mono ?_); (case side1 => have h1 := HS.out; have h2 := HB4.out.size; omega); (case side2 => have h1 := HLN.out; have h5 := HZ.out; omega); rintro e w5 ⟨rfl, hI5, hb5⟩; have HI5 := Aside0.mk hI5; have HB5 := Aside0.mk hb5; clear hI5 hb5) | (go_at_call 28; (with_reducible refine (Tryd.Builder_String_any_k (w.heap.size + 1) (w.heap.size + 1) _ _ HI5.out ?side1).mono ?_); (case side1 => have h1 := HS.out; have h2 := HB4.out.size; have h3 := HB5.out.size; omega); rintro e w6 ⟨rfl, _, hb6, _⟩))
            go_ret
            refine ⟨by unfold outL; rw [HE.out]; first | rfl | (refine congrArg Ending.returned (congrArg Value.string (congrArg ByteArray.mk ?_)); simp; done), ?_⟩
            have h1 := HB4.out.mono HW.out.size
            have h3 := HB5.out.mono (show w.heap.size ≤ w.heap.size + 1 by omega)
            have h4 := hb6.mono (show w.heap.size ≤ w.heap.size + 1 by omega)
            exact HW.out.trans (h1.trans (h3.trans h4))
end Go.Proofs.YtocjfdpknfnamaaDoor.Rep
