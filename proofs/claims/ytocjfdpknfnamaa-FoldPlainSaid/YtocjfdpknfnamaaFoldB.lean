/- The walk of fold.Plain: a call tells, of any function, what the plain function says of its locals and its instructions' places. -/
import Derived.Test.YtocjfdpknfnamaaFoldA
namespace Go.Proofs.Ytocjfdpknfnamaa.Fold
open Go.RowKit Go.Proofs.Ytocjfdpknfnamaa.QFoldPlain Go.Proofs.YtocjfdpknfnamaaW.PrintWords Go.Proofs.YtocjfdpknfnamaaW.PrintLast Go.Proofs.YtocjfdpknfnamaaW.PrintMore
set_option linter.unusedVariables false

/-- The places that an instruction has. -/
def places (i : S69) : List S67 :=
  if i.f0 = 3 ∨ i.f0 = 4 ∨ i.f0 = 6 ∨ i.f0 = 9 then [i.f4] else if i.f0 = 5 then [i.f4, i.f5] else []
/-- Is a place made of a local's own memory? -/
def own (p : S67) : Bool := p.f1.length == 0 || ((rd_T72 p.f1 0).f0 != 3)
def off (L : List Bool) (p : S67) : List Bool := if own p && (decide (0 ≤ p.f0) && decide (p.f0 < (L.length : Int))) then L.set p.f0.toNat false else L
def offP (L : List Bool) (l : List S67) : List Bool := l.foldl off L
def offI (L : List Bool) (l : List S69) : List Bool := l.foldl (fun L i => offP L (places i)) L
def offB (L : List Bool) (l : List S61) : List Bool := l.foldl (fun L b => offI L b.f0) L
def plain (locals : List Int) (blocks : List S61) : List Bool := offB (locals.map (· == 1)) blocks

theorem off_length (L : List Bool) (p : S67) : (off L p).length = L.length := by unfold off; split <;> simp
theorem offP_length (l : List S67) : ∀ L : List Bool, (offP L l).length = L.length := by
  induction l with
  | nil => intro L; rfl
  | cons p l ih => intro L; show (offP (off L p) l).length = _; rw [ih, off_length]
theorem offI_length (l : List S69) : ∀ L : List Bool, (offI L l).length = L.length := by
  induction l with
  | nil => intro L; rfl
  | cons p l ih => intro L; show (offI (offP L (places p)) l).length = _; rw [ih, offP_length]
theorem offB_length (l : List S61) : ∀ L : List Bool, (offB L l).length = L.length := by
  induction l with
  | nil => intro L; rfl
  | cons p l ih => intro L; show (offB (offI L p.f0) l).length = _; rw [ih, offI_length]

theorem r_form {α : Type} {d : Kd α} {e base b n : Nat} {ok : Nat → Prop} {w : World} {v : Value} {xs : List α} (h : d.R e w base ok v xs) (hb : v.ownBlock = some b) (hn : xs.length = n) : ∃ cap, v = .slice (some ⟨b, 0, none⟩) n cap ∧ base ≤ b := by
  subst hn
  obtain ⟨_, inner, ⟨_, ho⟩, _⟩ := h
  rcases ho with ⟨rfl, _⟩ | ⟨g, cap, cur, rfl, hg, _⟩
  · simp [Value.ownBlock] at hb
  · have : g = b := by simpa [Value.ownBlock] using hb
    subst this
    exact ⟨cap, rfl, hg⟩
theorem far_of {w w1 : World} {g : Nat} {t : TypeId} {cs : Array Value} {p : Addr} {u : Value} (h : w.heap[g]? = some (.cells cs t (0, 0))) (hp : g ≠ p.block) (e : w1 = w.setCell p u) : w1.heap[g]? = some (.cells cs t (0, 0)) := by
  rw [e]; exact blk_far h hp u
theorem below_of {w0 w w1 : World} {g j : Nat} {v : Value} (h : Below w0.heap.size w0 w) (hg : w0.heap.size ≤ g) (e : w1 = w.setCell ⟨g, j, none⟩ v) : Below w0.heap.size w0 w1 := by
  rw [e]; exact below_set h hg
theorem r_set {e base g n cap : Nat} {ok : Nat → Prop} {w w1 : World} {xs : List Bool} {i : Int} {b : Bool} (h : Kd.R Kd.bool e w base ok (.slice (some ⟨g, 0, none⟩) n cap) xs) (hw : w1 = w.setCell ⟨g, i.toNat, none⟩ (.bool b)) : Kd.R Kd.bool e w1 base ok (.slice (some ⟨g, 0, none⟩) n cap) (xs.set i.toNat b) := by
  rw [hw]; exact Kd.R_putn h i b
theorem r_cell {e base g n cap : Nat} {ok : Nat → Prop} {w : World} {xs : List Bool} (h : Kd.R Kd.bool e w base ok (.slice (some ⟨g, 0, none⟩) n cap) xs) (i : Int) (h0 : 0 ≤ i) (hi : i < n) : w.cell? ⟨g, i.toNat, none⟩ = some (.bool (rdOf false xs i)) ∧ w.frozen? ⟨g, i.toNat, none⟩ = false := by
  obtain ⟨rfl, _⟩ := Kd.R_reads' h
  exact Kd.R_cell false h i h0 hi
/-- The first loop's row behind i rounds. -/
def row1 (locals : List Int) (i : Int) : List Bool := (locals.take i.toNat).map (· == 1) ++ List.replicate (locals.length - i.toNat) false
theorem row1_length (locals : List Int) (i : Int) (h : i ≤ locals.length) : (row1 locals i).length = locals.length := by
  unfold row1; simp; omega
theorem row1_set (locals : List Int) (i : Int) (h0 : 0 ≤ i) (h : i < locals.length) : (row1 locals i).set i.toNat (rd locals i == 1) = row1 locals (i + 1) := by
  have hl : (row1 locals i).length = locals.length := row1_length locals i (by omega)
  obtain ⟨m, rfl⟩ := Int.eq_ofNat_of_zero_le h0
  have hm : m < locals.length := by omega
  have e1 : ((m : Int) + 1).toNat = m + 1 := by omega
  unfold row1 rd
  rw [e1, Int.toNat_natCast]
  rw [List.set_append_right _ _ (by simp; omega)]
  have e2 : m - (List.map (fun x => x == (1 : Int)) (List.take m locals)).length = 0 := by simp; omega
  rw [e2, show locals.length - m = (locals.length - (m + 1)) + 1 by omega, List.replicate_succ, List.set_cons_zero, List.take_succ_eq_append_getElem hm, List.map_append, List.append_assoc]
  congr 1
  rw [List.getD_eq_getElem?_getD, List.getElem?_eq_getElem hm]
  rfl

/-- The cells of a place of an instruction. -/
theorem place_at {x : S69} {ad : Addr} {w : World} {A7 A9 : Option Addr} {c7 c9 : Nat} (h6 : w.cell? ⟨ad.block, ad.off + 6, none⟩ = some (.int .i64 x.f4.f0)) (h7 : w.cell? ⟨ad.block, ad.off + 7, none⟩ = some (.slice A7 x.f4.f1.length c7))
    (h8 : w.cell? ⟨ad.block, ad.off + 8, none⟩ = some (.int .i64 x.f5.f0)) (h9 : w.cell? ⟨ad.block, ad.off + 9, none⟩ = some (.slice A9 x.f5.f1.length c9)) (g7 : k72.C w A7 x.f4.f1.length x.f4.f1) (g9 : k72.C w A9 x.f5.f1.length x.f5.f1) :
    (places x).length = (addrs x.f0 ad).length ∧ (places x).length ≤ 2 ∧ ∀ m : Nat, m < (places x).length → ∃ (p : S67) (pa : Addr) (B : Option Addr) (d : Nat), (addrs x.f0 ad)[m]? = some pa ∧ (places x)[m]? = some p ∧
      w.cell? pa = some (.int .i64 p.f0) ∧ w.cell? ⟨pa.block, pa.off + 1, none⟩ = some (.slice B p.f1.length d) ∧ k72.C w B p.f1.length p.f1 := by
  unfold places addrs
  by_cases h : x.f0 = 3 ∨ x.f0 = 4 ∨ x.f0 = 6 ∨ x.f0 = 9
  · rw [if_pos h, if_pos h]
    refine ⟨rfl, by simp, fun m hm => ?_⟩
    obtain rfl : m = 0 := by simpa using hm
    exact ⟨x.f4, at6 ad, A7, c7, rfl, rfl, h6, h7, g7⟩
  · rw [if_neg h, if_neg h]
    by_cases h5 : x.f0 = 5
    · rw [if_pos h5, if_pos h5]
      refine ⟨rfl, by simp, fun m hm => ?_⟩
      have hm2 : m = 0 ∨ m = 1 := by simp at hm; omega
      rcases hm2 with rfl | rfl
      · exact ⟨x.f4, at6 ad, A7, c7, rfl, rfl, h6, h7, g7⟩
      · exact ⟨x.f5, at8 ad, A9, c9, rfl, rfl, h8, h9, g9⟩
    · rw [if_neg h5, if_neg h5]
      exact ⟨rfl, by simp, fun m hm => by simp at hm⟩

theorem step_p {L r : List Bool} {is : List S69} {rest : List S61} (l : List S67) (p : S67) (m : Int) (h0 : 0 ≤ m) (h : l[m.toNat]? = some p) (e : offB (offI (offP L (l.drop m.toNat)) is) rest = r) : offB (offI (offP (off L p) (l.drop (m.toNat + 1))) is) rest = r := by
  obtain ⟨hl, hp⟩ := List.getElem?_eq_some_iff.1 h
  rw [List.drop_eq_getElem_cons hl, hp] at e; exact e
theorem r_far {α : Type} {d : Kd α} {e base : Nat} {ok : Nat → Prop} {w w1 : World} {v u : Value} {xs : List α} {p : Addr} (h : d.R e w base ok v xs) (e1 : w1 = w.setCell p u) (hok : ∀ k, ok k → k ≠ p.block) : d.R e w1 base ok v xs := by
  rw [e1]; exact Kd.R_far h hok u
theorem r_lt {α : Type} {d : Kd α} {e base g n cap : Nat} {ok : Nat → Prop} {w : World} {xs : List α} (h : d.R e w base ok (.slice (some ⟨g, 0, none⟩) n cap) xs) : g < w.heap.size := by
  obtain ⟨_, inner, ho, _⟩ := h
  exact own_lt ho g rfl
theorem r_apart {α : Type} {d : Kd α} {e base g : Nat} {ok : Nat → Prop} {w : World} {v : Value} {xs : List α} (h : d.R e w base ok v xs) (hg : g < base) : d.R e w base (fun k => k ≠ g) v xs :=
  Kd.R_mono (Kd.R_bound h) (fun k hk => by have := hk.2.1; omega)
theorem drop_rd {α : Type} {xs : List α} {i : Int} (d : α) (h0 : 0 ≤ i) (h : i < xs.length) : xs.drop i.toNat = xs.getD i.toNat d :: xs.drop (i.toNat + 1) := by
  have hl : i.toNat < xs.length := by omega
  rw [List.drop_eq_getElem_cons hl, List.getD_eq_getElem?_getD, List.getElem?_eq_getElem hl]
  rfl
theorem step_b {L r : List Bool} (bs : List S61) (b : Int) (h0 : 0 ≤ b) (h : b < bs.length) (e : offB L (bs.drop b.toNat) = r) : offB (offI L ((rd_T61 bs b).f0.drop (0 : Int).toNat)) (bs.drop (b.toNat + 1)) = r := by
  rw [drop_rd z61 h0 h] at e; exact e
theorem step_i {L r : List Bool} {rest : List S61} (l : List S69) (j : Int) (h0 : 0 ≤ j) (h : j < l.length) (e : offB (offI L (l.drop j.toNat)) rest = r) : offB (offI (offP L ((places (rd_T69 l j)).drop (0 : Int).toNat)) (l.drop (j.toNat + 1))) rest = r := by
  rw [drop_rd z69 h0 h] at e; exact e

set_option maxHeartbeats 4000000 in
set_option maxRecDepth 100000 in
theorem plain_any (nm : ByteArray) (A1 : Option Addr) (c1 : Nat) (locals : List Int) (f2 f3 : Int) (f4 : Bool) (A5 : Option Addr) (c5 : Nat) (blocks : List S61) (w : World)
    (h1 : (Kd.int .i64).C w A1 locals.length locals) (hc1 : locals.length ≤ c1) (h5 : k61.C w A5 blocks.length blocks) (hc5 : blocks.length ≤ c5) (hn : locals.length ≤ 1000) :
    Calls Try.prog 11 #[.agg #[.string nm, .slice A1 locals.length c1, .int .i64 f2, .int .i64 f3, .bool f4, .slice A5 blocks.length c5]] w fun e w' => ∃ v, e = .returned v ∧ Kd.R Kd.bool 4 w' w.heap.size (fun _ => True) v (plain locals blocks) ∧ Below w.heap.size w w' := by
  have hm5 := Kd.C_max h5
  have H1 := Aside0.mk h1
  have H5 := Aside0.mk h5
  have HK : Aside0 (((locals.length : Int).toNat) * 1 ≤ 281474976710656) := ⟨by omega⟩
  have hu40 := Try.underlying40
  clear h1 h5
  go_enter Try.func11, Try.ntmps11
  go_wp2_with (at_make; go_must (refine Kd.R_make Kd.bool (w0 := w) w.heap.size 4 rfl (N := 13) rfl 35 (.tmp 12) (.tmp 12) rfl (locals.length : Int) rfl rfl Try.underlying35 (.bool false) 1 (by kernel_rfl) rfl (by decide) (by decide) false (ok := fun _ => True) (okp := fun _ => False) rfl (fun _ h => h.elim) trivial (by omega) HK.out ?hb ?hs ?_; (case hb => exact below_alloc (Below.refl _ _) _); (case hs => simp); intro v1 w1 hR hb hg hat; obtain ⟨g, hg1, hg2⟩ := hat; obtain ⟨cap, rfl, hbase⟩ := r_form (n := locals.length) hR hg1 (by simp); have HR0 := Aside0.mk hR; have HB0 := Aside0.mk hb; have BX0 := Aside0.mk (blk_grown (blk_new w _) hg (by simp)); have hgw : w.heap.size < g := (by simp at hg2; omega); clear hR hb hg hg1 hg2 hbase; have q1 := (blk_cell BX0.out 1).trans rfl))
  go_loopw [17] (fun v w' => ∃ i : Int, v = .int .i64 i ∧ 0 ≤ i ∧ i ≤ locals.length ∧ Aside0 (Kd.R Kd.bool 4 w' w.heap.size (fun _ => True) (.slice (some ⟨g, 0, none⟩) locals.length cap) (row1 locals i)) ∧ Aside0 (w'.heap[w.heap.size]? = some (.cells #[.string nm, .slice A1 locals.length c1, .int .i64 f2, .int .i64 f3, .bool f4, .slice A5 blocks.length c5] 40 (0, 0))) ∧ Aside0 (Below w.heap.size w w')) (fun i _ => locals.length - (intOf i).toNat)
  case atStart => exact ⟨0, rfl, by omega, by omega, ⟨by have := HR0.out; simpa [row1] using this⟩, ⟨BX0.out⟩, ⟨HB0.out⟩⟩
  case round =>
    clear HR0 HB0 BX0 q1
    obtain ⟨i, rfl, hi0, hi1, HR, BX, HB⟩ := hrel
    by_cases hlt : i < locals.length
    · obtain ⟨ad, e1, hx⟩ := Kd.at_int H1.out i hi0 hlt
      replace hx := (HB.out.cell (World.block_lt_of_cell? w _ hx)).trans hx
      obtain ⟨hz, hf⟩ := r_cell HR.out i hi0 (by omega)
      cases e1
      go_wp2_with ((with_reducible refine gate_store (t := 4) (p := 26) rfl ?_); go_must (refine store_event (t := 4) (p := 26) (v := ?vo_26) (w1 := wr.setCell ⟨g, i.toNat, none⟩ (.bool (rd locals i == 1))) ?hg ?ho ?hn ?hr ?_; (case ho => rfl); (case hg => rfl); (case hn => rfl); (case hr => first | (go_simp; done) | (go_simp; rfl)); intro wA hw_; have n0_ := Aside0.mk (below_of HB.out (Nat.le_of_lt hgw) hw_); have n1_ := Aside0.mk (far_of BX.out (Nat.ne_of_lt hgw) hw_); have n2_ := Aside0.mk (r_set HR.out hw_); clear hw_ HB BX HR; have HB := n0_; have BX := n1_; have HR := n2_; clear n0_ n1_ n2_))
      go_roundw
      case measure => simp [intOf]; omega
      case rel => exact ⟨i + 1, rfl, by omega, by omega, ⟨by rw [← row1_set locals i hi0 hlt]; exact HR.out⟩, BX, HB⟩
    · have hd : decide (i < (locals.length : Int)) = false := decide_eq_false hlt
      obtain rfl : i = locals.length := by omega
--LOOPS--
--LOOPS--
--LOOPS--
--LOOPS--
--LOOPS--
      have q5 := (blk_cell BX.out 5).trans rfl
      have HL0 : (row1 locals (locals.length : Int)).length = locals.length := row1_length locals _ (Int.le_refl _)
      have HE0 : offB (row1 locals (locals.length : Int)) (blocks.drop 0) = plain locals blocks := by unfold plain row1; simp
      have X1 := Aside0.mk HL0
      have X2 := Aside0.mk HE0
      clear HL0 HE0
      go_wp2_with fail
      go_loopw [31] (fun v w' => ∃ b : Int, v = .int .i64 b ∧ 0 ≤ b ∧ b ≤ blocks.length ∧ ∃ L : List Bool, Aside0 (L.length = locals.length) ∧ Aside0 (offB L (blocks.drop b.toNat) = plain locals blocks) ∧ Aside0 (Kd.R Kd.bool 4 w' w.heap.size (fun _ => True) (.slice (some ⟨g, 0, none⟩) locals.length cap) L) ∧ Aside0 (w'.heap[w.heap.size]? = some (.cells #[.string nm, .slice A1 locals.length c1, .int .i64 f2, .int .i64 f3, .bool f4, .slice A5 blocks.length c5] 40 (0, 0))) ∧ Aside0 (Below w.heap.size w w')) (fun i _ => blocks.length - (intOf i).toNat)
      case atStart => exact ⟨0, rfl, by omega, by omega, _, X1, X2, ⟨by first | exact HR.out | exact Kd.R_below HR.out (below_drew (Below.refl _ _))⟩, ⟨by exact BX.out⟩, ⟨by exact HB.out⟩⟩
      case round =>
        clear HR BX HB q5 X1 X2
        obtain ⟨b, rfl, hb0, hb1, L, HL, HQ, HR, BX, HB⟩ := hrel
        by_cases hbt : b < blocks.length
        · obtain ⟨ad, A0, c0, A6, c6, e5, hy0, _, _, _, _, _, _, ly, gy, _, _⟩ := at_T61 H5.out b hb0 hbt
          cases e5
          have hm0 := Kd.C_max gy
          have GY := Aside0.mk gy
          have LY := Aside0.mk ly
          have HY := Aside0.mk hy0
          clear gy ly hy0
          have hy := (HB.out.cell (World.block_lt_of_cell? w _ HY.out)).trans HY.out
          have q5 := (blk_cell BX.out 5).trans rfl
          have X2 := Aside0.mk (step_b (L := L) blocks b hb0 hbt HQ.out)
          clear HQ
          obtain ⟨l, hl⟩ : ∃ l, (rd_T61 blocks b).f0 = l := ⟨_, rfl⟩
          rw [hl] at hy HY GY LY X2 hm0
          clear hl
          go_wp2_with fail
          obtain ⟨wo, hwo⟩ : ∃ wo : World, wo = wr := ⟨_, rfl⟩
          subst hwo
          go_loopw [41] (fun v w' => ∃ j : Int, v = .int .i64 j ∧ 0 ≤ j ∧ j ≤ l.length ∧ ∃ L : List Bool, Aside0 (L.length = locals.length) ∧ Aside0 (offB (offI L (l.drop j.toNat)) (blocks.drop (b.toNat + 1)) = plain locals blocks) ∧ Aside0 (Kd.R Kd.bool 4 w' w.heap.size (fun _ => True) (.slice (some ⟨g, 0, none⟩) locals.length cap) L) ∧ Aside0 (w'.heap[w.heap.size]? = some (.cells #[.string nm, .slice A1 locals.length c1, .int .i64 f2, .int .i64 f3, .bool f4, .slice (some ad) blocks.length c5] 40 (0, 0))) ∧ Aside0 (Below w.heap.size w w')) (fun i _ => l.length - (intOf i).toNat)
          case atStart => exact ⟨0, rfl, by omega, by omega, L, HL, X2, ⟨HR.out⟩, ⟨BX.out⟩, ⟨HB.out⟩⟩
          case round =>
            clear HR BX HB HL q5 X2 hy
            obtain ⟨j, rfl, hj0, hj1, L2, HL, HQ, HR, BX, HB⟩ := hrel
            by_cases hjt : j < l.length
            · obtain ⟨ad2, A7, c7, A9, c9, A15, c15, A16, c16, A17, c17, e6, hx0, hx1, hx2, hx3, hx4, hx5, hx6, hx7, hx8, hx9, _, _, _, _, _, _, _, _, l7, g7, l9, g9, _, _, _, _, _, _⟩ := at_T69 GY.out j hj0 hjt
              cases e6
              obtain ⟨hpl, hpl2, hpa⟩ := place_at hx6 hx7 hx8 hx9 g7 g9
              have HPA := Aside0.mk hpa
              have HPL := Aside0.mk hpl
              have HX := Aside0.mk hx0
              clear hx0 hx1 hx2 hx3 hx4 hx5 hx6 hx7 hx8 hx9 l7 g7 l9 g9 hpa hpl
              have hx := (HB.out.cell (World.block_lt_of_cell? w _ HX.out)).trans HX.out
              have hy := (HB.out.cell (World.block_lt_of_cell? w _ HY.out)).trans HY.out
              have q5 := (blk_cell BX.out 5).trans rfl
              have X2 := Aside0.mk (step_i (L := L2) l j hj0 hjt HQ.out)
              clear HQ
              obtain ⟨xi, hxi⟩ : ∃ xi, rd_T69 l j = xi := ⟨_, rfl⟩
              rw [hxi] at HPA HPL HX hx X2 hpl2
              clear hxi
              go_wp2_with (go_at_call 21; (with_reducible refine (places_any _ xi.f0 _ hx).mono ?_); rintro e w3 ⟨vp, rfl, hrp, hb3⟩; obtain ⟨Ap, cp, rfl, hlp, _⟩ := Kd.R_reads hrp; have hgl_ := r_lt HR.out; have HRP := Aside0.mk (r_apart hrp hgl_); have n0_ := Aside0.mk (below_step HB.out hb3); have n1_ := Aside0.mk (blk_below BX.out hb3); have n2_ := Aside0.mk (Kd.R_below HR.out hb3); clear HB BX HR hb3 hrp hgl_ hx hy q5; have HB := n0_; have BX := n1_; have HR := n2_; clear n0_ n1_ n2_)
              have HQX := Aside0.mk (show (addrs xi.f0 (ad2.add (j.toNat * 18))).length ≤ 2 by rw [← HPL.out]; exact hpl2)
              obtain ⟨ps, hps⟩ : ∃ ps, addrs xi.f0 (ad2.add (j.toNat * 18)) = ps := ⟨_, rfl⟩
              rw [hps] at HRP HPA HPL HQX hlp ⊢
              obtain ⟨wp, hwp⟩ : ∃ wp : World, wp = wr := ⟨_, rfl⟩
              have hq2 := HQX.out
              clear hps HQX hpl2 hwp wp
              go_loopw [54] (fun v w' => ∃ m : Int, v = .int .i64 m ∧ 0 ≤ m ∧ m ≤ ps.length ∧ Aside0 (kptr.R 70 w' wr.heap.size (fun k => k ≠ g) (.slice Ap ps.length cp) ps) ∧ ∃ L : List Bool, Aside0 (L.length = locals.length) ∧ Aside0 (offB (offI (offP L ((places xi).drop m.toNat)) (l.drop (j.toNat + 1))) (blocks.drop (b.toNat + 1)) = plain locals blocks) ∧ Aside0 (Kd.R Kd.bool 4 w' w.heap.size (fun _ => True) (.slice (some ⟨g, 0, none⟩) locals.length cap) L) ∧ Aside0 (w'.heap[w.heap.size]? = some (.cells #[.string nm, .slice A1 locals.length c1, .int .i64 f2, .int .i64 f3, .bool f4, .slice (some ad) blocks.length c5] 40 (0, 0))) ∧ Aside0 (Below w.heap.size w w')) (fun i _ => ps.length - (intOf i).toNat)
              case atStart => exact ⟨0, rfl, by omega, by omega, HRP, _, HL, X2, ⟨HR.out⟩, ⟨BX.out⟩, ⟨HB.out⟩⟩
              case round =>
                clear HR BX HB HL X2 HRP
                obtain ⟨m, rfl, hm0, hm1, HRP, L3, HL, HQ, HR, BX, HB⟩ := hrel
                by_cases hmt : m < ps.length
                · obtain ⟨p, pa, B, dB, hp1, hp2, hp3, hp4, g72⟩ := HPA.out m.toNat (by rw [HPL.out]; omega)
                  obtain ⟨app, cpp, e7, _, hKp, hcp⟩ := Kd.C_get (Kd.R_reads' HRP.out).2.2 pa m hm0 hmt
                  have hKp2 : cpp = [.pointer (some pa)] := by have := hKp; rw [List.getD_eq_getElem?_getD, hp1] at this; exact this
                  subst hKp2
                  have hcell := hcp 0 _ rfl
                  rw [show m.toNat * kptr.sz + 0 = m.toNat from Nat.mul_one _] at hcell
                  cases e7
                  have X3 := Aside0.mk (step_p (L := L3) (places xi) p m hm0 hp2 HQ.out)
                  clear HQ hp1 hp2 hKp hcp
                  replace hp3 := (HB.out.cell (World.block_lt_of_cell? w _ hp3)).trans hp3
                  replace hp4 := (HB.out.cell (World.block_lt_of_cell? w _ hp4)).trans hp4
                  have GP := Aside0.mk g72
                  clear g72
                  by_cases hlen : p.f1.length = 0
                  · have e0 : ((p.f1.length : Int) == 0) = true := by simp [hlen]
                    have hown : own p = true := by unfold own; simp [hlen]
                    have HOwn := Aside0.mk hown
                    clear hown hlen
                    by_cases h0 : 0 ≤ p.f0
                    · by_cases h1 : p.f0 < (locals.length : Int)
                      · have ho : off L3 p = L3.set p.f0.toNat false := by unfold off; rw [HOwn.out, HL.out]; rw [if_pos (by simp [h0, h1])]
                        obtain ⟨hz, hf⟩ := r_cell HR.out p.f0 h0 (by omega)
                        have d0 := decide_eq_true h0
                        have d1 := decide_eq_true h1
                        have HO := Aside0.mk ho
                        clear ho
                        go_wp2_with ((with_reducible refine gate_store (t := 4) (p := 95) rfl ?_); go_must (refine store_event (t := 4) (p := 95) (v := ?vo_95) (w1 := wr.setCell ⟨g, p.f0.toNat, none⟩ (.bool false)) ?hg ?ho ?hn ?hr ?_; (case ho => rfl); (case hg => rfl); (case hn => rfl); (case hr => first | (go_simp; done) | (go_simp; rfl)); intro wA hw_; have n0_ := Aside0.mk (below_of HB.out (Nat.le_of_lt hgw) hw_); have n1_ := Aside0.mk (far_of BX.out (Nat.ne_of_lt hgw) hw_); have n2_ := Aside0.mk (r_set HR.out hw_); have n3_ := Aside0.mk (r_far HRP.out hw_ (fun k hk => hk)); clear HRP; have HRP := n3_; clear n3_; clear hw_ HB BX HR; have HB := n0_; have BX := n1_; have HR := n2_; clear n0_ n1_ n2_))
                        go_roundw
                        case measure => simp [intOf]; omega
                        case rel => exact ⟨m + 1, rfl, by omega, by omega, HRP, _, ⟨by rw [List.length_set]; exact HL.out⟩, ⟨by have := X3.out; rw [HO.out] at this; rw [show (m + 1).toNat = m.toNat + 1 by omega]; exact this⟩, ⟨HR.out⟩, ⟨BX.out⟩, ⟨HB.out⟩⟩
                      · have ho : off L3 p = L3 := by unfold off; rw [HL.out, if_neg (by simp [h1])]
                        have d0 := decide_eq_true h0
                        have d1 := decide_eq_false h1
                        have HO := Aside0.mk ho
                        clear ho
                        go_wp2
                        go_roundw
                        case measure => simp [intOf]; omega
                        case rel => exact ⟨m + 1, rfl, by omega, by omega, HRP, _, HL, ⟨by have := X3.out; rw [HO.out] at this; rw [show (m + 1).toNat = m.toNat + 1 by omega]; exact this⟩, ⟨HR.out⟩, ⟨BX.out⟩, ⟨HB.out⟩⟩
                    · have ho : off L3 p = L3 := by unfold off; rw [if_neg (by simp [h0])]
                      have d0 := decide_eq_false h0
                      have HO := Aside0.mk ho
                      clear ho
                      go_wp2
                      go_roundw
                      case measure => simp [intOf]; omega
                      case rel => exact ⟨m + 1, rfl, by omega, by omega, HRP, _, HL, ⟨by have := X3.out; rw [HO.out] at this; rw [show (m + 1).toNat = m.toNat + 1 by omega]; exact this⟩, ⟨HR.out⟩, ⟨BX.out⟩, ⟨HB.out⟩⟩
                  · have e0 : ((p.f1.length : Int) == 0) = false := beq_eq_false_iff_ne.2 (by omega)
                    obtain ⟨ads, e8, hh, _, _⟩ := at_T72 GP.out 0 (by omega) (by omega)
                    cases e8
                    rw [show (0 : Int).toNat * 3 = 0 from rfl] at hh
                    have ea : ads.add 0 = ads := by unfold Addr.add; simp
                    rw [ea] at hh
                    clear ea
                    have hpos : (0 : Int) < (p.f1.length : Int) := by omega
                    replace hh := (HB.out.cell (World.block_lt_of_cell? w _ hh)).trans hh
                    obtain ⟨hd, hhd⟩ : ∃ hd, (rd_T72 p.f1 0).f0 = hd := ⟨_, rfl⟩
                    rw [hhd] at hh
                    by_cases h3 : hd = 3
                    · have e3 : (hd != 3) = false := by simp [h3]
                      have ho : off L3 p = L3 := by unfold off own; rw [hhd, e3]; simp [hlen]
                      have HO := Aside0.mk ho
                      clear ho hhd h3 hlen
                      go_wp2
                      go_roundw
                      case measure => simp [intOf]; omega
                      case rel => exact ⟨m + 1, rfl, by omega, by omega, HRP, _, HL, ⟨by have := X3.out; rw [HO.out] at this; rw [show (m + 1).toNat = m.toNat + 1 by omega]; exact this⟩, ⟨HR.out⟩, ⟨BX.out⟩, ⟨HB.out⟩⟩
                    · have e3 : (hd != 3) = true := by simp [h3]
                      have hown : own p = true := by unfold own; rw [hhd, e3]; simp
                      have HOwn := Aside0.mk hown
                      clear hown hhd h3 hlen
                      by_cases h0 : 0 ≤ p.f0
                      · by_cases h1 : p.f0 < (locals.length : Int)
                        · have ho : off L3 p = L3.set p.f0.toNat false := by unfold off; rw [HOwn.out, HL.out]; rw [if_pos (by simp [h0, h1])]
                          obtain ⟨hz, hf⟩ := r_cell HR.out p.f0 h0 (by omega)
                          have d0 := decide_eq_true h0
                          have d1 := decide_eq_true h1
                          have HO := Aside0.mk ho
                          clear ho
                          go_wp2_with ((with_reducible refine gate_store (t := 4) (p := 95) rfl ?_); go_must (refine store_event (t := 4) (p := 95) (v := ?vo_95) (w1 := wr.setCell ⟨g, p.f0.toNat, none⟩ (.bool false)) ?hg ?ho ?hn ?hr ?_; (case ho => rfl); (case hg => rfl); (case hn => rfl); (case hr => first | (go_simp; done) | (go_simp; rfl)); intro wA hw_; have n0_ := Aside0.mk (below_of HB.out (Nat.le_of_lt hgw) hw_); have n1_ := Aside0.mk (far_of BX.out (Nat.ne_of_lt hgw) hw_); have n2_ := Aside0.mk (r_set HR.out hw_); have n3_ := Aside0.mk (r_far HRP.out hw_ (fun k hk => hk)); clear HRP; have HRP := n3_; clear n3_; clear hw_ HB BX HR; have HB := n0_; have BX := n1_; have HR := n2_; clear n0_ n1_ n2_))
                          go_roundw
                          case measure => simp [intOf]; omega
                          case rel => exact ⟨m + 1, rfl, by omega, by omega, HRP, _, ⟨by rw [List.length_set]; exact HL.out⟩, ⟨by have := X3.out; rw [HO.out] at this; rw [show (m + 1).toNat = m.toNat + 1 by omega]; exact this⟩, ⟨HR.out⟩, ⟨BX.out⟩, ⟨HB.out⟩⟩
                        · have ho : off L3 p = L3 := by unfold off; rw [HL.out, if_neg (by simp [h1])]
                          have d0 := decide_eq_true h0
                          have d1 := decide_eq_false h1
                          have HO := Aside0.mk ho
                          clear ho
                          go_wp2
                          go_roundw
                          case measure => simp [intOf]; omega
                          case rel => exact ⟨m + 1, rfl, by omega, by omega, HRP, _, HL, ⟨by have := X3.out; rw [HO.out] at this; rw [show (m + 1).toNat = m.toNat + 1 by omega]; exact this⟩, ⟨HR.out⟩, ⟨BX.out⟩, ⟨HB.out⟩⟩
                      · have ho : off L3 p = L3 := by unfold off; rw [if_neg (by simp [h0])]
                        have d0 := decide_eq_false h0
                        have HO := Aside0.mk ho
                        clear ho
                        go_wp2
                        go_roundw
                        case measure => simp [intOf]; omega
                        case rel => exact ⟨m + 1, rfl, by omega, by omega, HRP, _, HL, ⟨by have := X3.out; rw [HO.out] at this; rw [show (m + 1).toNat = m.toNat + 1 by omega]; exact this⟩, ⟨HR.out⟩, ⟨BX.out⟩, ⟨HB.out⟩⟩
                · have hd : decide (m < (ps.length : Int)) = false := decide_eq_false hmt
                  go_wp2
                  go_roundw
                  case measure => simp [intOf]; omega
                  case rel => exact ⟨j + 1, rfl, by omega, by omega, _, HL, ⟨by have := HQ.out; rw [List.drop_of_length_le (by rw [HPL.out]; omega)] at this; rw [show (j + 1).toNat = j.toNat + 1 by omega]; exact this⟩, ⟨HR.out⟩, ⟨BX.out⟩, ⟨HB.out⟩⟩
            · have hd : decide (j < (l.length : Int)) = false := decide_eq_false hjt
              go_wp2
              go_roundw
              case measure => simp [intOf]; omega
              case rel => exact ⟨b + 1, rfl, by omega, by omega, _, HL, ⟨by have := HQ.out; rw [List.drop_of_length_le (by omega)] at this; rw [show (b + 1).toNat = b.toNat + 1 by omega]; exact this⟩, ⟨HR.out⟩, ⟨BX.out⟩, ⟨HB.out⟩⟩
        · have hd : decide (b < (blocks.length : Int)) = false := decide_eq_false hbt
          go_wp2
          have HP : L = plain locals blocks := by have := HQ.out; rw [List.drop_of_length_le (by omega)] at this; exact this
          exact bodyPost_ret (v := .slice (some ⟨g, 0, none⟩) locals.length cap) (by simp [results, Try.results11, go_sem]) rfl ⟨_, rfl, by rw [← HP]; exact HR.out, HB.out⟩
end Go.Proofs.Ytocjfdpknfnamaa.Fold
