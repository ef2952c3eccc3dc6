/- Steps toward laws of the middle form (LawHeap), merged from several texts (some of them began as the kit's print). No condition. -/
import Derived.Test.YtpphpcmbpbppoaaZM13
section
namespace Go.Proofs.Ytpphpcmbpbppoaa.Mach
open Go.RowKit Go.Proofs.YtpphpcmbpbppoaaW.PrintWords Go.Proofs.YtpphpcmbpbppoaaW.PrintLast Go.Proofs.YtpphpcmbpbppoaaW.PrintMore
open Go.Proofs.Ytpphpcmbpbppoaa.Calm
open Go.Proofs.Ytpphpcmbpbppoaa.PMirFuel (S30 S57 S34 S37 S40 S43 S45 S48 k30 k57 k34 k37 k40 k43 k45 k48 rd_T30 rd_T57 rd_T34 rd_T37 rd_T40 rd_T43 rd_T45 rd_T48 at_T30 at_T57 at_T34 at_T40 at_T45 at_T48)
set_option linter.unusedVariables false
set_option linter.unusedSimpArgs false
open Go.Proofs.Ytpphpcmbpbppoaa.PMirFuel (z30 z34 z37 z40)
namespace HeapLaw
def ins0 (n : Int) : S40 := ⟨7, 0, z30, z30, z34, z34, n, ⟨#[]⟩, z37, [], []⟩
def ins1 (k : Int) : S40 := ⟨1, 1, ⟨true, k⟩, z30, z34, z34, 0, ⟨#[]⟩, z37, [], []⟩
def ins2 : S40 := ⟨4, 0, ⟨true, 77⟩, z30, ⟨0, [⟨3, 0, 0⟩, ⟨2, 1, 1⟩]⟩, z34, 0, ⟨#[]⟩, z37, [], []⟩
def ins3 (k : Int) : S40 := ⟨3, 2, z30, z30, ⟨0, [⟨3, 0, 0⟩, ⟨1, k, 0⟩]⟩, z34, 0, ⟨#[]⟩, z37, [], []⟩
def ins4 : S40 := ⟨13, 0, ⟨false, 2⟩, z30, z34, z34, 0, ⟨#[]⟩, z37, [], []⟩
def ins5 : S40 := ⟨8, 0, ⟨false, 0⟩, z30, z34, z34, 0, ⟨#[]⟩, z37, [], []⟩
def lst (n k : Int) (after : Bool) : List S40 := if after = true then [ins0 n, ins1 k, ins2, ins3 k, ins4, ins5, ins3 k] else [ins0 n, ins1 k, ins2, ins3 k, ins4, ins5]
def main (n k : Int) (after : Bool) : S48 := ⟨mainT, [1, 1, 1], 0, 0, false, [⟨lst n k after, ⟨3, z30, 0, 0, []⟩⟩]⟩
abbrev at3 : List Int := [1048576, 1048580, 1048584]
def stn (steps : Int) (a b c : Int) (print : List Int) (used : Nat → Nat → Bool) (cells : Nat → Int) : St := ⟨100, steps, 1, 1, [], print, [a, b, c], used, cells⟩
theorem loc0 (st : St) (h : st.stack.length = 3) : locate st 1048576 = some (.stk 0) := by
  unfold locate; rw [if_pos (by decide), if_pos (by rw [h]; decide)]; rfl
theorem loc1 (st : St) (h : st.stack.length = 3) : locate st 1048580 = some (.stk 1) := by
  unfold locate; rw [if_pos (by decide), if_pos (by rw [h]; decide)]; rfl
theorem loc2 (st : St) (h : st.stack.length = 3) : locate st 1048584 = some (.stk 2) := by
  unfold locate; rw [if_pos (by decide), if_pos (by rw [h]; decide)]; rfl
theorem first0 (c : Nat) (hc : c < 4) : firstFree (fun _ _ => false) c = some 0 := by
  match c, hc with
  | 0, _ => rfl
  | 1, _ => rfl
  | 2, _ => rfl
  | 3, _ => rfl
theorem find_in (n k : Int) (n1 : 1 ≤ n) (n64 : n ≤ 64) (k0 : 0 ≤ k) (kn : k < n) (v : Bool) :
    hfind (setUsed (fun _ _ => false) (clsOf n) 0 v) (cbase (clsOf n) + 4 * k) = ((clsOf n : Int), 0, 4 * k, v) := by
  unfold clsOf
  by_cases c0 : n ≤ 4
  · rw [if_pos c0]
    simp only [cbase]
    unfold hfind
    rw [if_neg (by omega), if_pos (by omega), show (262144 + 4 * k - 262144) / 16 = 0 by omega]
    simp [setUsed]
    omega
  by_cases c1 : n ≤ 16
  · rw [if_neg c0, if_pos c1]
    simp only [cbase]
    unfold hfind
    rw [if_neg (by omega), if_neg (by omega), if_pos (by omega), show (263168 + 4 * k - 263168) / 64 = 0 by omega]
    simp [setUsed]
    omega
  · rw [if_neg c0, if_neg c1, if_pos n64]
    simp only [cbase]
    unfold hfind
    rw [if_neg (by omega), if_neg (by omega), if_neg (by omega), if_pos (by omega), show (265216 + 4 * k - 265216) / 256 = 0 by omega]
    simp [setUsed]
    omega
theorem cb_bounds (n : Int) (n64 : n ≤ 64) : 262144 ≤ cbase (clsOf n) ∧ cbase (clsOf n) ≤ 265216 ∧ cbase (clsOf n) % 4 = 0 := by
  unfold clsOf
  by_cases c0 : n ≤ 4
  · rw [if_pos c0]; simp [cbase]
  by_cases c1 : n ≤ 16
  · rw [if_neg c0, if_pos c1]; simp [cbase]
  · rw [if_neg c0, if_neg c1, if_pos n64]; simp [cbase]
theorem loc_cell (n k : Int) (n1 : 1 ≤ n) (n64 : n ≤ 64) (k0 : 0 ≤ k) (kn : k < n) (st : St) (v : Bool) (hu : st.used = setUsed (fun _ _ => false) (clsOf n) 0 v) :
    locate st (cbase (clsOf n) + 4 * k) = if v = true then some (.hp ((cbase (clsOf n) + 4 * k - 262144) / 4).toNat) else none := by
  have h1 := cb_bounds n n64
  have h2 := find_in n k n1 n64 k0 kn v
  unfold locate
  rw [if_pos (by rw [Int.tmod_eq_emod_of_nonneg (by omega)]; omega), if_neg (by omega), hu, h2]
theorem step_ok {l : List S48} {gas : Nat} {st st' : St} {at_ : List Int} {held held' : List Bool} {f : S48} {b : Int} {i : Nat} {B : S45} {s : S40} (hB : rd_T45 f.f5 b = B) (hi : i < B.f0.length) (hs : rd_T40 B.f0 (i : Int) = s) (hf : st.steps < st.fuel)
    (h : instrP (XR l gas) l (tick st) (pf at_ held) s = .ok st' held') : exec l (gas + 1) st at_ held f b i = exec l gas st' at_ held' f b (i + 1) := by
  subst hB hs
  simp only [exec]
  rw [if_neg (by omega), if_pos hi]
  show (match instrP (XR l gas) l (tick st) (pf at_ held) _ with | .ok st2 h2 => exec l gas st2 at_ h2 f b (i + 1) | .halt k c st2 => .halt k c st2) = _
  rw [h]
theorem step_halt {l : List S48} {gas : Nat} {st st' : St} {at_ : List Int} {held : List Bool} {f : S48} {b : Int} {i : Nat} {B : S45} {s : S40} {k c : Int} (hB : rd_T45 f.f5 b = B) (hi : i < B.f0.length) (hs : rd_T40 B.f0 (i : Int) = s) (hf : st.steps < st.fuel)
    (h : instrP (XR l gas) l (tick st) (pf at_ held) s = .halt k c st') : exec l (gas + 1) st at_ held f b i = .halt k c st' := by
  subst hB hs
  simp only [exec]
  rw [if_neg (by omega), if_pos hi]
  show (match instrP (XR l gas) l (tick st) (pf at_ held) _ with | .ok st2 h2 => exec l gas st2 at_ h2 f b (i + 1) | .halt k c st2 => .halt k c st2) = _
  rw [h]
theorem step_out {l : List S48} {gas : Nat} {st : St} {at_ : List Int} {held : List Bool} {f : S48} {b : Int} {i : Nat} {B : S45} {vs : List Int} (hB : rd_T45 f.f5 b = B) (hi : ¬ i < B.f0.length) (hf : st.steps < st.fuel)
    (h : termP (tick st) (pf at_ held) B.f1 = .out vs) : exec l (gas + 1) st at_ held f b i = .ok (tick st) held vs := by
  subst hB
  simp only [exec]
  rw [if_neg (by omega), if_neg hi, h]
theorem instr_1 (X : Runs) (l : List S48) (st : St) (F : Fr) (s : S40) (h : s.f0 = 1) : instrP X l st F s = (isetP st F s).big F.held := by simp [instrP, instr0P, h]
theorem instr_3 (X : Runs) (l : List S48) (st : St) (F : Fr) (s : S40) (h : s.f0 = 3) : instrP X l st F s = (iloadP st F s).big F.held := by simp [instrP, instr0P, h]
theorem instr_4 (X : Runs) (l : List S48) (st : St) (F : Fr) (s : S40) (h : s.f0 = 4) : instrP X l st F s = (istoreP st F s).big F.held := by simp [instrP, instr0P, h]
theorem instr_7 (X : Runs) (l : List S48) (st : St) (F : Fr) (s : S40) (h : s.f0 = 7) : instrP X l st F s = (allocP st F s.f6 s.f1).big F.held := by simp [instrP, instr0P, h]
theorem instr_8 (X : Runs) (l : List S48) (st : St) (F : Fr) (s : S40) (h : s.f0 = 8) : instrP X l st F s = (ifreeP st F s).big F.held := by simp [instrP, instr0P, h]
theorem instr_13 (X : Runs) (l : List S48) (st : St) (F : Fr) (s : S40) (h : s.f0 = 13) : instrP X l st F s = iprintP st F s := by simp [instrP, instr0P, h]
abbrev U0 : Nat → Nat → Bool := fun _ _ => false
abbrev C0 : Nat → Int := fun _ => 0
abbrev h3 : List Bool := [false, false, false]
theorem e0 (X : Runs) (l : List S48) (n s : Int) : instrP X l (stn s 0 0 0 [] U0 C0) (pf at3 h3) (ins0 n) = .ok (stn s (cbase (clsOf n)) 0 0 [] (setUsed U0 (clsOf n) 0 true) C0) h3 := by
  have hl := loc0 { stn s 0 0 0 [] U0 C0 with used := setUsed U0 (clsOf n) 0 true } rfl
  have hf := first0 (clsOf n) (clsOf_lt n)
  have ha : allocP (stn s 0 0 0 [] U0 C0) (pf at3 h3) n 0 = .ok (stn s (cbase (clsOf n)) 0 0 [] (setUsed U0 (clsOf n) 0 true) C0) := by
    unfold allocP
    rw [show (stn s 0 0 0 [] U0 C0).used = U0 from rfl, hf]
    show setP { stn s 0 0 0 [] U0 C0 with used := setUsed U0 (clsOf n) 0 true } (pf at3 h3) 0 (cbase (clsOf n) + cbytes (clsOf n) * ((0 : Nat) : Int)) = _
    unfold setP
    rw [show rd (pf at3 h3).at_ 0 = 1048576 from rfl, hl]
    simp [wrL, stn]
  rw [instr_7 X l _ _ _ rfl]
  rw [show (ins0 n).f6 = n from rfl, show (ins0 n).f1 = 0 from rfl, ha]
  rfl
theorem e1 (X : Runs) (l : List S48) (k s a : Int) (u : Nat → Nat → Bool) (C : Nat → Int) (k0 : 0 ≤ k) (k1 : k < 64) : instrP X l (stn s a 0 0 [] u C) (pf at3 h3) (ins1 k) = .ok (stn s a k 0 [] u C) h3 := by
  rw [instr_1 X l _ _ _ rfl]
  have hw : w32 k = k := by unfold w32 wrap64 wrap32; omega
  unfold isetP operandP
  rw [if_pos (show (ins1 k).f2.f0 = true from rfl)]
  show Res.big _ (setP _ _ 1 (w32 k)) = _
  unfold setP
  rw [show rd (pf at3 h3).at_ 1 = 1048580 from rfl, loc1 _ rfl, hw]
  rfl
theorem place_x (n k s c : Int) (n64 : n ≤ 64) (k0 : 0 ≤ k) (kn : k < n) (print : List Int) (u : Nat → Nat → Bool) (C : Nat → Int) :
    plP (stn s (cbase (clsOf n)) k c print u C) (pf at3 h3) ⟨0, [⟨3, 0, 0⟩, ⟨2, 1, 1⟩]⟩ = some (cbase (clsOf n) + 4 * k) := by
  have hb := cb_bounds n n64
  unfold plP
  show (stepP _ _ 1048576 ⟨3, 0, 0⟩).bind (fun a => (stepP _ _ a ⟨2, 1, 1⟩).bind fun b => some b) = _
  have e1 : stepP (stn s (cbase (clsOf n)) k c print u C) (pf at3 h3) 1048576 ⟨3, 0, 0⟩ = some (cbase (clsOf n)) := by
    unfold stepP
    rw [if_neg (by decide), if_neg (by decide), loc0 _ rfl]
    rfl
  rw [e1]
  have e2 : stepP (stn s (cbase (clsOf n)) k c print u C) (pf at3 h3) (cbase (clsOf n)) ⟨2, 1, 1⟩ = some (cbase (clsOf n) + 4 * k) := by
    unfold stepP
    rw [if_neg (by decide), if_pos rfl, show rd (pf at3 h3).at_ 1 = 1048580 from rfl, loc1 _ rfl]
    show some (wrap64 (cbase (clsOf n) + wrap64 (wrap64 (4 * 1) * k))) = _
    congr 1
    unfold wrap64
    omega
  show (stepP (stn s (cbase (clsOf n)) k c print u C) (pf at3 h3) (cbase (clsOf n)) ⟨2, 1, 1⟩).bind (fun b => some b) = _
  rw [e2]; rfl
theorem place_s (n k s b c : Int) (n64 : n ≤ 64) (k0 : 0 ≤ k) (kn : k < n) (print : List Int) (u : Nat → Nat → Bool) (C : Nat → Int) :
    plP (stn s (cbase (clsOf n)) b c print u C) (pf at3 h3) ⟨0, [⟨3, 0, 0⟩, ⟨1, k, 0⟩]⟩ = some (cbase (clsOf n) + 4 * k) := by
  have hb := cb_bounds n n64
  unfold plP
  show (stepP _ _ 1048576 ⟨3, 0, 0⟩).bind (fun a => (stepP _ _ a ⟨1, k, 0⟩).bind fun b => some b) = _
  have e1 : stepP (stn s (cbase (clsOf n)) b c print u C) (pf at3 h3) 1048576 ⟨3, 0, 0⟩ = some (cbase (clsOf n)) := by
    unfold stepP
    rw [if_neg (by decide), if_neg (by decide), loc0 _ rfl]
    rfl
  rw [e1]
  show some (wrap64 (cbase (clsOf n) + wrap64 (4 * k))) = _
  congr 1
  unfold wrap64
  omega
abbrev cellJ (n k : Int) : Nat := ((cbase (clsOf n) + 4 * k - 262144) / 4).toNat
abbrev U1 (n : Int) : Nat → Nat → Bool := setUsed U0 (clsOf n) 0 true
abbrev U2 (n : Int) : Nat → Nat → Bool := setUsed U0 (clsOf n) 0 false
theorem e2 (X : Runs) (l : List S48) (n k s : Int) (n1 : 1 ≤ n) (n64 : n ≤ 64) (k0 : 0 ≤ k) (kn : k < n) :
    instrP X l (stn s (cbase (clsOf n)) k 0 [] (U1 n) C0) (pf at3 h3) ins2 = .ok (stn s (cbase (clsOf n)) k 0 [] (U1 n) (setF C0 (cellJ n k) 77)) h3 := by
  rw [instr_4 X l _ _ _ rfl]
  unfold istoreP
  rw [show ins2.f4 = ⟨0, [⟨3, 0, 0⟩, ⟨2, 1, 1⟩]⟩ from rfl, place_x n k s 0 n64 k0 kn [] (U1 n) C0]
  dsimp only
  rw [loc_cell n k n1 n64 k0 kn _ true rfl, if_pos rfl]
  dsimp only
  unfold operandP
  rw [if_pos (show ins2.f2.f0 = true from rfl), show w32 ins2.f2.f1 = 77 by show w32 77 = 77; unfold w32 wrap64 wrap32; omega]
  rfl
theorem e3 (X : Runs) (l : List S48) (n k s c : Int) (n1 : 1 ≤ n) (n64 : n ≤ 64) (k0 : 0 ≤ k) (kn : k < n) (C : Nat → Int) :
    instrP X l (stn s (cbase (clsOf n)) k c [] (U1 n) C) (pf at3 h3) (ins3 k) = .ok (stn s (cbase (clsOf n)) k (C (cellJ n k)) [] (U1 n) C) h3 := by
  rw [instr_3 X l _ _ _ rfl]
  unfold iloadP
  rw [show (ins3 k).f4 = ⟨0, [⟨3, 0, 0⟩, ⟨1, k, 0⟩]⟩ from rfl, place_s n k s k c n64 k0 kn [] (U1 n) C]
  dsimp only
  rw [loc_cell n k n1 n64 k0 kn _ true rfl, if_pos rfl]
  show Res.big h3 (setP _ _ 2 _) = _
  unfold setP
  rw [show rd (pf at3 h3).at_ 2 = 1048584 from rfl, loc2 _ rfl]
  rfl
theorem e4 (X : Runs) (l : List S48) (s a b c : Int) (u : Nat → Nat → Bool) (C : Nat → Int) :
    instrP X l (stn s a b c [] u C) (pf at3 h3) ins4 = .ok (stn s a b c [c] u C) h3 := by
  rw [instr_13 X l _ _ _ rfl]
  unfold iprintP operandP
  rw [if_neg (show ¬ ins4.f2.f0 = true from by decide), show rd (pf at3 h3).at_ ins4.f2.f1 = 1048584 from rfl, loc2 _ rfl]
  rfl
theorem set_back (c : Nat) : setUsed (setUsed U0 c 0 true) c 0 false = setUsed U0 c 0 false := by
  funext a b
  unfold setUsed
  split <;> rfl
theorem e5 (X : Runs) (l : List S48) (n s b c : Int) (n1 : 1 ≤ n) (n64 : n ≤ 64) (print : List Int) (C : Nat → Int) :
    instrP X l (stn s (cbase (clsOf n)) b c print (U1 n) C) (pf at3 h3) ins5 = .ok (stn s (cbase (clsOf n)) b c print (U2 n) C) h3 := by
  rw [instr_8 X l _ _ _ rfl]
  unfold ifreeP operandP
  rw [if_neg (show ¬ ins5.f2.f0 = true from by decide), show rd (pf at3 h3).at_ ins5.f2.f1 = 1048576 from rfl, loc0 _ rfl]
  show Res.big h3 (freeP _ (cbase (clsOf n))) = _
  unfold freeP hfree
  have h := find_in n 0 n1 n64 (by omega) (by omega) true
  rw [Int.mul_zero, Int.add_zero] at h
  rw [show (stn s (cbase (clsOf n)) b c print (U1 n) C).used = U1 n from rfl, h, if_pos ⟨rfl, rfl⟩]
  show Res2.ok { stn s (cbase (clsOf n)) b c print (U1 n) C with used := setUsed (U1 n) ((clsOf n : Int)).toNat 0 false } h3 = _
  rw [Int.toNat_natCast, set_back]
  rfl
theorem e6 (X : Runs) (l : List S48) (n k s c : Int) (n1 : 1 ≤ n) (n64 : n ≤ 64) (k0 : 0 ≤ k) (kn : k < n) (print : List Int) (C : Nat → Int) :
    instrP X l (stn s (cbase (clsOf n)) k c print (U2 n) C) (pf at3 h3) (ins3 k) = .halt 4 0 (stn s (cbase (clsOf n)) k c print (U2 n) C) := by
  rw [instr_3 X l _ _ _ rfl]
  unfold iloadP
  rw [show (ins3 k).f4 = ⟨0, [⟨3, 0, 0⟩, ⟨1, k, 0⟩]⟩ from rfl, place_s n k s k c n64 k0 kn print (U2 n) C]
  dsimp only
  rw [loc_cell n k n1 n64 k0 kn _ false rfl, if_neg (by decide)]
  rfl
theorem ends (n k : Int) (after : Bool) (n1 : 1 ≤ n) (n64 : n ≤ 64) (k0 : 0 ≤ k) (kn : k < n) :
    ∃ st : St, st.print = [77] ∧ callP (XR [main n k after] 100) (st0 100 []) [] (main n k after) [] = if after = true then .halt 4 0 st else .ok st [] [] := by
  have hx : ∀ st, exec [main n k after] 100 (stn 0 0 0 0 [] U0 C0) at3 h3 (main n k after) 0 0 = st → XR [main n k after] 100 (enterP (st0 100 []) (main n k after) []) (frameAt (st0 100 []).stack.length (main n k after).f1) (List.replicate (main n k after).f1.length false) (main n k after) = st := fun st h => h
  have J : setF C0 (cellJ n k) 77 (cellJ n k) = 77 := by simp [setF]
  cases after with
  | false =>
    refine ⟨leaveP 0 (main n k false) (stn 7 (cbase (clsOf n)) k 77 [77] (U2 n) (setF C0 (cellJ n k) 77)), rfl, ?_⟩
    unfold callP
    rw [if_neg (by show ¬ (392 ≤ (0 : Int) ∨ false = false ∧ 48 ≤ (0 : Int)); decide), hx (.ok (stn 7 (cbase (clsOf n)) k 77 [77] (U2 n) (setF C0 (cellJ n k) 77)) h3 []) ?_]
    · rfl
    rw [step_ok (B := ⟨lst n k false, ⟨3, z30, 0, 0, []⟩⟩) (s := ins0 n) rfl (by show 0 < 6; decide) rfl (by show (0 : Int) < 100; decide) (e0 _ _ n 1)]
    rw [step_ok (B := ⟨lst n k false, ⟨3, z30, 0, 0, []⟩⟩) (s := ins1 k) rfl (by show 1 < 6; decide) rfl (by show (1 : Int) < 100; decide) (e1 _ _ k 2 _ _ _ k0 (by omega))]
    rw [step_ok (B := ⟨lst n k false, ⟨3, z30, 0, 0, []⟩⟩) (s := ins2) rfl (by show 2 < 6; decide) rfl (by show (2 : Int) < 100; decide) (e2 _ _ n k 3 n1 n64 k0 kn)]
    rw [step_ok (B := ⟨lst n k false, ⟨3, z30, 0, 0, []⟩⟩) (s := ins3 k) rfl (by show 3 < 6; decide) rfl (by show (3 : Int) < 100; decide) ((e3 _ _ n k 4 0 n1 n64 k0 kn (setF C0 (cellJ n k) 77)).trans (by rw [J]))]
    rw [step_ok (B := ⟨lst n k false, ⟨3, z30, 0, 0, []⟩⟩) (s := ins4) rfl (by show 4 < 6; decide) rfl (by show (4 : Int) < 100; decide) (e4 _ _ 5 _ _ 77 _ _)]
    rw [step_ok (B := ⟨lst n k false, ⟨3, z30, 0, 0, []⟩⟩) (s := ins5) rfl (by show 5 < 6; decide) rfl (by show (5 : Int) < 100; decide) (e5 _ _ n 6 k 77 n1 n64 [77] _)]
    rw [step_out (B := ⟨lst n k false, ⟨3, z30, 0, 0, []⟩⟩) (vs := []) rfl (by show ¬ 6 < 6; decide) (by show (6 : Int) < 100; decide) rfl]
    rfl
  | true =>
    refine ⟨stn 7 (cbase (clsOf n)) k 77 [77] (U2 n) (setF C0 (cellJ n k) 77), rfl, ?_⟩
    unfold callP
    rw [if_neg (by show ¬ (392 ≤ (0 : Int) ∨ false = false ∧ 48 ≤ (0 : Int)); decide), hx (.halt 4 0 (stn 7 (cbase (clsOf n)) k 77 [77] (U2 n) (setF C0 (cellJ n k) 77))) ?_]
    · rfl
    rw [step_ok (B := ⟨lst n k true, ⟨3, z30, 0, 0, []⟩⟩) (s := ins0 n) rfl (by show 0 < 7; decide) rfl (by show (0 : Int) < 100; decide) (e0 _ _ n 1)]
    rw [step_ok (B := ⟨lst n k true, ⟨3, z30, 0, 0, []⟩⟩) (s := ins1 k) rfl (by show 1 < 7; decide) rfl (by show (1 : Int) < 100; decide) (e1 _ _ k 2 _ _ _ k0 (by omega))]
    rw [step_ok (B := ⟨lst n k true, ⟨3, z30, 0, 0, []⟩⟩) (s := ins2) rfl (by show 2 < 7; decide) rfl (by show (2 : Int) < 100; decide) (e2 _ _ n k 3 n1 n64 k0 kn)]
    rw [step_ok (B := ⟨lst n k true, ⟨3, z30, 0, 0, []⟩⟩) (s := ins3 k) rfl (by show 3 < 7; decide) rfl (by show (3 : Int) < 100; decide) ((e3 _ _ n k 4 0 n1 n64 k0 kn (setF C0 (cellJ n k) 77)).trans (by rw [J]))]
    rw [step_ok (B := ⟨lst n k true, ⟨3, z30, 0, 0, []⟩⟩) (s := ins4) rfl (by show 4 < 7; decide) rfl (by show (4 : Int) < 100; decide) (e4 _ _ 5 _ _ 77 _ _)]
    rw [step_ok (B := ⟨lst n k true, ⟨3, z30, 0, 0, []⟩⟩) (s := ins5) rfl (by show 5 < 7; decide) rfl (by show (5 : Int) < 100; decide) (e5 _ _ n 6 k 77 n1 n64 [77] _)]
    rw [step_halt (B := ⟨lst n k true, ⟨3, z30, 0, 0, []⟩⟩) (s := ins3 k) rfl (by show 6 < 7; decide) rfl (by show (6 : Int) < 100; decide) (e6 _ _ n k 7 77 n1 n64 k0 kn [77] _)]
    rfl
end HeapLaw
end Go.Proofs.Ytpphpcmbpbppoaa.Mach
end
section
namespace Go.Proofs.Ytpphpcmbpbppoaa.Mach
open Go.RowKit Go.Proofs.YtpphpcmbpbppoaaW.PrintWords Go.Proofs.YtpphpcmbpbppoaaW.PrintLast Go.Proofs.YtpphpcmbpbppoaaW.PrintMore
open Go.Proofs.Ytpphpcmbpbppoaa.Calm
open Go.Proofs.Ytpphpcmbpbppoaa.PMirFuel (S30 S57 S34 S37 S40 S43 S45 S48 k30 k57 k34 k37 k40 k43 k45 k48 rd_T30 rd_T57 rd_T34 rd_T37 rd_T40 rd_T43 rd_T45 rd_T48 at_T30 at_T57 at_T34 at_T40 at_T45 at_T48)
set_option linter.unusedVariables false
set_option linter.unusedSimpArgs false
open Go.Proofs.Ytpphpcmbpbppoaa.PMirFuel (z30 z34 z37 z40)
open Go.Proofs.Ytpphpcmbpbppoaa.Form
namespace HeapLaw
abbrev big : Nat := 4611686018427387904
theorem main_at (n k : Int) (a : Bool) : findP [main n k a] mainT = 0 := by kernel_rfl
theorem in0 (l : List S48) (n : Int) (h0 : 0 ≤ n) (h1 : n ≤ 128) : InT l [1, 1, 1] (ins0 n) := .alloc rfl (by
  show (scB [1, 1, 1] 0 && woB n) = true
  have : woB n = true := by unfold woB; simp [h0, h1]
  rw [this]; decide)
theorem in1 (l : List S48) (k : Int) : InT l [1, 1, 1] (ins1 k) := .set rfl (by kernel_rfl)
theorem in2 (l : List S48) : InT l [1, 1, 1] ins2 := .store rfl (by kernel_rfl)
theorem in3 (l : List S48) (k : Int) (h0 : 0 ≤ k) (h1 : k ≤ 65536) : InT l [1, 1, 1] (ins3 k) := .load rfl (by
  have h : stB [1, 1, 1] ⟨1, k, 0⟩ = true := by
    unfold stB
    rw [if_pos rfl]
    simp [h0, h1]
  show (scB [1, 1, 1] 2 && plB [1, 1, 1] ⟨0, [⟨3, 0, 0⟩, ⟨1, k, 0⟩]⟩) = true
  unfold plB
  simp only [List.all_cons, List.all_nil, h]
  decide)
theorem in4 (l : List S48) : InT l [1, 1, 1] ins4 := .print rfl (by kernel_rfl)
theorem in5 (l : List S48) : InT l [1, 1, 1] ins5 := .free rfl (by kernel_rfl)
theorem fn_main (n k : Int) (a : Bool) (n0 : 0 ≤ n) (n1 : n ≤ 128) (k0 : 0 ≤ k) (k1 : k ≤ 65536) : FnL [main n k a] 0 (main n k a) := by
  refine ⟨main_at n k a, by kernel_rfl, by show 3 < big; decide, by show 1 < big; decide, ?_, ?_⟩
  · intro B hB
    have hB' : B ∈ [(⟨lst n k a, ⟨3, z30, 0, 0, []⟩⟩ : S45)] := hB
    simp only [List.mem_cons, List.not_mem_nil, or_false] at hB'
    subst hB'
    refine ⟨?_, by show 0 < big; decide, by kernel_rfl⟩
    cases a
    · show 6 < big; decide
    · show 7 < big; decide
  · intro B hB s hs
    have hB' : B ∈ [(⟨lst n k a, ⟨3, z30, 0, 0, []⟩⟩ : S45)] := hB
    simp only [List.mem_cons, List.not_mem_nil, or_false] at hB'
    subst hB'
    have hs' : s ∈ [ins0 n, ins1 k, ins2, ins3 k, ins4, ins5, ins3 k] := by
      cases a with
      | false => exact List.mem_append_left [ins3 k] (show s ∈ [ins0 n, ins1 k, ins2, ins3 k, ins4, ins5] from hs)
      | true => exact hs
    simp only [List.mem_cons, List.not_mem_nil, or_false] at hs'
    rcases hs' with rfl | rfl | rfl | rfl | rfl | rfl | rfl
    · exact ⟨in0 _ n n0 n1, by show 0 < big; decide, by show 0 < big; decide⟩
    · exact ⟨in1 _ k, by show 0 < big; decide, by show 0 < big; decide⟩
    · exact ⟨in2 _, by show 2 < big; decide, by show 0 < big; decide⟩
    · exact ⟨in3 _ k k0 k1, by show 2 < big; decide, by show 0 < big; decide⟩
    · exact ⟨in4 _, by show 0 < big; decide, by show 0 < big; decide⟩
    · exact ⟨in5 _, by show 0 < big; decide, by show 0 < big; decide⟩
    · exact ⟨in3 _ k k0 k1, by show 2 < big; decide, by show 0 < big; decide⟩
theorem one (n i : Int) (k : Int) (a : Bool) (h0 : 0 ≤ i) (h1 : i < [main n k a].length) : i = 0 := by
  have : i < 1 := h1
  omega
theorem chk (n k : Int) (a : Bool) (n0 : 0 ≤ n) (n1 : n ≤ 128) (k0 : 0 ≤ k) (k1 : k ≤ 65536) : ChkT [main n k a] := ⟨by show 1 < big; decide, fun i h0 h1 => by
  obtain rfl := one n i k a h0 h1
  exact (fn_main n k a n0 n1 k0 k1).t⟩
theorem formed (n k : Int) (a : Bool) (n0 : 0 ≤ n) (n1 : n ≤ 128) (k0 : 0 ≤ k) (k1 : k ≤ 65536) : Forms [main n k a] := forms_of (chk n k a n0 n1 k0 k1) fun i h0 h1 => by
  obtain rfl := one n i k a h0 h1
  show 3 < 100000; decide
end HeapLaw
end Go.Proofs.Ytpphpcmbpbppoaa.Mach
end
section
namespace Go.Proofs.Ytpphpcmbpbppoaa.Mach
open Go.RowKit Go.Proofs.YtpphpcmbpbppoaaW.PrintWords Go.Proofs.YtpphpcmbpbppoaaW.PrintLast Go.Proofs.YtpphpcmbpbppoaaW.PrintMore
open Go.Proofs.Ytpphpcmbpbppoaa.Calm
open Go.Proofs.Ytpphpcmbpbppoaa.PMirFuel (S30 S57 S34 S37 S40 S43 S45 S48 k30 k57 k34 k37 k40 k43 k45 k48 rd_T30 rd_T57 rd_T34 rd_T37 rd_T40 rd_T43 rd_T45 rd_T48 at_T30 at_T57 at_T34 at_T40 at_T45 at_T48)
set_option linter.unusedVariables false
set_option linter.unusedSimpArgs false
open HeapLaw
open Go.Proofs.Ytpphpcmbpbppoaa.PMirFuel (k57_mk k34_mk k30_mk k37_mk k40_mk k43_mk k45_mk k48_mk z30 z34 z37 z40)
attribute [local go_sem] i64_and63
inductive HR (b0 b2 : Nat) (K : Int) : S40 → List Value → Prop
  | nil (p : S40) (h4 : p.f4.f1 = []) (h5 : p.f5.f1 = []) (h8 : p.f8.f3 = []) (h9 : p.f9 = []) (h10 : p.f10 = []) : HR b0 b2 K p (encI none p)
  | two (p : S40) (h4 : p.f4.f1 = [⟨3, 0, 0⟩, ⟨2, 1, 1⟩]) (h5 : p.f5.f1 = []) (h8 : p.f8.f3 = []) (h9 : p.f9 = []) (h10 : p.f10 = []) : HR b0 b2 K p (encI (some ⟨b0, 0, none⟩) p)
  | three (p : S40) (h4 : p.f4.f1 = [⟨3, 0, 0⟩, ⟨1, K, 0⟩]) (h5 : p.f5.f1 = []) (h8 : p.f8.f3 = []) (h9 : p.f9 = []) (h10 : p.f10 = []) : HR b0 b2 K p (encI (some ⟨b2, 0, none⟩) p)
theorem HR.K {V : World} {b0 b2 : Nat} {K : Int} {p : S40} {c : List Value} (h : HR b0 b2 K p c) (A1 : Has V b0 #[.int .i64 3, .int .i64 0, .int .i64 0, .int .i64 2, .int .i64 1, .int .i64 1] 57) (A3 : Has V b2 #[.int .i64 3, .int .i64 0, .int .i64 0, .int .i64 1, .int .i64 K, .int .i64 0] 57) : k40.K V p c := by
  cases h with
  | nil h4 h5 h8 h9 h10 => exact encI_K p (by rw [h4]; exact Kd.C_nil _ _) h5 h8 h9 h10
  | two h4 h5 h8 h9 h10 => exact encI_K p (by rw [h4]; exact C_of_has k57 (inner := [.int .i64 3, .int .i64 0, .int .i64 0, .int .i64 2, .int .i64 1, .int .i64 1]) A1 (reps_cons (k57_mk V ⟨3, 0, 0⟩) rfl (reps_cons (k57_mk V ⟨2, 1, 1⟩) rfl (Reps.none _ _))) (by simp)) h5 h8 h9 h10
  | three h4 h5 h8 h9 h10 => exact encI_K p (by rw [h4]; exact C_of_has k57 (inner := [.int .i64 3, .int .i64 0, .int .i64 0, .int .i64 1, .int .i64 K, .int .i64 0]) A3 (reps_cons (k57_mk V ⟨3, 0, 0⟩) rfl (reps_cons (k57_mk V ⟨1, K, 0⟩) rfl (Reps.none _ _))) (by simp)) h5 h8 h9 h10
set_option maxRecDepth 100000 in
set_option maxHeartbeats 8000000 in
theorem heap_walk (n k : Int) (after : Bool) (w : World) : Calls Try.prog 5 #[.int .i64 n, .int .i64 k, .bool after] w fun e w' => e = .returned (.bool true) ∧ Below w.heap.size w w' := by
  have hu57 := Try.underlying57
  have hu34 := Try.underlying34
  go_enter Try.func5, Try.ntmps5
  go_wp2_with ((with_reducible refine gate_dst (N := 24) rfl ?_); obtain ⟨K, hK⟩ : ∃ K, (wrap64 (k.tmod (1 + n % 64) + (1 + n % 64))).tmod (1 + n % 64) = K := ⟨_, rfl⟩; rw [hK]; obtain ⟨N, hN⟩ : ∃ N, 1 + n % 64 = N := ⟨_, rfl⟩; rw [hN])
  have hN1 : 1 ≤ N := by omega
  have hN64 : N ≤ 64 := by omega
  obtain ⟨hk0, hk1⟩ : 0 ≤ K ∧ K < N := by rw [← hK, hN]; exact kBounds k N hN1 hN64
  obtain ⟨W1, hW1⟩ : ∃ W, w.alloc (Obj.cells #[.int .i64 3, .int .i64 0, .int .i64 0, .int .i64 2, .int .i64 1, .int .i64 1] 57) = W := ⟨_, rfl⟩
  rw [hW1]
  have A1 : Has W1 w.heap.size #[.int .i64 3, .int .i64 0, .int .i64 0, .int .i64 2, .int .i64 1, .int .i64 1] 57 := hW1 ▸ Has.new w _ 57
  have c1 : k57.C W1 (some ⟨w.heap.size, 0, none⟩) 2 [⟨3, 0, 0⟩, ⟨2, 1, 1⟩] := hW1 ▸ lit_C k57 rfl 57 (reps_cons (k57_mk w ⟨3, 0, 0⟩) rfl (reps_cons (k57_mk w ⟨2, 1, 1⟩) rfl (Reps.none _ _))) (by simp)
  have s1 : W1.heap.size = w.heap.size + 1 := by rw [← hW1]; simp
  have b1 : Below w.heap.size w W1 := hW1 ▸ below_alloc (Below.refl _ _) _
  rw [← s1]
  obtain ⟨W2, hW2⟩ : ∃ W, W1.alloc (Obj.cells #[.int .i64 0, .slice (some ⟨w.heap.size, 0, none⟩) 2 2] 34) = W := ⟨_, rfl⟩
  rw [hW2]
  have h2 : Has W2 W1.heap.size #[.int .i64 0, .slice (some ⟨w.heap.size, 0, none⟩) 2 2] 34 := hW2 ▸ Has.new W1 _ 34
  have s2 : W2.heap.size = W1.heap.size + 1 := by rw [← hW2]; simp
  have bb2 : Below W1.heap.size W1 W2 := hW2 ▸ below_alloc (Below.refl _ _) _
  rw [← s2]
  obtain ⟨W3, hW3⟩ : ∃ W, W2.alloc (Obj.cells #[.int .i64 3, .int .i64 0, .int .i64 0, .int .i64 1, .int .i64 K, .int .i64 0] 57) = W := ⟨_, rfl⟩
  rw [hW3]
  have A3 : Has W3 W2.heap.size #[.int .i64 3, .int .i64 0, .int .i64 0, .int .i64 1, .int .i64 K, .int .i64 0] 57 := hW3 ▸ Has.new W2 _ 57
  have c3 : k57.C W3 (some ⟨W2.heap.size, 0, none⟩) 2 [⟨3, 0, 0⟩, ⟨1, K, 0⟩] := hW3 ▸ lit_C k57 rfl 57 (reps_cons (k57_mk W2 ⟨3, 0, 0⟩) rfl (reps_cons (k57_mk W2 ⟨1, K, 0⟩) rfl (Reps.none _ _))) (by simp)
  have s3 : W3.heap.size = W2.heap.size + 1 := by rw [← hW3]; simp
  have bb3 : Below W2.heap.size W2 W3 := hW3 ▸ below_alloc (Below.refl _ _) _
  rw [← s3]
  obtain ⟨W4, hW4⟩ : ∃ W, W3.alloc (Obj.cells #[.int .i64 0, .slice (some ⟨W2.heap.size, 0, none⟩) 2 2] 34) = W := ⟨_, rfl⟩
  rw [hW4]
  have h4 : Has W4 W3.heap.size #[.int .i64 0, .slice (some ⟨W2.heap.size, 0, none⟩) 2 2] 34 := hW4 ▸ Has.new W3 _ 34
  have bb4 : Below W3.heap.size W3 W4 := hW4 ▸ below_alloc (Below.refl _ _) _
  have b34 := below_then bb3 bb3.size bb4
  have b24 := below_then bb2 bb2.size b34
  have B4 := below_drew (below_then b1 b1.size b24)
  have c1' := Kd.C_drew (Kd.C_below c1 b24)
  have c3' := Kd.C_drew (Kd.C_below c3 bb4)
  have A1' : Has W4.drew w.heap.size #[.int .i64 3, .int .i64 0, .int .i64 0, .int .i64 2, .int .i64 1, .int .i64 1] 57 := (A1.belowS b24).drewN 1
  have A3' : Has W4.drew W2.heap.size #[.int .i64 3, .int .i64 0, .int .i64 0, .int .i64 1, .int .i64 K, .int .i64 0] 57 := (A3.belowS bb4).drewN 1
  have h2' : Has W4.drew W1.heap.size #[.int .i64 0, .slice (some ⟨w.heap.size, 0, none⟩) 2 2] 34 := (h2.belowS b34).drewN 1
  have h4' : Has W4.drew W3.heap.size #[.int .i64 0, .slice (some ⟨W2.heap.size, 0, none⟩) 2 2] 34 := h4.drewN 1
  generalize W3.heap.size = b3 at *
  generalize W2.heap.size = b2 at *
  generalize W1.heap.size = b1 at *
  obtain ⟨b0, hb0⟩ : ∃ b0, w.heap.size = b0 := ⟨_, rfl⟩
  rw [hb0] at c1' h2' A1' ⊢
  clear hW1 hW2 hW3 hW4 c1 c3 h2 h4 A1 A3 b34 b24 bb2 bb3 bb4 s1 s2 s3 
  have C1 := Aside0.mk c1'
  have AA1 := Aside0.mk A1'
  have AA3 := Aside0.mk A3'
  have C3 := Aside0.mk c3'
  have H2 := Aside0.mk h2'
  have H4 := Aside0.mk h4'
  have BB4 : Aside0 (Below b0 w W4.drew) := ⟨by rw [← hb0]; exact B4⟩
  have k1 := h2'.cell 0
  have k2 := h2'.cell 1
  have k3 := h4'.cell 0
  have k4 := h4'.cell 1
  simp only [List.getElem?_toArray, List.getElem?_cons_zero, List.getElem?_cons_succ] at k1 k2 k3 k4
  clear c1' c3' h2' h4' B4 A1' A3'
  refine region_mix [.h 0, .h 1, .h 2, .h 5, .h 8, .h 9, .c 3, .h 4, .c 6, .h 7, .c 10, .h 11, .c 12, .h 13, .c 14, .h 15] (fun w' => w'.cell? ⟨b1, 0, none⟩ = some (.int .i64 0) ∧ w'.cell? ⟨b1, 1, none⟩ = some (.slice (some ⟨b0, 0, none⟩) 2 2) ∧ w'.cell? ⟨b3, 0, none⟩ = some (.int .i64 0) ∧ w'.cell? ⟨b3, 1, none⟩ = some (.slice (some ⟨b2, 0, none⟩) 2 2)) (by kernel_rfl) (by kernel_rfl) ⟨k1, k2, k3, k4⟩ (by intro c a a' w1 hd h; simp +zetaDelta only [Exit.then, Exit.inBlock, bodyPost] at h ⊢; simp at h) ?_
  · generalize W4.drew = V0 at *
    have bV0 := Below.refl V0.heap.size V0
    refine mix_h (by rfl) (by rfl) (by rfl) ?_
    apply Exists.intro
    apply And.intro
    · rintro w' ⟨k1, k2, k3, k4⟩
      apply VR.mk
      go_simp
      with_reducible rfl
    simp only [List.setIfInBounds_toArray, List.set_cons_zero, List.set_cons_succ]
    refine mix_h (by rfl) (by rfl) (by rfl) ⟨.agg #[.int .i64 7, .int .i64 0, .bool false, .int .i64 0, .bool false, .int .i64 0, .int .i64 0, .slice none 0 0, .int .i64 0, .slice none 0 0, .int .i64 N, .string ⟨#[]⟩, .int .i64 0, .string ⟨#[]⟩, .int .i64 0, .slice none 0 0, .slice none 0 0, .slice none 0 0], fun w' _ => VR.mk (run_bld rfl (by kernel_rfl)), ?_⟩
    simp only [List.setIfInBounds_toArray, List.set_cons_zero, List.set_cons_succ]
    refine mix_h (by rfl) (by rfl) (by rfl) ?_
    apply Exists.intro
    apply And.intro
    · rintro w' ⟨k1, k2, k3, k4⟩
      apply VR.mk
      go_simp
      with_reducible rfl
    simp only [List.setIfInBounds_toArray, List.set_cons_zero, List.set_cons_succ]
    refine mix_h (by rfl) (by rfl) (by rfl) ?_
    apply Exists.intro
    apply And.intro
    · rintro w' ⟨k1, k2, k3, k4⟩
      apply VR.mk
      go_simp
      with_reducible rfl
    simp only [List.setIfInBounds_toArray, List.set_cons_zero, List.set_cons_succ]
    refine mix_h (by rfl) (by rfl) (by rfl) ?_
    apply Exists.intro
    apply And.intro
    · rintro w' ⟨k1, k2, k3, k4⟩
      apply VR.mk
      go_simp
      with_reducible rfl
    simp only [List.setIfInBounds_toArray, List.set_cons_zero, List.set_cons_succ]
    refine mix_h (by rfl) (by rfl) (by rfl) ⟨.agg #[.int .i64 3, .int .i64 2, .bool false, .int .i64 0, .bool false, .int .i64 0, .int .i64 0, .slice (some ⟨b2, 0, none⟩) 2 2, .int .i64 0, .slice none 0 0, .int .i64 0, .string ⟨#[]⟩, .int .i64 0, .string ⟨#[]⟩, .int .i64 0, .slice none 0 0, .slice none 0 0, .slice none 0 0], fun w' _ => VR.mk (run_bld rfl (by kernel_rfl)), ?_⟩
    simp only [List.setIfInBounds_toArray, List.set_cons_zero, List.set_cons_succ]
    refine mix_call (by rfl) (by rfl) (by rfl) (ER.go (by go_simp; with_reducible exact ⟨rfl, rfl⟩)) ?_
    refine (PMirFuel.ferrulelaw12_num.calls K true K V0 rfl).mono ?_
    rintro e V1 ⟨rfl, hbV1⟩
    have k1 := pw_cell_below hbV1 k1
    have k2 := pw_cell_below hbV1 k2
    have k3 := pw_cell_below hbV1 k3
    have k4 := pw_cell_below hbV1 k4
    refine .inl ⟨_, rfl, ⟨k1, k2, k3, k4⟩, ?_⟩
    simp only [List.setIfInBounds_toArray, List.set_cons_zero, List.set_cons_succ]
    refine mix_h (by rfl) (by rfl) (by rfl) ⟨.agg #[.int .i64 1, .int .i64 1, .bool true, .int .i64 K, .bool false, .int .i64 0, .int .i64 0, .slice none 0 0, .int .i64 0, .slice none 0 0, .int .i64 0, .string ⟨#[]⟩, .int .i64 0, .string ⟨#[]⟩, .int .i64 0, .slice none 0 0, .slice none 0 0, .slice none 0 0], fun w' _ => VR.mk (run_bld rfl (by kernel_rfl)), ?_⟩
    simp only [List.setIfInBounds_toArray, List.set_cons_zero, List.set_cons_succ]
    refine mix_call (by rfl) (by rfl) (by rfl) (ER.go (by go_simp; with_reducible exact ⟨rfl, rfl⟩)) ?_
    refine (PMirFuel.ferrulelaw12_num.calls 77 true 77 V1 rfl).mono ?_
    rintro e V2 ⟨rfl, hbV2⟩
    have k1 := pw_cell_below hbV2 k1
    have k2 := pw_cell_below hbV2 k2
    have k3 := pw_cell_below hbV2 k3
    have k4 := pw_cell_below hbV2 k4
    refine .inl ⟨_, rfl, ⟨k1, k2, k3, k4⟩, ?_⟩
    simp only [List.setIfInBounds_toArray, List.set_cons_zero, List.set_cons_succ]
    refine mix_h (by rfl) (by rfl) (by rfl) ⟨.agg #[.int .i64 4, .int .i64 0, .bool true, .int .i64 77, .bool false, .int .i64 0, .int .i64 0, .slice (some ⟨b0, 0, none⟩) 2 2, .int .i64 0, .slice none 0 0, .int .i64 0, .string ⟨#[]⟩, .int .i64 0, .string ⟨#[]⟩, .int .i64 0, .slice none 0 0, .slice none 0 0, .slice none 0 0], fun w' _ => VR.mk (run_bld rfl (by kernel_rfl)), ?_⟩
    simp only [List.setIfInBounds_toArray, List.set_cons_zero, List.set_cons_succ]
    refine mix_call (by rfl) (by rfl) (by rfl) (ER.go (by go_simp; with_reducible exact ⟨rfl, rfl⟩)) ?_
    refine (PMirFuel.ferrulelaw12_local.calls 2 false 2 V2 rfl).mono ?_
    rintro e V3 ⟨rfl, hbV3⟩
    have k1 := pw_cell_below hbV3 k1
    have k2 := pw_cell_below hbV3 k2
    have k3 := pw_cell_below hbV3 k3
    have k4 := pw_cell_below hbV3 k4
    refine .inl ⟨_, rfl, ⟨k1, k2, k3, k4⟩, ?_⟩
    simp only [List.setIfInBounds_toArray, List.set_cons_zero, List.set_cons_succ]
    refine mix_h (by rfl) (by rfl) (by rfl) ⟨.agg #[.int .i64 13, .int .i64 0, .bool false, .int .i64 2, .bool false, .int .i64 0, .int .i64 0, .slice none 0 0, .int .i64 0, .slice none 0 0, .int .i64 0, .string ⟨#[]⟩, .int .i64 0, .string ⟨#[]⟩, .int .i64 0, .slice none 0 0, .slice none 0 0, .slice none 0 0], fun w' _ => VR.mk (run_bld rfl (by kernel_rfl)), ?_⟩
    simp only [List.setIfInBounds_toArray, List.set_cons_zero, List.set_cons_succ]
    refine mix_call (by rfl) (by rfl) (by rfl) (ER.go (by go_simp; with_reducible exact ⟨rfl, rfl⟩)) ?_
    refine (PMirFuel.ferrulelaw12_local.calls 0 false 0 V3 rfl).mono ?_
    rintro e V4 ⟨rfl, hbV4⟩
    have k1 := pw_cell_below hbV4 k1
    have k2 := pw_cell_below hbV4 k2
    have k3 := pw_cell_below hbV4 k3
    have k4 := pw_cell_below hbV4 k4
    refine .inl ⟨_, rfl, ⟨k1, k2, k3, k4⟩, ?_⟩
    simp only [List.setIfInBounds_toArray, List.set_cons_zero, List.set_cons_succ]
    refine mix_h (by rfl) (by rfl) (by rfl) ⟨.agg #[.int .i64 8, .int .i64 0, .bool false, .int .i64 0, .bool false, .int .i64 0, .int .i64 0, .slice none 0 0, .int .i64 0, .slice none 0 0, .int .i64 0, .string ⟨#[]⟩, .int .i64 0, .string ⟨#[]⟩, .int .i64 0, .slice none 0 0, .slice none 0 0, .slice none 0 0], fun w' _ => VR.mk (run_bld rfl (by kernel_rfl)), ?_⟩
    simp only [List.setIfInBounds_toArray, List.set_cons_zero, List.set_cons_succ]
    have bV2 := below_then hbV1 hbV1.size hbV2
    have bV3 := below_then bV2 bV2.size hbV3
    have bV4 := below_then bV3 bV3.size hbV4
    refine mix_value (v := .slice (some ⟨V4.heap.size, 0, none⟩) 6 6) (w' := V4.alloc (Obj.cells #[.int .i64 7, .int .i64 0, .bool false, .int .i64 0, .bool false, .int .i64 0, .int .i64 0, .slice none 0 0, .int .i64 0, .slice none 0 0, .int .i64 N, .string ⟨#[]⟩, .int .i64 0, .string ⟨#[]⟩, .int .i64 0, .slice none 0 0, .slice none 0 0, .slice none 0 0, .int .i64 1, .int .i64 1, .bool true, .int .i64 K, .bool false, .int .i64 0, .int .i64 0, .slice none 0 0, .int .i64 0, .slice none 0 0, .int .i64 0, .string ⟨#[]⟩, .int .i64 0, .string ⟨#[]⟩, .int .i64 0, .slice none 0 0, .slice none 0 0, .slice none 0 0, .int .i64 4, .int .i64 0, .bool true, .int .i64 77, .bool false, .int .i64 0, .int .i64 0, .slice (some ⟨b0, 0, none⟩) 2 2, .int .i64 0, .slice none 0 0, .int .i64 0, .string ⟨#[]⟩, .int .i64 0, .string ⟨#[]⟩, .int .i64 0, .slice none 0 0, .slice none 0 0, .slice none 0 0, .int .i64 3, .int .i64 2, .bool false, .int .i64 0, .bool false, .int .i64 0, .int .i64 0, .slice (some ⟨b2, 0, none⟩) 2 2, .int .i64 0, .slice none 0 0, .int .i64 0, .string ⟨#[]⟩, .int .i64 0, .string ⟨#[]⟩, .int .i64 0, .slice none 0 0, .slice none 0 0, .slice none 0 0, .int .i64 13, .int .i64 0, .bool false, .int .i64 2, .bool false, .int .i64 0, .int .i64 0, .slice none 0 0, .int .i64 0, .slice none 0 0, .int .i64 0, .string ⟨#[]⟩, .int .i64 0, .string ⟨#[]⟩, .int .i64 0, .slice none 0 0, .slice none 0 0, .slice none 0 0, .int .i64 8, .int .i64 0, .bool false, .int .i64 0, .bool false, .int .i64 0, .int .i64 0, .slice none 0 0, .int .i64 0, .slice none 0 0, .int .i64 0, .string ⟨#[]⟩, .int .i64 0, .string ⟨#[]⟩, .int .i64 0, .slice none 0 0, .slice none 0 0, .slice none 0 0] 40)) (by rfl) (by rfl) (by rfl) ⟨run_bsl rfl Try.underlying41 (by kernel_rfl)⟩ ⟨pw_cell_below (below_alloc (Below.refl _ _) _) k1, pw_cell_below (below_alloc (Below.refl _ _) _) k2, pw_cell_below (below_alloc (Below.refl _ _) _) k3, pw_cell_below (below_alloc (Below.refl _ _) _) k4⟩ ?_
    simp only [List.setIfInBounds_toArray, List.set_cons_zero, List.set_cons_succ]
    refine mix_h (by rfl) (by rfl) (by rfl) ?_
    apply Exists.intro
    apply And.intro
    · rintro w' ⟨k1, k2, k3, k4⟩
      apply VR.mk
      go_simp
      with_reducible rfl
    simp only [List.setIfInBounds_toArray, List.set_cons_zero, List.set_cons_succ]
    refine mix_nil ?_
    obtain ⟨W5, hW5⟩ : ∃ W, V4.alloc (Obj.cells #[.int .i64 7, .int .i64 0, .bool false, .int .i64 0, .bool false, .int .i64 0, .int .i64 0, .slice none 0 0, .int .i64 0, .slice none 0 0, .int .i64 N, .string ⟨#[]⟩, .int .i64 0, .string ⟨#[]⟩, .int .i64 0, .slice none 0 0, .slice none 0 0, .slice none 0 0, .int .i64 1, .int .i64 1, .bool true, .int .i64 K, .bool false, .int .i64 0, .int .i64 0, .slice none 0 0, .int .i64 0, .slice none 0 0, .int .i64 0, .string ⟨#[]⟩, .int .i64 0, .string ⟨#[]⟩, .int .i64 0, .slice none 0 0, .slice none 0 0, .slice none 0 0, .int .i64 4, .int .i64 0, .bool true, .int .i64 77, .bool false, .int .i64 0, .int .i64 0, .slice (some ⟨b0, 0, none⟩) 2 2, .int .i64 0, .slice none 0 0, .int .i64 0, .string ⟨#[]⟩, .int .i64 0, .string ⟨#[]⟩, .int .i64 0, .slice none 0 0, .slice none 0 0, .slice none 0 0, .int .i64 3, .int .i64 2, .bool false, .int .i64 0, .bool false, .int .i64 0, .int .i64 0, .slice (some ⟨b2, 0, none⟩) 2 2, .int .i64 0, .slice none 0 0, .int .i64 0, .string ⟨#[]⟩, .int .i64 0, .string ⟨#[]⟩, .int .i64 0, .slice none 0 0, .slice none 0 0, .slice none 0 0, .int .i64 13, .int .i64 0, .bool false, .int .i64 2, .bool false, .int .i64 0, .int .i64 0, .slice none 0 0, .int .i64 0, .slice none 0 0, .int .i64 0, .string ⟨#[]⟩, .int .i64 0, .string ⟨#[]⟩, .int .i64 0, .slice none 0 0, .slice none 0 0, .slice none 0 0, .int .i64 8, .int .i64 0, .bool false, .int .i64 0, .bool false, .int .i64 0, .int .i64 0, .slice none 0 0, .int .i64 0, .slice none 0 0, .int .i64 0, .string ⟨#[]⟩, .int .i64 0, .string ⟨#[]⟩, .int .i64 0, .slice none 0 0, .slice none 0 0, .slice none 0 0] 40) = W := ⟨_, rfl⟩
    rw [hW5]
    have BW5 : Aside0 (Below b0 w W5) := ⟨below_then BB4.out (hb0 ▸ BB4.out.size) (hW5 ▸ below_alloc bV4 _)⟩
    have bW5 : Below V4.heap.size V4 W5 := hW5 ▸ below_alloc (Below.refl _ _) _
    have bV5 := below_then bV4 bV4.size bW5
    have A1 := AA1.out.belowS bV5
    have A3 := AA3.out.belowS bV5
    have HP := H4.out.belowS bV5
    have BB := BW5.out
    have hle : b0 ≤ V4.heap.size := Nat.le_trans (hb0 ▸ BB4.out.size) bV4.size
    have HO5 : OwnRow (HR b0 b2 K) 40 18 W5 b0 (.slice (some ⟨V4.heap.size, 0, none⟩) 6 6) (lst N K false) := hW5 ▸ OwnRow.lit (e := 40) (size := 18) (ps := lst N K false) V4 b0
      (reps_cons (HR.nil (ins0 N) rfl rfl rfl rfl rfl) rfl (reps_cons (HR.nil (ins1 K) rfl rfl rfl rfl rfl) rfl (reps_cons (HR.two ins2 rfl rfl rfl rfl rfl) rfl (reps_cons (HR.three (ins3 K) rfl rfl rfl rfl rfl) rfl (reps_cons (HR.nil ins4 rfl rfl rfl rfl rfl) rfl (reps_cons (HR.nil ins5 rfl rfl rfl rfl rfl) rfl (Reps.none _ _))))))) hle (by show 6 ≤ 9223372036854775807; decide)
    clear hW5 bW5 bV5 bV4 bV3 bV2 hbV1 hbV2 hbV3 hbV4 k1 k2 k3 k4 bV0 AA1 AA3 C1 C3 H2 H4 BW5 hle
    generalize V4.heap.size = b5 at *
    clear BB4
    go_wp2_with ((with_reducible refine gate_dst (N := 48) rfl ?_); refine Hold.out ?_)
    refine ⟨?_⟩
    refine list_alloc (v := .slice (some ⟨W5.heap.size, 0, none⟩) 1 1) (b := Obj.cells #[.int .i64 77] 3) rfl rfl ⟨run_bsl rfl Try.underlying23 (by kernel_rfl)⟩ ?_
    intro V6 e6
    have q56 : Below W5.heap.size W5 V6 := e6 ▸ below_alloc (Below.refl _ _) _
    have h77 : Has V6 W5.heap.size #[.int .i64 77] 3 := e6 ▸ Has.new W5 _ 3
    clear e6
    simp only [List.setIfInBounds_toArray, List.set_cons_zero, List.set_cons_succ]
    refine list_value (v := .agg #[.int .i64 1, .int .i64 0, .slice (some ⟨W5.heap.size, 0, none⟩) 1 1]) rfl rfl ⟨run_bld rfl (by kernel_rfl)⟩ ?_
    simp only [List.setIfInBounds_toArray, List.set_cons_zero, List.set_cons_succ]
    refine list_alloc (v := .pointer (some ⟨V6.heap.size, 0, none⟩)) (b := Obj.cells #[.int .i64 0, .int .i64 0, .slice none 0 0] 26) rfl rfl ⟨rfl⟩ ?_
    intro Z eZ
    simp only [List.setIfInBounds_toArray, List.set_cons_zero, List.set_cons_succ]
    subst eZ
    refine list_store (w' := V6.alloc (Obj.cells #[.int .i64 1, .int .i64 0, .slice (some ⟨W5.heap.size, 0, none⟩) 1 1] 26)) rfl rfl ⟨storeN 26 3 (by kernel_rfl) _ _ _ rfl rfl (by first | kernel_rfl | simp [Value.oneCell']) _ _ _ _ rfl rfl rfl⟩ ?_
    obtain ⟨V7, e7⟩ : ∃ V, V6.alloc (Obj.cells #[.int .i64 1, .int .i64 0, .slice (some ⟨W5.heap.size, 0, none⟩) 1 1] 26) = V := ⟨_, rfl⟩
    rw [e7]
    have q67 : Below V6.heap.size V6 V7 := e7 ▸ below_alloc (Below.refl _ _) _
    have x : Has V7 V6.heap.size #[.int .i64 1, .int .i64 0, .slice (some ⟨W5.heap.size, 0, none⟩) 1 1] 26 := e7 ▸ Has.new V6 _ 26
    clear e7
    have q57 := below_then q56 q56.size q67
    replace h77 := h77.belowS q67
    replace A1 := A1.belowS q57
    replace A3 := A3.belowS q57
    replace HP := HP.belowS q57
    replace HO5 := HO5.below q57
    have hs5 : b0 ≤ W5.heap.size := hb0 ▸ BB.size
    replace BB := below_then BB hs5 q57
    have hs7 : b0 ≤ V7.heap.size := hb0 ▸ BB.size
    have hs6 := hs5
    have q56s := q56.size
    clear q56 q67 q57 hs5
    have hb07 : b0 ≤ V6.heap.size := Nat.le_trans hs6 q56s
    generalize W5.heap.size = b6 at *
    generalize V6.heap.size = b7 at *
    cases after with
    | false =>
      go_wp2_with ((with_reducible refine gate_dst (N := 57) rfl ?_); refine Hold.out ?_)
      refine ⟨?_⟩
      have GL : Kd.C k40 V7 (some ⟨b5, 0, none⟩) 6 (lst N K false) := by
        obtain ⟨A, c, he, hc, hr⟩ := HO5.reads
        injection he with h1 h2 h3
        subst h1
        exact hr.imp_ (Below.refl _ _) (fun p c h => h.K A1 A3)
      refine list_alloc (v := .slice (some ⟨V7.heap.size, 0, none⟩) 3 3) (b := Obj.cells #[.int .i64 1, .int .i64 1, .int .i64 1] 3) rfl rfl ⟨run_bsl rfl Try.underlying23 (by kernel_rfl)⟩ ?_
      intro V1 eV1
      have q0_1 : Below V7.heap.size V7 V1 := eV1 ▸ below_alloc (Below.refl _ _) _
      have g1 : Kd.C (Kd.int .i64) V1 (some ⟨V7.heap.size, 0, none⟩) 3 [1, 1, 1] := eV1 ▸ ints_C rfl [1, 1, 1] (by simp)
      clear eV1
      simp only [List.setIfInBounds_toArray, List.set_cons_zero, List.set_cons_succ]
      refine list_value (v := (.slice (some ⟨b5, 0, none⟩) 6 6)) rfl rfl ⟨rfl⟩ ?_
      simp only [List.setIfInBounds_toArray, List.set_cons_zero, List.set_cons_succ]
      refine list_value (v := (.agg #[.int .i64 3, .bool false, .int .i64 0, .int .i64 0, .int .i64 0, .slice none 0 0])) rfl rfl ⟨run_bld rfl (by kernel_rfl)⟩ ?_
      simp only [List.setIfInBounds_toArray, List.set_cons_zero, List.set_cons_succ]
      refine list_value (v := (.agg #[.slice (some ⟨b5, 0, none⟩) 6 6, .int .i64 3, .bool false, .int .i64 0, .int .i64 0, .int .i64 0, .slice none 0 0])) rfl rfl ⟨run_bld rfl (by kernel_rfl)⟩ ?_
      simp only [List.setIfInBounds_toArray, List.set_cons_zero, List.set_cons_succ]
      have g2 := Kd.C_below GL q0_1
      refine list_alloc (v := .slice (some ⟨V1.heap.size, 0, none⟩) 1 1) (b := Obj.cells #[.slice (some ⟨b5, 0, none⟩) 6 6, .int .i64 3, .bool false, .int .i64 0, .int .i64 0, .int .i64 0, .slice none 0 0] 45) rfl rfl ⟨run_bsl rfl Try.underlying46 (by kernel_rfl)⟩ ?_
      intro V2 eV2
      have q1_2 : Below V1.heap.size V1 V2 := eV2 ▸ below_alloc (Below.refl _ _) _
      have g3 : Kd.C k45 V2 (some ⟨V1.heap.size, 0, none⟩) 1 [⟨[(ins0 N), (ins1 K), ins2, (ins3 K), ins4, ins5], ⟨3, ⟨false, 0⟩, 0, 0, []⟩⟩] := eV2 ▸ lit_C k45 rfl 45 (reps_cons (k45_mk V1 ⟨[(ins0 N), (ins1 K), ins2, (ins3 K), ins4, ins5], ⟨3, ⟨false, 0⟩, 0, 0, []⟩⟩ (Nat.le_refl 6) g2 (Nat.le_refl 0) (Kd.C_nil _ _)) rfl (Reps.none _ _)) (by simp)
      clear eV2
      simp only [List.setIfInBounds_toArray, List.set_cons_zero, List.set_cons_succ]
      refine list_value (v := (.agg #[.string ⟨#[109, 97, 105, 110]⟩, .slice (some ⟨V7.heap.size, 0, none⟩) 3 3, .int .i64 0, .int .i64 0, .bool false, .slice (some ⟨V1.heap.size, 0, none⟩) 1 1])) rfl rfl ⟨run_bld rfl (by kernel_rfl)⟩ ?_
      simp only [List.setIfInBounds_toArray, List.set_cons_zero, List.set_cons_succ]
      have g4 := Kd.C_below g1 q1_2
      refine list_alloc (v := .slice (some ⟨V2.heap.size, 0, none⟩) 1 1) (b := Obj.cells #[.string ⟨#[109, 97, 105, 110]⟩, .slice (some ⟨V7.heap.size, 0, none⟩) 3 3, .int .i64 0, .int .i64 0, .bool false, .slice (some ⟨V1.heap.size, 0, none⟩) 1 1] 48) rfl rfl ⟨run_bsl rfl Try.underlying22 (by kernel_rfl)⟩ ?_
      intro V3 eV3
      have q2_3 : Below V2.heap.size V2 V3 := eV3 ▸ below_alloc (Below.refl _ _) _
      have g5 : Kd.C k48 V3 (some ⟨V2.heap.size, 0, none⟩) 1 [⟨⟨#[109, 97, 105, 110]⟩, [1, 1, 1], 0, 0, false, [⟨[(ins0 N), (ins1 K), ins2, (ins3 K), ins4, ins5], ⟨3, ⟨false, 0⟩, 0, 0, []⟩⟩]⟩] := eV3 ▸ lit_C k48 rfl 48 (reps_cons (k48_mk V2 ⟨⟨#[109, 97, 105, 110]⟩, [1, 1, 1], 0, 0, false, [⟨[(ins0 N), (ins1 K), ins2, (ins3 K), ins4, ins5], ⟨3, ⟨false, 0⟩, 0, 0, []⟩⟩]⟩ (Nat.le_refl 3) g4 (Nat.le_refl 1) g3) rfl (Reps.none _ _)) (by simp)
      clear eV3
      simp only [List.setIfInBounds_toArray, List.set_cons_zero, List.set_cons_succ]
      refine list_value (v := (.slice (some ⟨V2.heap.size, 0, none⟩) 1 1)) rfl rfl ⟨rfl⟩ ?_
      simp only [List.setIfInBounds_toArray, List.set_cons_zero, List.set_cons_succ]
      have q0_2 := below_then q0_1 q0_1.size q1_2
      have q0_3 := below_then q0_2 q0_2.size q2_3
      have HC : Kd.C k48 V3 (some ⟨V2.heap.size, 0, none⟩) 1 [main N K false] := g5
      clear g5
      replace BB := below_then BB hs7 q0_3
      replace h77 := h77.belowS q0_3
      replace x := x.belowS q0_3
      go_wp2_with fail
      obtain ⟨st, hp, hst⟩ := HeapLaw.ends N K false hN1 hN64 hk0 hk1
      refine (run_said [main N K false] _ 1 100 _ HC (Nat.le_refl 1) (HeapLaw.chk N K false (by omega) (by omega) hk0 (by omega)) (HeapLaw.formed N K false (by omega) (by omega) hk0 (by omega)) (HeapLaw.main_at N K false) (by decide) (f := main N K false) rfl rfl rfl (by decide) (kd := 1) (cd := 0) (st := st) ⟨[], [], .inl ⟨hst, rfl, rfl⟩⟩).mono ?_
      rintro e WR ⟨hbR, A, c, rfl, hc, hC⟩
      rw [hp] at hc hC ⊢
      have hsR : b0 ≤ V3.heap.size := hb0 ▸ BB.size
      replace BB := below_then BB hsR hbR
      replace h77 := h77.belowS hbR
      replace x := x.belowS hbR
      go_wp2_with ((with_reducible refine gate_dst (N := 69) rfl ?_); refine Hold.out ?_)
      refine ⟨?_⟩
      obtain ⟨WB, hWB⟩ : ∃ W, WR.alloc (Obj.cells #[.int .i64 1, .int .i64 0, .slice A 1 c] 26) = W := ⟨_, rfl⟩
      rw [hWB]
      have hbB : Below WR.heap.size WR WB := hWB ▸ below_alloc (Below.refl _ _) _
      have HX : Has WB WR.heap.size #[.int .i64 1, .int .i64 0, .slice A 1 c] 26 := hWB ▸ Has.new WR _ 26
      clear hWB
      have hsB : b0 ≤ WR.heap.size := hb0 ▸ BB.size
      replace BB := below_then BB hsB hbB
      replace h77 := h77.belowS hbB
      replace x := x.belowS hbB
      have y0 := HX.cell 0
      have y1 := HX.cell 1
      have y2 := HX.cell 2
      have z0 := x.cell 0
      have z1 := x.cell 1
      have z2 := x.cell 2
      simp only [List.getElem?_toArray, List.getElem?_cons_zero, List.getElem?_cons_succ] at y0 y1 y2 z0 z1 z2
      go_wp2_with fail
      have hC2 : Kd.C (Kd.int .i64) WB (some ⟨b6, 0, none⟩) 1 [77] := C_of_has (Kd.int .i64) (inner := [.int .i64 77]) h77 (ints_reps _ [77]) (by simp)
      refine (same_said 1 0 [77] A (some ⟨b6, 0, none⟩) c 1 WB (by show 1 < 4611686018427387904; decide) (Kd.C_below hC hbB) hc hC2 (Nat.le_refl 1)).mono ?_
      rintro e WE ⟨rfl, hbE⟩
      go_wp2_with fail
      go_ret
      have hsE : b0 ≤ WB.heap.size := hb0 ▸ BB.size
      exact ⟨rfl, hb0.symm ▸ below_then BB hsE hbE⟩
    | true =>
      go_wp2_with ((with_reducible refine gate_dst (N := 52) rfl ?_); refine Hold.out ?_)
      refine ⟨?_⟩
      refine list_value (v := .agg #[.int .i64 0, .slice (some ⟨b2, 0, none⟩) 2 2]) rfl rfl ⟨loadN 34 2 (by kernel_rfl) Try.underlying34 _ _ _ HP rfl _ _ _ rfl rfl⟩ ?_
      simp only [List.setIfInBounds_toArray, List.set_cons_zero, List.set_cons_succ]
      refine list_value (v := .agg (encI (some ⟨b2, 0, none⟩) (ins3 K)).toArray) rfl rfl ⟨run_bld rfl (by kernel_rfl)⟩ ?_
      simp only [List.setIfInBounds_toArray, List.set_cons_zero, List.set_cons_succ]
      refine list_alloc (v := .slice (some ⟨V7.heap.size, 0, none⟩) 1 1) (b := Obj.cells (encI (some ⟨b2, 0, none⟩) (ins3 K)).toArray 40) rfl rfl ⟨run_bsl rfl Try.underlying41 (by kernel_rfl)⟩ ?_
      intro Z eZ
      simp only [List.setIfInBounds_toArray, List.set_cons_zero, List.set_cons_succ]
      subst eZ
      refine OwnRow.append (w0 := w) b0 rfl (.tmp 51) (.tmp 54) 41 40 (.agg #[.int .i64 0, .int .i64 0, .bool false, .int .i64 0, .bool false, .int .i64 0, .int .i64 0, .slice none 0 0, .int .i64 0, .slice none 0 0, .int .i64 0, .string ⟨#[]⟩, .int .i64 0, .string ⟨#[]⟩, .int .i64 0, .slice none 0 0, .slice none 0 0, .slice none 0 0]) 18 240 rfl Try.underlying41 (by kernel_rfl) rfl (by decide) (by decide) (.slice (some ⟨b5, 0, none⟩) 6 6) (lst N K false) (ins3 K) (encI (some ⟨b2, 0, none⟩) (ins3 K)) rfl rfl (HR.three (ins3 K) rfl rfl rfl rfl rfl) rfl (encI_one _ _) HO5 BB hs7 (by show (6 + 1) * 240 ≤ _; decide) ?_
      intro v1 V8 HO8 BB8 hg hat
      obtain ⟨A, c, rfl, hc⟩ := HO8.slice_
      have x8 := has_grown x hg (HO5.ne_block x (by decide))
      have A18 := has_grown A1 hg (HO5.ne_block A1 (by decide))
      have A38 := has_grown A3 hg (HO5.ne_block A3 (by decide))
      have h778 := has_grown h77 hg (HO5.ne_block h77 (by decide))
      clear x A1 A3 h77 HP HO5 hg hat BB hs7
      simp only [Act.put, List.setIfInBounds_toArray, List.set_cons_zero, List.set_cons_succ]
      have y0 := x8.cell 0
      have f0 := x8.frozen 0
      simp only [List.getElem?_toArray, List.getElem?_cons_zero, List.getElem?_cons_succ] at y0
      go_wp2_with ((with_reducible refine gate_dst (N := 57) rfl ?_); refine Hold.out ?_)
      refine ⟨?_⟩
      obtain ⟨V9, e9⟩ : ∃ V, V8.setCell ⟨b7, 0, none⟩ (.int .i64 4) = V := ⟨_, rfl⟩
      rw [e9]
      have x : Has V9 b7 #[.int .i64 4, .int .i64 0, .slice (some ⟨b6, 0, none⟩) 1 1] 26 := e9 ▸ x8.set_ 0 (.int .i64 4)
      have A1 : Has V9 b0 #[.int .i64 3, .int .i64 0, .int .i64 0, .int .i64 2, .int .i64 1, .int .i64 1] 57 := e9 ▸ A18.other (a := ⟨b7, 0, none⟩) (A18.ne x8 (by decide)) _
      have A3 : Has V9 b2 #[.int .i64 3, .int .i64 0, .int .i64 0, .int .i64 1, .int .i64 K, .int .i64 0] 57 := e9 ▸ A38.other (a := ⟨b7, 0, none⟩) (A38.ne x8 (by decide)) _
      have h77 : Has V9 b6 #[.int .i64 77] 3 := e9 ▸ h778.other (a := ⟨b7, 0, none⟩) (h778.ne x8 (by decide)) _
      have HO9 : OwnRow (HR b0 b2 K) 40 18 V9 b0 (.slice A 7 c) (lst N K true) := e9 ▸ HO8.set_ x8 (by decide) 0 (.int .i64 4)
      have BB : Below b0 w V9 := by rw [← hb0] at BB8 hb07 ⊢; rw [← e9]; exact below_set BB8 hb07
      have hs7 : b0 ≤ V9.heap.size := hb0 ▸ BB.size
      clear e9 x8 A18 A38 h778 HO8 BB8 y0 f0
      have GL : Kd.C k40 V9 A 7 (lst N K true) := by
        obtain ⟨A', c', he, hc', hr⟩ := HO9.reads
        injection he with h1 h2 h3
        subst h1
        exact hr.imp_ (Below.refl _ _) (fun p c h => h.K A1 A3)
      refine list_alloc (v := .slice (some ⟨V9.heap.size, 0, none⟩) 3 3) (b := Obj.cells #[.int .i64 1, .int .i64 1, .int .i64 1] 3) rfl rfl ⟨run_bsl rfl Try.underlying23 (by kernel_rfl)⟩ ?_
      intro V1 eV1
      have q0_1 : Below V9.heap.size V9 V1 := eV1 ▸ below_alloc (Below.refl _ _) _
      have g1 : Kd.C (Kd.int .i64) V1 (some ⟨V9.heap.size, 0, none⟩) 3 [1, 1, 1] := eV1 ▸ ints_C rfl [1, 1, 1] (by simp)
      clear eV1
      simp only [List.setIfInBounds_toArray, List.set_cons_zero, List.set_cons_succ]
      refine list_value (v := (.slice A 7 c)) rfl rfl ⟨rfl⟩ ?_
      simp only [List.setIfInBounds_toArray, List.set_cons_zero, List.set_cons_succ]
      refine list_value (v := (.agg #[.int .i64 3, .bool false, .int .i64 0, .int .i64 0, .int .i64 0, .slice none 0 0])) rfl rfl ⟨run_bld rfl (by kernel_rfl)⟩ ?_
      simp only [List.setIfInBounds_toArray, List.set_cons_zero, List.set_cons_succ]
      refine list_value (v := (.agg #[.slice A 7 c, .int .i64 3, .bool false, .int .i64 0, .int .i64 0, .int .i64 0, .slice none 0 0])) rfl rfl ⟨run_bld rfl (by kernel_rfl)⟩ ?_
      simp only [List.setIfInBounds_toArray, List.set_cons_zero, List.set_cons_succ]
      have g2 := Kd.C_below GL q0_1
      refine list_alloc (v := .slice (some ⟨V1.heap.size, 0, none⟩) 1 1) (b := Obj.cells #[.slice A 7 c, .int .i64 3, .bool false, .int .i64 0, .int .i64 0, .int .i64 0, .slice none 0 0] 45) rfl rfl ⟨run_bsl rfl Try.underlying46 (by kernel_rfl)⟩ ?_
      intro V2 eV2
      have q1_2 : Below V1.heap.size V1 V2 := eV2 ▸ below_alloc (Below.refl _ _) _
      have g3 : Kd.C k45 V2 (some ⟨V1.heap.size, 0, none⟩) 1 [⟨[(ins0 N), (ins1 K), ins2, (ins3 K), ins4, ins5, (ins3 K)], ⟨3, ⟨false, 0⟩, 0, 0, []⟩⟩] := eV2 ▸ lit_C k45 rfl 45 (reps_cons (k45_mk V1 ⟨[(ins0 N), (ins1 K), ins2, (ins3 K), ins4, ins5, (ins3 K)], ⟨3, ⟨false, 0⟩, 0, 0, []⟩⟩ hc g2 (Nat.le_refl 0) (Kd.C_nil _ _)) rfl (Reps.none _ _)) (by simp)
      clear eV2
      simp only [List.setIfInBounds_toArray, List.set_cons_zero, List.set_cons_succ]
      refine list_value (v := (.agg #[.string ⟨#[109, 97, 105, 110]⟩, .slice (some ⟨V9.heap.size, 0, none⟩) 3 3, .int .i64 0, .int .i64 0, .bool false, .slice (some ⟨V1.heap.size, 0, none⟩) 1 1])) rfl rfl ⟨run_bld rfl (by kernel_rfl)⟩ ?_
      simp only [List.setIfInBounds_toArray, List.set_cons_zero, List.set_cons_succ]
      have g4 := Kd.C_below g1 q1_2
      refine list_alloc (v := .slice (some ⟨V2.heap.size, 0, none⟩) 1 1) (b := Obj.cells #[.string ⟨#[109, 97, 105, 110]⟩, .slice (some ⟨V9.heap.size, 0, none⟩) 3 3, .int .i64 0, .int .i64 0, .bool false, .slice (some ⟨V1.heap.size, 0, none⟩) 1 1] 48) rfl rfl ⟨run_bsl rfl Try.underlying22 (by kernel_rfl)⟩ ?_
      intro V3 eV3
      have q2_3 : Below V2.heap.size V2 V3 := eV3 ▸ below_alloc (Below.refl _ _) _
      have g5 : Kd.C k48 V3 (some ⟨V2.heap.size, 0, none⟩) 1 [⟨⟨#[109, 97, 105, 110]⟩, [1, 1, 1], 0, 0, false, [⟨[(ins0 N), (ins1 K), ins2, (ins3 K), ins4, ins5, (ins3 K)], ⟨3, ⟨false, 0⟩, 0, 0, []⟩⟩]⟩] := eV3 ▸ lit_C k48 rfl 48 (reps_cons (k48_mk V2 ⟨⟨#[109, 97, 105, 110]⟩, [1, 1, 1], 0, 0, false, [⟨[(ins0 N), (ins1 K), ins2, (ins3 K), ins4, ins5, (ins3 K)], ⟨3, ⟨false, 0⟩, 0, 0, []⟩⟩]⟩ (Nat.le_refl 3) g4 (Nat.le_refl 1) g3) rfl (Reps.none _ _)) (by simp)
      clear eV3
      simp only [List.setIfInBounds_toArray, List.set_cons_zero, List.set_cons_succ]
      refine list_value (v := (.slice (some ⟨V2.heap.size, 0, none⟩) 1 1)) rfl rfl ⟨rfl⟩ ?_
      simp only [List.setIfInBounds_toArray, List.set_cons_zero, List.set_cons_succ]
      have q0_2 := below_then q0_1 q0_1.size q1_2
      have q0_3 := below_then q0_2 q0_2.size q2_3
      have HC : Kd.C k48 V3 (some ⟨V2.heap.size, 0, none⟩) 1 [main N K true] := g5
      clear g5
      replace BB := below_then BB hs7 q0_3
      replace h77 := h77.belowS q0_3
      replace x := x.belowS q0_3
      go_wp2_with fail
      obtain ⟨st, hp, hst⟩ := HeapLaw.ends N K true hN1 hN64 hk0 hk1
      refine (run_said [main N K true] _ 1 100 _ HC (Nat.le_refl 1) (HeapLaw.chk N K true (by omega) (by omega) hk0 (by omega)) (HeapLaw.formed N K true (by omega) (by omega) hk0 (by omega)) (HeapLaw.main_at N K true) (by decide) (f := main N K true) rfl rfl rfl (by decide) (kd := 4) (cd := 0) (st := st) ⟨[], [], .inr hst⟩).mono ?_
      rintro e WR ⟨hbR, A, c, rfl, hc, hC⟩
      rw [hp] at hc hC ⊢
      have hsR : b0 ≤ V3.heap.size := hb0 ▸ BB.size
      replace BB := below_then BB hsR hbR
      replace h77 := h77.belowS hbR
      replace x := x.belowS hbR
      go_wp2_with ((with_reducible refine gate_dst (N := 69) rfl ?_); refine Hold.out ?_)
      refine ⟨?_⟩
      obtain ⟨WB, hWB⟩ : ∃ W, WR.alloc (Obj.cells #[.int .i64 4, .int .i64 0, .slice A 1 c] 26) = W := ⟨_, rfl⟩
      rw [hWB]
      have hbB : Below WR.heap.size WR WB := hWB ▸ below_alloc (Below.refl _ _) _
      have HX : Has WB WR.heap.size #[.int .i64 4, .int .i64 0, .slice A 1 c] 26 := hWB ▸ Has.new WR _ 26
      clear hWB
      have hsB : b0 ≤ WR.heap.size := hb0 ▸ BB.size
      replace BB := below_then BB hsB hbB
      replace h77 := h77.belowS hbB
      replace x := x.belowS hbB
      have y0 := HX.cell 0
      have y1 := HX.cell 1
      have y2 := HX.cell 2
      have z0 := x.cell 0
      have z1 := x.cell 1
      have z2 := x.cell 2
      simp only [List.getElem?_toArray, List.getElem?_cons_zero, List.getElem?_cons_succ] at y0 y1 y2 z0 z1 z2
      go_wp2_with fail
      have hC2 : Kd.C (Kd.int .i64) WB (some ⟨b6, 0, none⟩) 1 [77] := C_of_has (Kd.int .i64) (inner := [.int .i64 77]) h77 (ints_reps _ [77]) (by simp)
      refine (same_said 4 0 [77] A (some ⟨b6, 0, none⟩) c 1 WB (by show 1 < 4611686018427387904; decide) (Kd.C_below hC hbB) hc hC2 (Nat.le_refl 1)).mono ?_
      rintro e WE ⟨rfl, hbE⟩
      go_wp2_with fail
      go_ret
      have hsE : b0 ≤ WB.heap.size := hb0 ▸ BB.size
      exact ⟨rfl, hb0.symm ▸ below_then BB hsE hbE⟩
end Go.Proofs.Ytpphpcmbpbppoaa.Mach
end
