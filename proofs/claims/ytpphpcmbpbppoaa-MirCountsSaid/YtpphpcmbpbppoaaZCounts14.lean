/- Steps toward the law Counts, merged from several texts (some of them began as the kit's print). No condition. -/
import Derived.Test.YtpphpcmbpbppoaaZCounts13
section
namespace Go.Proofs.Ytpphpcmbpbppoaa.Mach
open Go.RowKit Go.Proofs.YtpphpcmbpbppoaaW.PrintWords Go.Proofs.YtpphpcmbpbppoaaW.PrintLast Go.Proofs.YtpphpcmbpbppoaaW.PrintMore
open Go.Proofs.Ytpphpcmbpbppoaa.Calm
open Go.Proofs.Ytpphpcmbpbppoaa.PMirFuel (S30 S57 S34 S37 S40 S43 S45 S48 k30 k57 k34 k37 k40 k43 k45 k48 rd_T30 rd_T57 rd_T34 rd_T37 rd_T40 rd_T43 rd_T45 rd_T48 at_T30 at_T57 at_T34 at_T40 at_T45 at_T48)
set_option linter.unusedVariables false
set_option linter.unusedSimpArgs false
open Go.Proofs.Ytpphpcmbpbppoaa.PMirFuel (z30 z34 z37 z40)
open LawP
namespace CntLaw
def tAdd : ByteArray := ⟨#[97, 100, 100]⟩
def tSub : ByteArray := ⟨#[115, 117, 98]⟩
def downT : ByteArray := ⟨#[100, 111, 119, 110]⟩
def iSet (d n : Int) : S40 := ⟨1, d, ⟨true, n⟩, z30, z34, z34, 0, ⟨#[]⟩, z37, [], []⟩
def iAdd : S40 := ⟨2, 1, ⟨false, 1⟩, ⟨false, 0⟩, z34, z34, 0, tAdd, z37, [], []⟩
def iSub : S40 := ⟨2, 0, ⟨false, 0⟩, ⟨true, 1⟩, z34, z34, 0, tSub, z37, [], []⟩
def iPrint (k : Int) : S40 := ⟨13, 0, ⟨false, k⟩, z30, z34, z34, 0, ⟨#[]⟩, z37, [], []⟩
def iCall (x y : S30) : S40 := ⟨15, 0, z30, z30, z34, z34, 0, downT, z37, [x, y], [2]⟩
def m0 (n m : Int) : S45 := ⟨[iSet 0 n, iSet 1 m], ⟨1, z30, 1, 0, []⟩⟩
def m1 : S45 := ⟨[], ⟨2, ⟨false, 0⟩, 2, 3, []⟩⟩
def m2 : S45 := ⟨[iAdd, iSub], ⟨1, z30, 1, 0, []⟩⟩
def m3 (n m : Int) : S45 := ⟨[iPrint 1, iCall ⟨true, n⟩ ⟨true, m⟩, iPrint 2], ⟨3, z30, 0, 0, []⟩⟩
def main (n m : Int) : S48 := ⟨mainT, [1, 1, 1], 0, 0, false, [m0 n m, m1, m2, m3 n m]⟩
def d0 : S45 := ⟨[], ⟨2, ⟨false, 0⟩, 1, 2, []⟩⟩
def d1 : S45 := ⟨[iAdd, iSub, iCall ⟨false, 0⟩ ⟨false, 1⟩], ⟨3, z30, 0, 0, [⟨false, 2⟩]⟩⟩
def d2 : S45 := ⟨[], ⟨3, z30, 0, 0, [⟨false, 1⟩]⟩⟩
def down : S48 := ⟨downT, [1, 1, 1], 2, 1, false, [d0, d1, d2]⟩
def fs (n m : Int) : List S48 := [main n m, down]
def sumf : Nat → Int → Int
  | 0, acc => acc
  | j + 1, acc => sumf j (w32 (acc + ((j + 1 : Nat) : Int)))
theorem w32_add (a b : Int) : w32 (w32 a + b) = w32 (a + b) := by unfold w32 wrap64 wrap32; omega
theorem w32_small (a : Int) (h0 : 0 ≤ a) (h1 : a < 2147483648) : w32 a = a := by unfold w32 wrap64 wrap32; omega
theorem doAdd (a b : Int) : doV tAdd a b = w32 (a + b) := by
  unfold doV PMirFuel.mir_Do.f
  rw [if_pos (by decide +kernel)]
  show wrap64 (wrap32 (wrap64 (wrap32 (wrap32 a + wrap32 b)))) = w32 (a + b)
  unfold w32 wrap64 wrap32
  omega
theorem doSub (a b : Int) : doV tSub a b = w32 (a - b) := by
  unfold doV PMirFuel.mir_Do.f
  rw [if_neg (by decide +kernel), if_pos (by decide +kernel)]
  show wrap64 (wrap32 (wrap64 (wrap32 (wrap32 a - wrap32 b)))) = w32 (a - b)
  unfold w32 wrap64 wrap32
  omega
theorem tri (j : Nat) : ((j : Int) + 1) * ((j : Int) + 1 + 1) / 2 = (j : Int) * ((j : Int) + 1) / 2 + (j + 1) := by
  have e : ((j : Int) + 1) * ((j : Int) + 1 + 1) = (j : Int) * ((j : Int) + 1) + (j + 1) * 2 := by
    generalize (j : Int) = x
    simp only [Int.add_mul, Int.mul_add]; omega
  rw [e, Int.add_mul_ediv_right _ _ (by decide)]
theorem sumf_eq (j : Nat) : ∀ acc : Int, w32 (sumf j acc) = w32 (acc + (j : Int) * ((j : Int) + 1) / 2) := by
  induction j with
  | zero => intro acc; simp [sumf]
  | succ j ih =>
    intro acc
    unfold sumf
    rw [ih, w32_add]
    congr 1
    push_cast
    rw [tri]
    omega
theorem sumf_in (j : Nat) : ∀ acc : Int, w32 acc = acc → w32 (sumf j acc) = sumf j acc := by
  induction j with
  | zero => intro acc h; exact h
  | succ j ih => intro acc h; exact ih _ (by unfold w32 wrap64 wrap32; omega)
theorem sum_eq (k : Nat) (m : Int) (hk : k < 32) : w32 (wrap64 (w32 m + wrap64 ((wrap64 ((k : Int) * ((k : Int) + 1))).tdiv 2))) = sumf k (w32 m) := by
  have hw : w32 (w32 m) = w32 m := by unfold w32 wrap64 wrap32; omega
  rw [← sumf_in k (w32 m) hw, sumf_eq]
  have h1 : 0 ≤ (k : Int) * ((k : Int) + 1) := Int.mul_nonneg (by omega) (by omega)
  have h2 : (k : Int) * ((k : Int) + 1) ≤ 31 * 32 := Int.mul_le_mul (by omega) (by omega) (by omega) (by omega)
  generalize (k : Int) * ((k : Int) + 1) = p at *
  have h3 : wrap64 p = p := by unfold wrap64; omega
  rw [h3, Int.tdiv_eq_ediv_of_nonneg h1]
  have hq : 0 ≤ p / 2 ∧ p / 2 ≤ 31 * 32 := by omega
  generalize p / 2 = q at *
  unfold w32 wrap64 wrap32
  omega
section
variable {o : St} {pre : List Int} {a b c : Int} {h : List Bool}
theorem e_set0 (X : Runs) (l : List S48) (n : Int) : instrP X l (S o pre a b c) (pf (at3 pre.length) h) (iSet 0 n) = .ok (S o pre (w32 n) b c) h := by
  rw [LawP.instr_1 X l _ _ _ rfl]
  unfold isetP
  rw [show (iSet 0 n).f2 = ⟨true, n⟩ from rfl, opc]
  show Res.big h (setP _ _ 0 (w32 n)) = _
  rw [set0]; rfl
theorem e_set1 (X : Runs) (l : List S48) (n : Int) : instrP X l (S o pre a b c) (pf (at3 pre.length) h) (iSet 1 n) = .ok (S o pre a (w32 n) c) h := by
  rw [LawP.instr_1 X l _ _ _ rfl]
  unfold isetP
  rw [show (iSet 1 n).f2 = ⟨true, n⟩ from rfl, opc]
  show Res.big h (setP _ _ 1 (w32 n)) = _
  rw [set1]; rfl
theorem e_add (X : Runs) (l : List S48) : instrP X l (S o pre a b c) (pf (at3 pre.length) h) iAdd = .ok (S o pre a (w32 (b + a)) c) h := by
  rw [LawP.instr_2 X l _ _ _ rfl]
  unfold ibinP
  rw [show iAdd.f2 = ⟨false, 1⟩ from rfl, op1, show iAdd.f3 = ⟨false, 0⟩ from rfl, op0]
  show Res.big h (setP _ _ 1 (doV tAdd b a)) = _
  rw [set1, doAdd]; rfl
theorem e_sub (X : Runs) (l : List S48) : instrP X l (S o pre a b c) (pf (at3 pre.length) h) iSub = .ok (S o pre (w32 (a - 1)) b c) h := by
  rw [LawP.instr_2 X l _ _ _ rfl]
  unfold ibinP
  rw [show iSub.f2 = ⟨false, 0⟩ from rfl, op0, show iSub.f3 = ⟨true, 1⟩ from rfl, opc]
  show Res.big h (setP _ _ 0 (doV tSub a (w32 1))) = _
  rw [set0, doSub, w32_small 1 (by decide) (by decide)]; rfl
theorem e_print1 (X : Runs) (l : List S48) : instrP X l (S o pre a b c) (pf (at3 pre.length) h) (iPrint 1) = .ok (S { o with print := o.print ++ [b] } pre a b c) h := by
  rw [LawP.instr_13 X l _ _ _ rfl]
  unfold iprintP
  rw [show (iPrint 1).f2 = ⟨false, 1⟩ from rfl, op1]
  rfl
theorem e_print2 (X : Runs) (l : List S48) : instrP X l (S o pre a b c) (pf (at3 pre.length) h) (iPrint 2) = .ok (S { o with print := o.print ++ [c] } pre a b c) h := by
  rw [LawP.instr_13 X l _ _ _ rfl]
  unfold iprintP
  rw [show (iPrint 2).f2 = ⟨false, 2⟩ from rfl, op2]
  rfl
theorem down_at (n m : Int) : rd_T48 (fs n m) (findP (fs n m) downT) = down := by kernel_rfl
theorem e_call (l : List S48) (g : Nat) (hl : rd_T48 l (findP l downT) = down) (x y : S30) (p q r : Int) (o1 : St) (a1 b1 c1 : Int) (h1 : List Bool)
    (hx : operandP (S o pre a b c) (pf (at3 pre.length) h) x = some p) (hy : operandP (S o pre a b c) (pf (at3 pre.length) h) y = some q)
    (hc : o.calls < 392) (hd : o.depth < 48)
    (hX : exec l g (S { o with calls := o.calls + 1, depth := o.depth + 1 } (pre ++ [a, b, c]) p q 0) (at3 (pre ++ [a, b, c]).length) [false, false, false] down 0 0 = .ok (S { o1 with calls := o1.calls + 1, depth := o1.depth + 1 } (pre ++ [a, b, c]) a1 b1 c1) h1 [r]) :
    instrP (XG l g) l (S o pre a b c) (pf (at3 pre.length) h) (iCall x y) = .ok (S o1 pre a b r) h := by
  rw [LawP.instr_15 _ l _ _ _ rfl]
  unfold icallP
  have hall : allP (S o pre a b c) (pf (at3 pre.length) h) (iCall x y).f9 = some [p, q] := by
    show (operandP _ _ x).bind (fun v => ((operandP _ _ y).bind fun v => (some []).map (v :: ·)).map (v :: ·)) = _
    rw [hx, hy]; rfl
  rw [hall]
  dsimp only
  rw [show (iCall x y).f7 = downT from rfl, hl]
  have hcall : callP (XG l g) (S o pre a b c) (pf (at3 pre.length) h).held down [p, q] = .ok (S o1 pre a b c) h [r] := by
    unfold callP
    rw [if_neg (by show ¬ (392 ≤ o.calls ∨ (false = false ∧ 48 ≤ o.depth)); omega)]
    have he : enterP (S o pre a b c) down [p, q] = S { o with calls := o.calls + 1, depth := o.depth + 1 } (pre ++ [a, b, c]) p q 0 := rfl
    rw [he]
    have hX' : XG l g (S { o with calls := o.calls + 1, depth := o.depth + 1 } (pre ++ [a, b, c]) p q 0) (frameAt (S o pre a b c).stack.length down.f1) (List.replicate down.f1.length false) down = _ := hX
    rw [hX']
    show ResC.ok (leaveP (pre ++ [a, b, c]).length down _) _ _ = _
    congr 1
    unfold leaveP S
    dsimp only
    rw [List.take_left, if_neg (by decide)]
    congr 1 <;> omega
  rw [hcall]
  dsimp only
  show Res.big h (settleP (S o1 pre a b c) _ [2] [r]) = _
  unfold settleP
  rw [set2]
  rfl
end
abbrev h3 : List Bool := [false, false, false]
def ahead (o : St) (k : Int) : St := { o with steps := o.steps + k }
theorem ahead_ahead (o : St) (i j : Int) : ahead (ahead o i) j = ahead o (i + j) := by simp only [ahead]; congr 1; omega
theorem tick_S (o : St) (pre : List Int) (a b c : Int) : tick (S o pre a b c) = S (ahead o 1) pre a b c := rfl
theorem down_ok (l : List S48) (hl : rd_T48 l (findP l downT) = down) (j : Nat) : ∀ (g : Nat) (o : St) (pre : List Int) (acc : Int), (j : Int) < 2147483648 → o.calls + j < 392 → o.depth + j < 48 → o.steps + (5 * j + 2) ≤ o.fuel →
    ∃ x y z, exec l (5 * j + 2 + g) (S o pre j acc 0) (at3 pre.length) h3 down 0 0 = .ok (S (ahead o (5 * j + 2)) pre x y z) h3 [sumf j acc] := by
  induction j with
  | zero =>
    intro g o pre acc hj hc hd hs
    refine ⟨0, acc, 0, ?_⟩
    rw [show 5 * 0 + 2 + g = (g + 1) + 1 by omega]
    rw [sgo (B := d0) (b' := 2) rfl (by decide) (by show o.steps < o.fuel; omega) (by
      show termP _ _ ⟨2, ⟨false, 0⟩, 1, 2, []⟩ = _
      rw [tick_S]
      unfold termP
      rw [if_neg (by decide), if_neg (by decide), if_pos rfl, op0]
      rfl)]
    rw [tick_S]
    rw [sout (B := d2) (vs := [acc]) rfl (by decide) (by show o.steps + 1 < o.fuel; omega) (by
      show termP _ _ ⟨3, z30, 0, 0, [⟨false, 1⟩]⟩ = _
      rw [tick_S]
      unfold termP
      rw [if_pos rfl]
      show (match ((operandP _ _ ⟨false, 1⟩).bind fun v => (some []).map (v :: ·)) with | none => ResT.halt 4 0 | some vs => .out vs) = _
      rw [op1]
      rfl)]
    rw [tick_S, ahead_ahead]
    rfl
  | succ j ih =>
    intro g o pre acc hj hc hd hs
    push_cast at hj hc hd hs
    have hw : w32 (((j + 1 : Nat) : Int) - 1) = (j : Int) := by rw [show ((j + 1 : Nat) : Int) - 1 = j by omega]; exact w32_small _ (by omega) (by omega)
    obtain ⟨x, y, z, hx⟩ := ih (g + 1) { ahead o 4 with calls := o.calls + 1, depth := o.depth + 1 } (pre ++ [(j : Int), w32 (acc + ((j + 1 : Nat) : Int)), 0]) (w32 (acc + ((j + 1 : Nat) : Int))) (by omega) (by show o.calls + 1 + j < 392; omega) (by show o.depth + 1 + j < 48; omega) (by show o.steps + 4 + (5 * j + 2) ≤ o.fuel; omega)
    refine ⟨j, w32 (acc + ((j + 1 : Nat) : Int)), sumf j (w32 (acc + ((j + 1 : Nat) : Int))), ?_⟩
    rw [show 5 * (j + 1) + 2 + g = (5 * j + 2 + (g + 1)) + 1 + 1 + 1 + 1 by omega]
    rw [sgo (B := d0) (b' := 1) rfl (by decide) (by show o.steps < o.fuel; omega) (by
      show termP _ _ ⟨2, ⟨false, 0⟩, 1, 2, []⟩ = _
      rw [tick_S]
      unfold termP
      rw [if_neg (by decide), if_neg (by decide), if_pos rfl, op0]
      show ResT.go (if ((j + 1 : Nat) : Int) = 0 then 2 else 1) = _
      rw [if_neg (by omega)])]
    rw [tick_S]
    rw [sok (B := d1) (s := iAdd) rfl (by decide) rfl (by show o.steps + 1 < o.fuel; omega) (by rw [tick_S]; exact e_add _ _)]
    rw [sok (B := d1) (s := iSub) rfl (by decide) rfl (by show o.steps + 1 + 1 < o.fuel; omega) (by rw [tick_S]; exact e_sub _ _)]
    rw [hw]
    rw [sok (B := d1) (s := iCall ⟨false, 0⟩ ⟨false, 1⟩) (st' := S (ahead o (4 + (5 * j + 2))) pre j (w32 (acc + ((j + 1 : Nat) : Int))) (sumf j (w32 (acc + ((j + 1 : Nat) : Int))))) rfl (by decide) rfl (by show o.steps + 1 + 1 + 1 < o.fuel; omega) (by
      rw [tick_S, ahead_ahead, ahead_ahead, ahead_ahead]
      refine e_call l _ hl _ _ _ _ _ _ x y z h3 op0 op1 (by show o.calls < 392; omega) (by show o.depth < 48; omega) ?_
      refine hx.trans ?_
      show ResC.ok _ _ _ = ResC.ok _ _ _
      congr 1
      unfold ahead S
      dsimp only
      congr 1
      omega)]
    rw [show 5 * j + 2 + (g + 1) = (5 * j + 2 + g) + 1 by omega]
    rw [sout (B := d1) (vs := [sumf j (w32 (acc + ((j + 1 : Nat) : Int)))]) rfl (by decide) (by show o.steps + (4 + (5 * j + 2)) < o.fuel; omega) (by
      show termP _ _ ⟨3, z30, 0, 0, [⟨false, 2⟩]⟩ = _
      rw [tick_S]
      unfold termP
      rw [if_pos rfl]
      show (match ((operandP _ _ ⟨false, 2⟩).bind fun v => (some []).map (v :: ·)) with | none => ResT.halt 4 0 | some vs => .out vs) = _
      rw [op2]
      rfl)]
    rw [tick_S, ahead_ahead, show (4 : Int) + (5 * (j : Int) + 2) + 1 = 5 * ((j + 1 : Nat) : Int) + 2 by push_cast; omega]
    rfl
theorem loop_ok (l : List S48) (n m : Int) (j : Nat) : ∀ (g : Nat) (o : St) (acc c : Int), (j : Int) < 2147483648 → o.steps + (4 * j + 1) ≤ o.fuel →
    exec l (4 * j + 1 + g) (S o [] j acc c) (at3 0) h3 (main n m) 1 0 = exec l g (S (ahead o (4 * j + 1)) [] 0 (sumf j acc) c) (at3 0) h3 (main n m) 3 0 := by
  induction j with
  | zero =>
    intro g o acc c hj hs
    rw [show 4 * 0 + 1 + g = g + 1 by omega]
    rw [sgo (B := m1) (b' := 3) rfl (by decide) (by show o.steps < o.fuel; omega) (by
      show termP _ (pf (at3 ([] : List Int).length) h3) ⟨2, ⟨false, 0⟩, 2, 3, []⟩ = _
      rw [tick_S]
      unfold termP
      rw [if_neg (by decide), if_neg (by decide), if_pos rfl, op0]
      rfl)]
    rfl
  | succ j ih =>
    intro g o acc c hj hs
    push_cast at hj hs
    have hw : w32 (((j + 1 : Nat) : Int) - 1) = (j : Int) := by rw [show ((j + 1 : Nat) : Int) - 1 = j by omega]; exact w32_small _ (by omega) (by omega)
    rw [show 4 * (j + 1) + 1 + g = (4 * j + 1 + g) + 1 + 1 + 1 + 1 by omega]
    rw [sgo (B := m1) (b' := 2) rfl (by decide) (by show o.steps < o.fuel; omega) (by
      show termP _ (pf (at3 ([] : List Int).length) h3) ⟨2, ⟨false, 0⟩, 2, 3, []⟩ = _
      rw [tick_S]
      unfold termP
      rw [if_neg (by decide), if_neg (by decide), if_pos rfl, op0]
      show ResT.go (if ((j + 1 : Nat) : Int) = 0 then 3 else 2) = _
      rw [if_neg (by omega)])]
    rw [tick_S]
    rw [sok (B := m2) (s := iAdd) rfl (by decide) rfl (by show o.steps + 1 < o.fuel; omega) (by rw [tick_S]; exact e_add (pre := []) _ _)]
    rw [sok (B := m2) (s := iSub) rfl (by decide) rfl (by show o.steps + 1 + 1 < o.fuel; omega) (by rw [tick_S]; exact e_sub (pre := []) _ _)]
    rw [sgo (B := m2) (b' := 1) rfl (by decide) (by show o.steps + 1 + 1 + 1 < o.fuel; omega) rfl]
    rw [tick_S, hw, ahead_ahead, ahead_ahead, ahead_ahead]
    rw [ih g _ _ c (by omega) (by show o.steps + _ + (4 * j + 1) ≤ o.fuel; omega)]
    rw [ahead_ahead]
    rw [show (1 : Int) + (1 + (1 + 1)) + (4 * (j : Int) + 1) = 4 * ((j + 1 : Nat) : Int) + 1 by push_cast; omega]
    rfl
theorem ends (n : Nat) (m : Int) (hn : n < 32) : ∃ st : St, st.print = [sumf n (w32 m), sumf n (w32 m)] ∧ st.steps = 3 + 4 * n + 1 + 3 + 1 + 5 * n + 2 ∧
    callP (XG (fs n m) 10000) (st0 10000 []) [] (main n m) [] = .ok st [] [] := by
  obtain ⟨s, hs⟩ : ∃ s, sumf n (w32 m) = s := ⟨_, rfl⟩
  rw [hs]
  obtain ⟨o0, ho0⟩ : ∃ o : St, o = ⟨10000, 0, 1, 1, [], [], [], fun _ _ => false, fun _ => 0⟩ := ⟨_, rfl⟩
  have f0 : o0.fuel = 10000 := by rw [ho0]
  have t0 : o0.steps = 0 := by rw [ho0]
  have p0 : o0.print = [] := by rw [ho0]
  have q0 : o0.depth = 1 := by rw [ho0]
  have r0 : o0.calls = 1 := by rw [ho0]
  have hx : ∀ R, exec (fs n m) 10000 (S o0 [] 0 0 0) (at3 0) h3 (main n m) 0 0 = R → XG (fs n m) 10000 (enterP (st0 10000 []) (main n m) []) (frameAt (st0 10000 []).stack.length (main n m).f1) (List.replicate (main n m).f1.length false) (main n m) = R := fun R h => by rw [ho0] at h; exact h
  obtain ⟨x, y, z, hd⟩ := down_ok (fs n m) (down_at n m) n (9992 - 9 * n) { ahead { ahead o0 (4 * n + 5) with print := [s] } 1 with calls := o0.calls + 1, depth := o0.depth + 1 } [0, s, 0] (w32 m) (by omega) (by show o0.calls + 1 + n < 392; omega) (by show o0.depth + 1 + n < 48; omega) (by show o0.steps + (4 * n + 5) + 1 + (5 * n + 2) ≤ o0.fuel; omega)
  refine ⟨leaveP 0 (main n m) (S { ahead o0 (9 * n + 10) with print := [s, s] } [] 0 s s), rfl, by show o0.steps + (9 * n + 10) = _; omega, ?_⟩
  unfold callP
  rw [if_neg (by show ¬ (392 ≤ (0 : Int) ∨ false = false ∧ 48 ≤ (0 : Int)); decide), hx (.ok (S { ahead o0 (9 * n + 10) with print := [s, s] } [] 0 s s) h3 []) ?_]
  · rfl
  have hwn : w32 (n : Int) = n := w32_small _ (by omega) (by omega)
  rw [show 10000 = (4 * n + 1 + (9996 - 4 * n)) + 1 + 1 + 1 by omega]
  rw [sok (B := m0 n m) (s := iSet 0 n) rfl (by show 0 < 2; decide) rfl (by show o0.steps < o0.fuel; omega) (by rw [tick_S]; exact e_set0 (pre := []) _ _ _)]
  rw [sok (B := m0 n m) (s := iSet 1 m) rfl (by show 1 < 2; decide) rfl (by show o0.steps + 1 < o0.fuel; omega) (by rw [tick_S]; exact e_set1 (pre := []) _ _ _)]
  rw [sgo (B := m0 n m) (b' := 1) rfl (by show ¬ 2 < 2; decide) (by show o0.steps + 1 + 1 < o0.fuel; omega) rfl]
  rw [tick_S, hwn]
  rw [loop_ok (fs n m) n m n _ _ _ _ (by omega) (by show o0.steps + 1 + 1 + 1 + _ ≤ o0.fuel; omega), hs]
  rw [ahead_ahead, ahead_ahead, ahead_ahead]
  rw [show 9996 - 4 * n = (5 * n + 2 + (9992 - 9 * n)) + 1 + 1 by omega]
  rw [sok (B := m3 n m) (s := iPrint 1) (st' := S { ahead o0 (4 * n + 5) with print := [s] } [] 0 s 0) rfl (by show 0 < 3; decide) rfl (by show o0.steps + _ < o0.fuel; omega) (by
    rw [tick_S, ahead_ahead]
    refine (e_print1 (pre := []) _ _).trans ?_
    congr 2
    unfold ahead
    dsimp only
    rw [p0]
    congr 1
    omega)]
  rw [sok (B := m3 n m) (s := iCall ⟨true, n⟩ ⟨true, m⟩) (st' := S { ahead o0 (9 * n + 8) with print := [s] } [] 0 s s) rfl (by show 1 < 3; decide) rfl (by show o0.steps + _ < o0.fuel; omega) (by
    rw [tick_S]
    refine e_call (pre := []) _ _ (down_at n m) _ _ _ _ _ _ x y z h3 (opc _ _ _) (opc _ _ _) (by show o0.calls < 392; omega) (by show o0.depth < 48; omega) ?_
    rw [hwn]
    refine (hs ▸ hd).trans ?_
    show ResC.ok _ _ _ = ResC.ok _ _ _
    congr 1
    unfold ahead S
    dsimp only
    congr 1
    omega)]
  rw [show 5 * n + 2 + (9992 - 9 * n) = (9992 - 4 * n) + 1 + 1 by omega]
  rw [sok (B := m3 n m) (s := iPrint 2) rfl (by show 2 < 3; decide) rfl (by show o0.steps + _ < o0.fuel; omega) (by rw [tick_S]; exact e_print2 (pre := []) _ _)]
  rw [sout (B := m3 n m) (vs := []) rfl (by show ¬ 3 < 3; decide) (by show o0.steps + (9 * n + 8) + 1 < o0.fuel; omega) rfl]
  rw [tick_S]
  congr 1
  unfold ahead S
  dsimp only
  congr 1
  omega
end CntLaw
end Go.Proofs.Ytpphpcmbpbppoaa.Mach
end
section
namespace Go.Proofs.Ytpphpcmbpbppoaa.Mach
open Go.RowKit Go.Proofs.YtpphpcmbpbppoaaW.PrintWords Go.Proofs.YtpphpcmbpbppoaaW.PrintLast Go.Proofs.YtpphpcmbpbppoaaW.PrintMore
open Go.Proofs.Ytpphpcmbpbppoaa.Calm
open Go.Proofs.Ytpphpcmbpbppoaa.PMirFuel (S30 S57 S34 S37 S40 S43 S45 S48 k30 k57 k34 k37 k40 k43 k45 k48 rd_T30 rd_T57 rd_T34 rd_T37 rd_T40 rd_T43 rd_T45 rd_T48 at_T30 at_T57 at_T34 at_T40 at_T45 at_T48)
set_option linter.unusedVariables false
set_option linter.unusedSimpArgs false
open Go.Proofs.Ytpphpcmbpbppoaa.PMirFuel (z30 z34 z37 z40)
open Go.Proofs.Ytpphpcmbpbppoaa.Form
namespace CntLaw
abbrev big : Nat := 4611686018427387904
theorem main_at (n m : Int) : findP (fs n m) mainT = 0 := by kernel_rfl
theorem down_at' (n m : Int) : findP (fs n m) downT = 1 := by kernel_rfl
theorem wd : widthP down = 2 := by
  show sumW [1, 1] 0 = 2
  simp only [sumW]
  unfold wrap64
  decide
theorem ca (n m : Int) (x y : S30) : CaOk (fs n m) (iCall x y) := by
  have e : findP (fs n m) (iCall x y).f7 = 1 := down_at' n m
  have e2 : rd_T48 (fs n m) (findP (fs n m) (iCall x y).f7) = down := by rw [e]; rfl
  refine ⟨by show 2 < big; decide, by show 2 < big; decide, by show 1 < big; decide, by rw [e]; decide, by rw [e2]; decide, by rw [e2]; decide, by rw [e2]; show 3 < big; decide, ?_, ?_⟩
  · rw [e2, wd]; rfl
  · rw [e2]; rfl
theorem in_set (n m d v : Int) (h : scB [1, 1, 1] d = true) : InT (fs n m) [1, 1, 1] (iSet d v) := .set rfl (by rw [show (iSet d v).f1 = d from rfl, h]; rfl)
theorem in_add (n m : Int) : InT (fs n m) [1, 1, 1] iAdd := .bin rfl 0 (by kernel_rfl) (by kernel_rfl)
theorem in_sub (n m : Int) : InT (fs n m) [1, 1, 1] iSub := .bin rfl 0 (by kernel_rfl) (by kernel_rfl)
theorem in_print (n m d : Int) (h : scB [1, 1, 1] d = true) : InT (fs n m) [1, 1, 1] (iPrint d) := .print rfl (by
  show opB [1, 1, 1] ⟨false, d⟩ = true
  unfold opB; simp [h])
theorem in_call (n m : Int) (x y : S30) (h : ((iCall x y).f9.all (opB [1, 1, 1]) && (iCall x y).f10.all (scB [1, 1, 1])) = true) : InT (fs n m) [1, 1, 1] (iCall x y) := .call rfl (ca n m x y) h
theorem fn_main (n m : Int) : FnL (fs n m) 0 (main n m) := by
  refine ⟨main_at n m, by kernel_rfl, by show 3 < big; decide, by show 4 < big; decide, ?_, ?_⟩
  · intro B hB
    have hB' : B ∈ [m0 n m, m1, m2, m3 n m] := hB
    simp only [List.mem_cons, List.not_mem_nil, or_false] at hB'
    rcases hB' with rfl | rfl | rfl | rfl
    · exact ⟨by show 2 < big; decide, by show 0 < big; decide, by kernel_rfl⟩
    · exact ⟨by show 0 < big; decide, by show 0 < big; decide, by kernel_rfl⟩
    · exact ⟨by show 2 < big; decide, by show 0 < big; decide, by kernel_rfl⟩
    · exact ⟨by show 3 < big; decide, by show 0 < big; decide, by kernel_rfl⟩
  · intro B hB s hs
    have hB' : B ∈ [m0 n m, m1, m2, m3 n m] := hB
    simp only [List.mem_cons, List.not_mem_nil, or_false] at hB'
    rcases hB' with rfl | rfl | rfl | rfl
    · have hs' : s ∈ [iSet 0 n, iSet 1 m] := hs
      simp only [List.mem_cons, List.not_mem_nil, or_false] at hs'
      rcases hs' with rfl | rfl
      · exact ⟨in_set n m 0 n (by decide), by show 0 < big; decide, by show 0 < big; decide⟩
      · exact ⟨in_set n m 1 m (by decide), by show 0 < big; decide, by show 0 < big; decide⟩
    · cases hs
    · have hs' : s ∈ [iAdd, iSub] := hs
      simp only [List.mem_cons, List.not_mem_nil, or_false] at hs'
      rcases hs' with rfl | rfl
      · exact ⟨in_add n m, by show 0 < big; decide, by show 0 < big; decide⟩
      · exact ⟨in_sub n m, by show 0 < big; decide, by show 0 < big; decide⟩
    · have hs' : s ∈ [iPrint 1, iCall ⟨true, n⟩ ⟨true, m⟩, iPrint 2] := hs
      simp only [List.mem_cons, List.not_mem_nil, or_false] at hs'
      rcases hs' with rfl | rfl | rfl
      · exact ⟨in_print n m 1 (by decide), by show 0 < big; decide, by show 0 < big; decide⟩
      · exact ⟨in_call n m _ _ (by kernel_rfl), by show 0 < big; decide, by show 0 < big; decide⟩
      · exact ⟨in_print n m 2 (by decide), by show 0 < big; decide, by show 0 < big; decide⟩
theorem fn_down (n m : Int) : FnL (fs n m) 1 down := by
  refine ⟨down_at' n m, by kernel_rfl, by show 3 < big; decide, by show 3 < big; decide, ?_, ?_⟩
  · intro B hB
    have hB' : B ∈ [d0, d1, d2] := hB
    simp only [List.mem_cons, List.not_mem_nil, or_false] at hB'
    rcases hB' with rfl | rfl | rfl
    · exact ⟨by show 0 < big; decide, by show 0 < big; decide, by kernel_rfl⟩
    · exact ⟨by show 3 < big; decide, by show 1 < big; decide, by kernel_rfl⟩
    · exact ⟨by show 0 < big; decide, by show 1 < big; decide, by kernel_rfl⟩
  · intro B hB s hs
    have hB' : B ∈ [d0, d1, d2] := hB
    simp only [List.mem_cons, List.not_mem_nil, or_false] at hB'
    rcases hB' with rfl | rfl | rfl
    · cases hs
    · have hs' : s ∈ [iAdd, iSub, iCall ⟨false, 0⟩ ⟨false, 1⟩] := hs
      simp only [List.mem_cons, List.not_mem_nil, or_false] at hs'
      rcases hs' with rfl | rfl | rfl
      · exact ⟨in_add n m, by show 0 < big; decide, by show 0 < big; decide⟩
      · exact ⟨in_sub n m, by show 0 < big; decide, by show 0 < big; decide⟩
      · exact ⟨in_call n m _ _ (by kernel_rfl), by show 0 < big; decide, by show 0 < big; decide⟩
    · cases hs
theorem two (n m k : Int) (h0 : 0 ≤ k) (h1 : k < (fs n m).length) : k = 0 ∨ k = 1 := by
  have : k < 2 := h1
  omega
theorem chk (n m : Int) : ChkT (fs n m) := ⟨by show 2 < big; decide, fun k h0 h1 => by
  rcases two n m k h0 h1 with rfl | rfl
  · exact (fn_main n m).t
  · exact (fn_down n m).t⟩
theorem formed (n m : Int) : Forms (fs n m) := forms_of (chk n m) fun k h0 h1 => by
  rcases two n m k h0 h1 with rfl | rfl
  · show 3 < 100000; decide
  · show 3 < 100000; decide
end CntLaw
end Go.Proofs.Ytpphpcmbpbppoaa.Mach
end
section
namespace Go.Proofs.Ytpphpcmbpbppoaa.Mach
open Go.RowKit Go.Proofs.YtpphpcmbpbppoaaW.PrintWords Go.Proofs.YtpphpcmbpbppoaaW.PrintLast Go.Proofs.YtpphpcmbpbppoaaW.PrintMore
open Go.Proofs.Ytpphpcmbpbppoaa.Calm
open Go.Proofs.Ytpphpcmbpbppoaa.PMirFuel (S30 S57 S34 S37 S40 S43 S45 S48 k30 k57 k34 k37 k40 k43 k45 k48 rd_T30 rd_T57 rd_T34 rd_T37 rd_T40 rd_T43 rd_T45 rd_T48 at_T30 at_T57 at_T34 at_T40 at_T45 at_T48)
set_option linter.unusedVariables false
set_option linter.unusedSimpArgs false
open Go.Proofs.Ytpphpcmbpbppoaa.PMirFuel (k57_mk k34_mk k30_mk k37_mk k40_mk k43_mk k45_mk k48_mk z30 z34 z37 z40)
attribute [local go_sem] i64_and31
set_option maxRecDepth 100000 in
set_option maxHeartbeats 8000000 in
theorem counts_walk (n m : Int) (V0 : World) : Calls Try.prog 4 #[.int .i64 n, .int .i64 m] V0 fun e w' => e = .returned (.bool true) ∧ Below V0.heap.size V0 w' := by
  go_enter Try.func4, Try.ntmps4
  go_wp2_with ((with_reducible refine gate_dst (N := 13) rfl ?_); refine Hold.out ?_)
  refine ⟨?_⟩
  obtain ⟨N, hN⟩ : ∃ N, n % 32 = N := ⟨_, rfl⟩
  rw [hN]
  refine list_alloc (v := .slice (some ⟨V0.heap.size, 0, none⟩) 3 3) (b := Obj.cells #[.int .i64 1, .int .i64 1, .int .i64 1] 3) rfl rfl ⟨run_bsl rfl Try.underlying23 (by kernel_rfl)⟩ ?_
  intro V1 eV1
  have q0_1 : Below V0.heap.size V0 V1 := eV1 ▸ below_alloc (Below.refl _ _) _
  have g1 : Kd.C (Kd.int .i64) V1 (some ⟨V0.heap.size, 0, none⟩) 3 [1, 1, 1] := eV1 ▸ ints_C rfl [1, 1, 1] (by simp)
  clear eV1
  simp only [List.setIfInBounds_toArray, List.set_cons_zero, List.set_cons_succ]
  refine list_value (v := (.int .i64 N)) rfl rfl ⟨rfl⟩ ?_
  simp only [List.setIfInBounds_toArray, List.set_cons_zero, List.set_cons_succ]
  refine list_call (v := (.agg #[.bool true, .int .i64 N])) rfl rfl (ER.go (by go_simp)) (PMirFuel.ferrulelaw12_num.calls N true N V1 rfl) ?_
  intro V2 q1_2
  simp only [List.setIfInBounds_toArray, List.set_cons_zero, List.set_cons_succ]
  refine list_value (v := (.agg #[.int .i64 1, .int .i64 0, .bool true, .int .i64 N, .bool false, .int .i64 0, .int .i64 0, .slice none 0 0, .int .i64 0, .slice none 0 0, .int .i64 0, .string ⟨#[]⟩, .int .i64 0, .string ⟨#[]⟩, .int .i64 0, .slice none 0 0, .slice none 0 0, .slice none 0 0])) rfl rfl ⟨run_bld rfl (by kernel_rfl)⟩ ?_
  simp only [List.setIfInBounds_toArray, List.set_cons_zero, List.set_cons_succ]
  refine list_value (v := (.int .i64 m)) rfl rfl ⟨rfl⟩ ?_
  simp only [List.setIfInBounds_toArray, List.set_cons_zero, List.set_cons_succ]
  refine list_call (v := (.agg #[.bool true, .int .i64 m])) rfl rfl (ER.go (by go_simp)) (PMirFuel.ferrulelaw12_num.calls m true m V2 rfl) ?_
  intro V3 q2_3
  simp only [List.setIfInBounds_toArray, List.set_cons_zero, List.set_cons_succ]
  refine list_value (v := (.agg #[.int .i64 1, .int .i64 1, .bool true, .int .i64 m, .bool false, .int .i64 0, .int .i64 0, .slice none 0 0, .int .i64 0, .slice none 0 0, .int .i64 0, .string ⟨#[]⟩, .int .i64 0, .string ⟨#[]⟩, .int .i64 0, .slice none 0 0, .slice none 0 0, .slice none 0 0])) rfl rfl ⟨run_bld rfl (by kernel_rfl)⟩ ?_
  simp only [List.setIfInBounds_toArray, List.set_cons_zero, List.set_cons_succ]
  refine list_alloc (v := .slice (some ⟨V3.heap.size, 0, none⟩) 2 2) (b := Obj.cells #[.int .i64 1, .int .i64 0, .bool true, .int .i64 N, .bool false, .int .i64 0, .int .i64 0, .slice none 0 0, .int .i64 0, .slice none 0 0, .int .i64 0, .string ⟨#[]⟩, .int .i64 0, .string ⟨#[]⟩, .int .i64 0, .slice none 0 0, .slice none 0 0, .slice none 0 0, .int .i64 1, .int .i64 1, .bool true, .int .i64 m, .bool false, .int .i64 0, .int .i64 0, .slice none 0 0, .int .i64 0, .slice none 0 0, .int .i64 0, .string ⟨#[]⟩, .int .i64 0, .string ⟨#[]⟩, .int .i64 0, .slice none 0 0, .slice none 0 0, .slice none 0 0] 40) rfl rfl ⟨run_bsl rfl Try.underlying41 (by kernel_rfl)⟩ ?_
  intro V4 eV4
  have q3_4 : Below V3.heap.size V3 V4 := eV4 ▸ below_alloc (Below.refl _ _) _
  have g2 : Kd.C k40 V4 (some ⟨V3.heap.size, 0, none⟩) 2 [⟨1, 0, ⟨true, N⟩, ⟨false, 0⟩, ⟨0, []⟩, ⟨0, []⟩, 0, ⟨#[]⟩, ⟨0, ⟨#[]⟩, 0, []⟩, [], []⟩, ⟨1, 1, ⟨true, m⟩, ⟨false, 0⟩, ⟨0, []⟩, ⟨0, []⟩, 0, ⟨#[]⟩, ⟨0, ⟨#[]⟩, 0, []⟩, [], []⟩] := eV4 ▸ lit_C k40 rfl 40 (reps_cons (k40_mk V3 ⟨1, 0, ⟨true, N⟩, ⟨false, 0⟩, ⟨0, []⟩, ⟨0, []⟩, 0, ⟨#[]⟩, ⟨0, ⟨#[]⟩, 0, []⟩, [], []⟩ (Nat.le_refl 0) (Kd.C_nil _ _) (Nat.le_refl 0) (Kd.C_nil _ _) (Nat.le_refl 0) (Kd.C_nil _ _) (Nat.le_refl 0) (Kd.C_nil _ _) (Nat.le_refl 0) (Kd.C_nil _ _)) rfl (reps_cons (k40_mk V3 ⟨1, 1, ⟨true, m⟩, ⟨false, 0⟩, ⟨0, []⟩, ⟨0, []⟩, 0, ⟨#[]⟩, ⟨0, ⟨#[]⟩, 0, []⟩, [], []⟩ (Nat.le_refl 0) (Kd.C_nil _ _) (Nat.le_refl 0) (Kd.C_nil _ _) (Nat.le_refl 0) (Kd.C_nil _ _) (Nat.le_refl 0) (Kd.C_nil _ _) (Nat.le_refl 0) (Kd.C_nil _ _)) rfl (Reps.none _ _))) (by simp)
  clear eV4
  simp only [List.setIfInBounds_toArray, List.set_cons_zero, List.set_cons_succ]
  refine list_value (v := (.agg #[.int .i64 1, .bool false, .int .i64 0, .int .i64 1, .int .i64 0, .slice none 0 0])) rfl rfl ⟨run_bld rfl (by kernel_rfl)⟩ ?_
  simp only [List.setIfInBounds_toArray, List.set_cons_zero, List.set_cons_succ]
  refine list_value (v := (.agg #[.slice (some ⟨V3.heap.size, 0, none⟩) 2 2, .int .i64 1, .bool false, .int .i64 0, .int .i64 1, .int .i64 0, .slice none 0 0])) rfl rfl ⟨run_bld rfl (by kernel_rfl)⟩ ?_
  simp only [List.setIfInBounds_toArray, List.set_cons_zero, List.set_cons_succ]
  refine list_call (v := (.agg #[.bool false, .int .i64 0])) rfl rfl (ER.go (by go_simp)) (PMirFuel.ferrulelaw12_local.calls 0 false 0 V4 rfl) ?_
  intro V5 q4_5
  simp only [List.setIfInBounds_toArray, List.set_cons_zero, List.set_cons_succ]
  refine list_value (v := (.agg #[.int .i64 2, .bool false, .int .i64 0, .int .i64 2, .int .i64 3, .slice none 0 0])) rfl rfl ⟨run_bld rfl (by kernel_rfl)⟩ ?_
  simp only [List.setIfInBounds_toArray, List.set_cons_zero, List.set_cons_succ]
  refine list_value (v := (.agg #[.slice none 0 0, .int .i64 2, .bool false, .int .i64 0, .int .i64 2, .int .i64 3, .slice none 0 0])) rfl rfl ⟨run_bld rfl (by kernel_rfl)⟩ ?_
  simp only [List.setIfInBounds_toArray, List.set_cons_zero, List.set_cons_succ]
  refine list_call (v := (.agg #[.bool false, .int .i64 1])) rfl rfl (ER.go (by go_simp)) (PMirFuel.ferrulelaw12_local.calls 1 false 1 V5 rfl) ?_
  intro V6 q5_6
  simp only [List.setIfInBounds_toArray, List.set_cons_zero, List.set_cons_succ]
  refine list_call (v := (.agg #[.bool false, .int .i64 0])) rfl rfl (ER.go (by go_simp)) (PMirFuel.ferrulelaw12_local.calls 0 false 0 V6 rfl) ?_
  intro V7 q6_7
  simp only [List.setIfInBounds_toArray, List.set_cons_zero, List.set_cons_succ]
  refine list_value (v := (.agg #[.int .i64 2, .int .i64 1, .bool false, .int .i64 1, .bool false, .int .i64 0, .int .i64 0, .slice none 0 0, .int .i64 0, .slice none 0 0, .int .i64 0, .string ⟨#[97, 100, 100]⟩, .int .i64 0, .string ⟨#[]⟩, .int .i64 0, .slice none 0 0, .slice none 0 0, .slice none 0 0])) rfl rfl ⟨run_bld rfl (by kernel_rfl)⟩ ?_
  simp only [List.setIfInBounds_toArray, List.set_cons_zero, List.set_cons_succ]
  refine list_call (v := (.agg #[.bool false, .int .i64 0])) rfl rfl (ER.go (by go_simp)) (PMirFuel.ferrulelaw12_local.calls 0 false 0 V7 rfl) ?_
  intro V8 q7_8
  simp only [List.setIfInBounds_toArray, List.set_cons_zero, List.set_cons_succ]
  refine list_call (v := (.agg #[.bool true, .int .i64 1])) rfl rfl (ER.go (by go_simp)) (PMirFuel.ferrulelaw12_num.calls 1 true 1 V8 rfl) ?_
  intro V9 q8_9
  simp only [List.setIfInBounds_toArray, List.set_cons_zero, List.set_cons_succ]
  refine list_value (v := (.agg #[.int .i64 2, .int .i64 0, .bool false, .int .i64 0, .bool true, .int .i64 1, .int .i64 0, .slice none 0 0, .int .i64 0, .slice none 0 0, .int .i64 0, .string ⟨#[115, 117, 98]⟩, .int .i64 0, .string ⟨#[]⟩, .int .i64 0, .slice none 0 0, .slice none 0 0, .slice none 0 0])) rfl rfl ⟨run_bld rfl (by kernel_rfl)⟩ ?_
  simp only [List.setIfInBounds_toArray, List.set_cons_zero, List.set_cons_succ]
  refine list_alloc (v := .slice (some ⟨V9.heap.size, 0, none⟩) 2 2) (b := Obj.cells #[.int .i64 2, .int .i64 1, .bool false, .int .i64 1, .bool false, .int .i64 0, .int .i64 0, .slice none 0 0, .int .i64 0, .slice none 0 0, .int .i64 0, .string ⟨#[97, 100, 100]⟩, .int .i64 0, .string ⟨#[]⟩, .int .i64 0, .slice none 0 0, .slice none 0 0, .slice none 0 0, .int .i64 2, .int .i64 0, .bool false, .int .i64 0, .bool true, .int .i64 1, .int .i64 0, .slice none 0 0, .int .i64 0, .slice none 0 0, .int .i64 0, .string ⟨#[115, 117, 98]⟩, .int .i64 0, .string ⟨#[]⟩, .int .i64 0, .slice none 0 0, .slice none 0 0, .slice none 0 0] 40) rfl rfl ⟨run_bsl rfl Try.underlying41 (by kernel_rfl)⟩ ?_
  intro V10 eV10
  have q9_10 : Below V9.heap.size V9 V10 := eV10 ▸ below_alloc (Below.refl _ _) _
  have g3 : Kd.C k40 V10 (some ⟨V9.heap.size, 0, none⟩) 2 [⟨2, 1, ⟨false, 1⟩, ⟨false, 0⟩, ⟨0, []⟩, ⟨0, []⟩, 0, ⟨#[97, 100, 100]⟩, ⟨0, ⟨#[]⟩, 0, []⟩, [], []⟩, ⟨2, 0, ⟨false, 0⟩, ⟨true, 1⟩, ⟨0, []⟩, ⟨0, []⟩, 0, ⟨#[115, 117, 98]⟩, ⟨0, ⟨#[]⟩, 0, []⟩, [], []⟩] := eV10 ▸ lit_C k40 rfl 40 (reps_cons (k40_mk V9 ⟨2, 1, ⟨false, 1⟩, ⟨false, 0⟩, ⟨0, []⟩, ⟨0, []⟩, 0, ⟨#[97, 100, 100]⟩, ⟨0, ⟨#[]⟩, 0, []⟩, [], []⟩ (Nat.le_refl 0) (Kd.C_nil _ _) (Nat.le_refl 0) (Kd.C_nil _ _) (Nat.le_refl 0) (Kd.C_nil _ _) (Nat.le_refl 0) (Kd.C_nil _ _) (Nat.le_refl 0) (Kd.C_nil _ _)) rfl (reps_cons (k40_mk V9 ⟨2, 0, ⟨false, 0⟩, ⟨true, 1⟩, ⟨0, []⟩, ⟨0, []⟩, 0, ⟨#[115, 117, 98]⟩, ⟨0, ⟨#[]⟩, 0, []⟩, [], []⟩ (Nat.le_refl 0) (Kd.C_nil _ _) (Nat.le_refl 0) (Kd.C_nil _ _) (Nat.le_refl 0) (Kd.C_nil _ _) (Nat.le_refl 0) (Kd.C_nil _ _) (Nat.le_refl 0) (Kd.C_nil _ _)) rfl (Reps.none _ _))) (by simp)
  clear eV10
  simp only [List.setIfInBounds_toArray, List.set_cons_zero, List.set_cons_succ]
  refine list_value (v := (.agg #[.int .i64 1, .bool false, .int .i64 0, .int .i64 1, .int .i64 0, .slice none 0 0])) rfl rfl ⟨run_bld rfl (by kernel_rfl)⟩ ?_
  simp only [List.setIfInBounds_toArray, List.set_cons_zero, List.set_cons_succ]
  refine list_value (v := (.agg #[.slice (some ⟨V9.heap.size, 0, none⟩) 2 2, .int .i64 1, .bool false, .int .i64 0, .int .i64 1, .int .i64 0, .slice none 0 0])) rfl rfl ⟨run_bld rfl (by kernel_rfl)⟩ ?_
  simp only [List.setIfInBounds_toArray, List.set_cons_zero, List.set_cons_succ]
  refine list_call (v := (.agg #[.bool false, .int .i64 1])) rfl rfl (ER.go (by go_simp)) (PMirFuel.ferrulelaw12_local.calls 1 false 1 V10 rfl) ?_
  intro V11 q10_11
  simp only [List.setIfInBounds_toArray, List.set_cons_zero, List.set_cons_succ]
  refine list_value (v := (.agg #[.int .i64 13, .int .i64 0, .bool false, .int .i64 1, .bool false, .int .i64 0, .int .i64 0, .slice none 0 0, .int .i64 0, .slice none 0 0, .int .i64 0, .string ⟨#[]⟩, .int .i64 0, .string ⟨#[]⟩, .int .i64 0, .slice none 0 0, .slice none 0 0, .slice none 0 0])) rfl rfl ⟨run_bld rfl (by kernel_rfl)⟩ ?_
  simp only [List.setIfInBounds_toArray, List.set_cons_zero, List.set_cons_succ]
  refine list_value (v := (.int .i64 N)) rfl rfl ⟨rfl⟩ ?_
  simp only [List.setIfInBounds_toArray, List.set_cons_zero, List.set_cons_succ]
  refine list_call (v := (.agg #[.bool true, .int .i64 N])) rfl rfl (ER.go (by go_simp)) (PMirFuel.ferrulelaw12_num.calls N true N V11 rfl) ?_
  intro V12 q11_12
  simp only [List.setIfInBounds_toArray, List.set_cons_zero, List.set_cons_succ]
  refine list_value (v := (.int .i64 m)) rfl rfl ⟨rfl⟩ ?_
  simp only [List.setIfInBounds_toArray, List.set_cons_zero, List.set_cons_succ]
  refine list_call (v := (.agg #[.bool true, .int .i64 m])) rfl rfl (ER.go (by go_simp)) (PMirFuel.ferrulelaw12_num.calls m true m V12 rfl) ?_
  intro V13 q12_13
  simp only [List.setIfInBounds_toArray, List.set_cons_zero, List.set_cons_succ]
  refine list_alloc (v := .slice (some ⟨V13.heap.size, 0, none⟩) 2 2) (b := Obj.cells #[.bool true, .int .i64 N, .bool true, .int .i64 m] 30) rfl rfl ⟨run_bsl rfl Try.underlying38 (by kernel_rfl)⟩ ?_
  intro V14 eV14
  have q13_14 : Below V13.heap.size V13 V14 := eV14 ▸ below_alloc (Below.refl _ _) _
  have g4 : Kd.C k30 V14 (some ⟨V13.heap.size, 0, none⟩) 2 [⟨true, N⟩, ⟨true, m⟩] := eV14 ▸ lit_C k30 rfl 30 (reps_cons (k30_mk V13 ⟨true, N⟩) rfl (reps_cons (k30_mk V13 ⟨true, m⟩) rfl (Reps.none _ _))) (by simp)
  clear eV14
  simp only [List.setIfInBounds_toArray, List.set_cons_zero, List.set_cons_succ]
  refine list_alloc (v := .slice (some ⟨V14.heap.size, 0, none⟩) 1 1) (b := Obj.cells #[.int .i64 2] 3) rfl rfl ⟨run_bsl rfl Try.underlying23 (by kernel_rfl)⟩ ?_
  intro V15 eV15
  have q14_15 : Below V14.heap.size V14 V15 := eV15 ▸ below_alloc (Below.refl _ _) _
  have g5 : Kd.C (Kd.int .i64) V15 (some ⟨V14.heap.size, 0, none⟩) 1 [2] := eV15 ▸ ints_C rfl [2] (by simp)
  clear eV15
  simp only [List.setIfInBounds_toArray, List.set_cons_zero, List.set_cons_succ]
  refine list_value (v := (.agg #[.int .i64 15, .int .i64 0, .bool false, .int .i64 0, .bool false, .int .i64 0, .int .i64 0, .slice none 0 0, .int .i64 0, .slice none 0 0, .int .i64 0, .string ⟨#[100, 111, 119, 110]⟩, .int .i64 0, .string ⟨#[]⟩, .int .i64 0, .slice none 0 0, .slice (some ⟨V13.heap.size, 0, none⟩) 2 2, .slice (some ⟨V14.heap.size, 0, none⟩) 1 1])) rfl rfl ⟨run_bld rfl (by kernel_rfl)⟩ ?_
  simp only [List.setIfInBounds_toArray, List.set_cons_zero, List.set_cons_succ]
  refine list_call (v := (.agg #[.bool false, .int .i64 2])) rfl rfl (ER.go (by go_simp)) (PMirFuel.ferrulelaw12_local.calls 2 false 2 V15 rfl) ?_
  intro V16 q15_16
  simp only [List.setIfInBounds_toArray, List.set_cons_zero, List.set_cons_succ]
  refine list_value (v := (.agg #[.int .i64 13, .int .i64 0, .bool false, .int .i64 2, .bool false, .int .i64 0, .int .i64 0, .slice none 0 0, .int .i64 0, .slice none 0 0, .int .i64 0, .string ⟨#[]⟩, .int .i64 0, .string ⟨#[]⟩, .int .i64 0, .slice none 0 0, .slice none 0 0, .slice none 0 0])) rfl rfl ⟨run_bld rfl (by kernel_rfl)⟩ ?_
  simp only [List.setIfInBounds_toArray, List.set_cons_zero, List.set_cons_succ]
  have q14_16 := below_then q14_15 q14_15.size q15_16
  have g6 := Kd.C_below g4 q14_16
  have g7 := Kd.C_below g5 q15_16
  refine list_alloc (v := .slice (some ⟨V16.heap.size, 0, none⟩) 3 3) (b := Obj.cells #[.int .i64 13, .int .i64 0, .bool false, .int .i64 1, .bool false, .int .i64 0, .int .i64 0, .slice none 0 0, .int .i64 0, .slice none 0 0, .int .i64 0, .string ⟨#[]⟩, .int .i64 0, .string ⟨#[]⟩, .int .i64 0, .slice none 0 0, .slice none 0 0, .slice none 0 0, .int .i64 15, .int .i64 0, .bool false, .int .i64 0, .bool false, .int .i64 0, .int .i64 0, .slice none 0 0, .int .i64 0, .slice none 0 0, .int .i64 0, .string ⟨#[100, 111, 119, 110]⟩, .int .i64 0, .string ⟨#[]⟩, .int .i64 0, .slice none 0 0, .slice (some ⟨V13.heap.size, 0, none⟩) 2 2, .slice (some ⟨V14.heap.size, 0, none⟩) 1 1, .int .i64 13, .int .i64 0, .bool false, .int .i64 2, .bool false, .int .i64 0, .int .i64 0, .slice none 0 0, .int .i64 0, .slice none 0 0, .int .i64 0, .string ⟨#[]⟩, .int .i64 0, .string ⟨#[]⟩, .int .i64 0, .slice none 0 0, .slice none 0 0, .slice none 0 0] 40) rfl rfl ⟨run_bsl rfl Try.underlying41 (by kernel_rfl)⟩ ?_
  intro V17 eV17
  have q16_17 : Below V16.heap.size V16 V17 := eV17 ▸ below_alloc (Below.refl _ _) _
  have g8 : Kd.C k40 V17 (some ⟨V16.heap.size, 0, none⟩) 3 [⟨13, 0, ⟨false, 1⟩, ⟨false, 0⟩, ⟨0, []⟩, ⟨0, []⟩, 0, ⟨#[]⟩, ⟨0, ⟨#[]⟩, 0, []⟩, [], []⟩, ⟨15, 0, ⟨false, 0⟩, ⟨false, 0⟩, ⟨0, []⟩, ⟨0, []⟩, 0, ⟨#[100, 111, 119, 110]⟩, ⟨0, ⟨#[]⟩, 0, []⟩, [⟨true, N⟩, ⟨true, m⟩], [2]⟩, ⟨13, 0, ⟨false, 2⟩, ⟨false, 0⟩, ⟨0, []⟩, ⟨0, []⟩, 0, ⟨#[]⟩, ⟨0, ⟨#[]⟩, 0, []⟩, [], []⟩] := eV17 ▸ lit_C k40 rfl 40 (reps_cons (k40_mk V16 ⟨13, 0, ⟨false, 1⟩, ⟨false, 0⟩, ⟨0, []⟩, ⟨0, []⟩, 0, ⟨#[]⟩, ⟨0, ⟨#[]⟩, 0, []⟩, [], []⟩ (Nat.le_refl 0) (Kd.C_nil _ _) (Nat.le_refl 0) (Kd.C_nil _ _) (Nat.le_refl 0) (Kd.C_nil _ _) (Nat.le_refl 0) (Kd.C_nil _ _) (Nat.le_refl 0) (Kd.C_nil _ _)) rfl (reps_cons (k40_mk V16 ⟨15, 0, ⟨false, 0⟩, ⟨false, 0⟩, ⟨0, []⟩, ⟨0, []⟩, 0, ⟨#[100, 111, 119, 110]⟩, ⟨0, ⟨#[]⟩, 0, []⟩, [⟨true, N⟩, ⟨true, m⟩], [2]⟩ (Nat.le_refl 0) (Kd.C_nil _ _) (Nat.le_refl 0) (Kd.C_nil _ _) (Nat.le_refl 0) (Kd.C_nil _ _) (Nat.le_refl 2) g6 (Nat.le_refl 1) g7) rfl (reps_cons (k40_mk V16 ⟨13, 0, ⟨false, 2⟩, ⟨false, 0⟩, ⟨0, []⟩, ⟨0, []⟩, 0, ⟨#[]⟩, ⟨0, ⟨#[]⟩, 0, []⟩, [], []⟩ (Nat.le_refl 0) (Kd.C_nil _ _) (Nat.le_refl 0) (Kd.C_nil _ _) (Nat.le_refl 0) (Kd.C_nil _ _) (Nat.le_refl 0) (Kd.C_nil _ _) (Nat.le_refl 0) (Kd.C_nil _ _)) rfl (Reps.none _ _)))) (by simp)
  clear eV17
  simp only [List.setIfInBounds_toArray, List.set_cons_zero, List.set_cons_succ]
  refine list_value (v := (.agg #[.int .i64 3, .bool false, .int .i64 0, .int .i64 0, .int .i64 0, .slice none 0 0])) rfl rfl ⟨run_bld rfl (by kernel_rfl)⟩ ?_
  simp only [List.setIfInBounds_toArray, List.set_cons_zero, List.set_cons_succ]
  refine list_value (v := (.agg #[.slice (some ⟨V16.heap.size, 0, none⟩) 3 3, .int .i64 3, .bool false, .int .i64 0, .int .i64 0, .int .i64 0, .slice none 0 0])) rfl rfl ⟨run_bld rfl (by kernel_rfl)⟩ ?_
  simp only [List.setIfInBounds_toArray, List.set_cons_zero, List.set_cons_succ]
  have q4_6 := below_then q4_5 q4_5.size q5_6
  have q4_7 := below_then q4_6 q4_6.size q6_7
  have q4_8 := below_then q4_7 q4_7.size q7_8
  have q4_9 := below_then q4_8 q4_8.size q8_9
  have q4_10 := below_then q4_9 q4_9.size q9_10
  have q4_11 := below_then q4_10 q4_10.size q10_11
  have q4_12 := below_then q4_11 q4_11.size q11_12
  have q4_13 := below_then q4_12 q4_12.size q12_13
  have q4_14 := below_then q4_13 q4_13.size q13_14
  have q4_15 := below_then q4_14 q4_14.size q14_15
  have q4_16 := below_then q4_15 q4_15.size q15_16
  have q4_17 := below_then q4_16 q4_16.size q16_17
  have g9 := Kd.C_below g2 q4_17
  have q10_12 := below_then q10_11 q10_11.size q11_12
  have q10_13 := below_then q10_12 q10_12.size q12_13
  have q10_14 := below_then q10_13 q10_13.size q13_14
  have q10_15 := below_then q10_14 q10_14.size q14_15
  have q10_16 := below_then q10_15 q10_15.size q15_16
  have q10_17 := below_then q10_16 q10_16.size q16_17
  have g10 := Kd.C_below g3 q10_17
  refine list_alloc (v := .slice (some ⟨V17.heap.size, 0, none⟩) 4 4) (b := Obj.cells #[.slice (some ⟨V3.heap.size, 0, none⟩) 2 2, .int .i64 1, .bool false, .int .i64 0, .int .i64 1, .int .i64 0, .slice none 0 0, .slice none 0 0, .int .i64 2, .bool false, .int .i64 0, .int .i64 2, .int .i64 3, .slice none 0 0, .slice (some ⟨V9.heap.size, 0, none⟩) 2 2, .int .i64 1, .bool false, .int .i64 0, .int .i64 1, .int .i64 0, .slice none 0 0, .slice (some ⟨V16.heap.size, 0, none⟩) 3 3, .int .i64 3, .bool false, .int .i64 0, .int .i64 0, .int .i64 0, .slice none 0 0] 45) rfl rfl ⟨run_bsl rfl Try.underlying46 (by kernel_rfl)⟩ ?_
  intro V18 eV18
  have q17_18 : Below V17.heap.size V17 V18 := eV18 ▸ below_alloc (Below.refl _ _) _
  have g11 : Kd.C k45 V18 (some ⟨V17.heap.size, 0, none⟩) 4 [⟨[⟨1, 0, ⟨true, N⟩, ⟨false, 0⟩, ⟨0, []⟩, ⟨0, []⟩, 0, ⟨#[]⟩, ⟨0, ⟨#[]⟩, 0, []⟩, [], []⟩, ⟨1, 1, ⟨true, m⟩, ⟨false, 0⟩, ⟨0, []⟩, ⟨0, []⟩, 0, ⟨#[]⟩, ⟨0, ⟨#[]⟩, 0, []⟩, [], []⟩], ⟨1, ⟨false, 0⟩, 1, 0, []⟩⟩, ⟨[], ⟨2, ⟨false, 0⟩, 2, 3, []⟩⟩, ⟨[⟨2, 1, ⟨false, 1⟩, ⟨false, 0⟩, ⟨0, []⟩, ⟨0, []⟩, 0, ⟨#[97, 100, 100]⟩, ⟨0, ⟨#[]⟩, 0, []⟩, [], []⟩, ⟨2, 0, ⟨false, 0⟩, ⟨true, 1⟩, ⟨0, []⟩, ⟨0, []⟩, 0, ⟨#[115, 117, 98]⟩, ⟨0, ⟨#[]⟩, 0, []⟩, [], []⟩], ⟨1, ⟨false, 0⟩, 1, 0, []⟩⟩, ⟨[⟨13, 0, ⟨false, 1⟩, ⟨false, 0⟩, ⟨0, []⟩, ⟨0, []⟩, 0, ⟨#[]⟩, ⟨0, ⟨#[]⟩, 0, []⟩, [], []⟩, ⟨15, 0, ⟨false, 0⟩, ⟨false, 0⟩, ⟨0, []⟩, ⟨0, []⟩, 0, ⟨#[100, 111, 119, 110]⟩, ⟨0, ⟨#[]⟩, 0, []⟩, [⟨true, N⟩, ⟨true, m⟩], [2]⟩, ⟨13, 0, ⟨false, 2⟩, ⟨false, 0⟩, ⟨0, []⟩, ⟨0, []⟩, 0, ⟨#[]⟩, ⟨0, ⟨#[]⟩, 0, []⟩, [], []⟩], ⟨3, ⟨false, 0⟩, 0, 0, []⟩⟩] := eV18 ▸ lit_C k45 rfl 45 (reps_cons (k45_mk V17 ⟨[⟨1, 0, ⟨true, N⟩, ⟨false, 0⟩, ⟨0, []⟩, ⟨0, []⟩, 0, ⟨#[]⟩, ⟨0, ⟨#[]⟩, 0, []⟩, [], []⟩, ⟨1, 1, ⟨true, m⟩, ⟨false, 0⟩, ⟨0, []⟩, ⟨0, []⟩, 0, ⟨#[]⟩, ⟨0, ⟨#[]⟩, 0, []⟩, [], []⟩], ⟨1, ⟨false, 0⟩, 1, 0, []⟩⟩ (Nat.le_refl 2) g9 (Nat.le_refl 0) (Kd.C_nil _ _)) rfl (reps_cons (k45_mk V17 ⟨[], ⟨2, ⟨false, 0⟩, 2, 3, []⟩⟩ (Nat.le_refl 0) (Kd.C_nil _ _) (Nat.le_refl 0) (Kd.C_nil _ _)) rfl (reps_cons (k45_mk V17 ⟨[⟨2, 1, ⟨false, 1⟩, ⟨false, 0⟩, ⟨0, []⟩, ⟨0, []⟩, 0, ⟨#[97, 100, 100]⟩, ⟨0, ⟨#[]⟩, 0, []⟩, [], []⟩, ⟨2, 0, ⟨false, 0⟩, ⟨true, 1⟩, ⟨0, []⟩, ⟨0, []⟩, 0, ⟨#[115, 117, 98]⟩, ⟨0, ⟨#[]⟩, 0, []⟩, [], []⟩], ⟨1, ⟨false, 0⟩, 1, 0, []⟩⟩ (Nat.le_refl 2) g10 (Nat.le_refl 0) (Kd.C_nil _ _)) rfl (reps_cons (k45_mk V17 ⟨[⟨13, 0, ⟨false, 1⟩, ⟨false, 0⟩, ⟨0, []⟩, ⟨0, []⟩, 0, ⟨#[]⟩, ⟨0, ⟨#[]⟩, 0, []⟩, [], []⟩, ⟨15, 0, ⟨false, 0⟩, ⟨false, 0⟩, ⟨0, []⟩, ⟨0, []⟩, 0, ⟨#[100, 111, 119, 110]⟩, ⟨0, ⟨#[]⟩, 0, []⟩, [⟨true, N⟩, ⟨true, m⟩], [2]⟩, ⟨13, 0, ⟨false, 2⟩, ⟨false, 0⟩, ⟨0, []⟩, ⟨0, []⟩, 0, ⟨#[]⟩, ⟨0, ⟨#[]⟩, 0, []⟩, [], []⟩], ⟨3, ⟨false, 0⟩, 0, 0, []⟩⟩ (Nat.le_refl 3) g8 (Nat.le_refl 0) (Kd.C_nil _ _)) rfl (Reps.none _ _))))) (by simp)
  clear eV18
  simp only [List.setIfInBounds_toArray, List.set_cons_zero, List.set_cons_succ]
  refine list_value (v := (.agg #[.string ⟨#[109, 97, 105, 110]⟩, .slice (some ⟨V0.heap.size, 0, none⟩) 3 3, .int .i64 0, .int .i64 0, .bool false, .slice (some ⟨V17.heap.size, 0, none⟩) 4 4])) rfl rfl ⟨run_bld rfl (by kernel_rfl)⟩ ?_
  simp only [List.setIfInBounds_toArray, List.set_cons_zero, List.set_cons_succ]
  refine list_alloc (v := .pointer (some ⟨V18.heap.size, 0, none⟩)) (b := Obj.cells #[.string ⟨#[]⟩, .slice none 0 0, .int .i64 0, .int .i64 0, .bool false, .slice none 0 0] 48) rfl rfl ⟨rfl⟩ ?_
  intro ZV19 eZV19
  simp only [List.setIfInBounds_toArray, List.set_cons_zero, List.set_cons_succ]
  subst eZV19
  refine list_store (w' := V18.alloc (Obj.cells #[.string ⟨#[109, 97, 105, 110]⟩, .slice (some ⟨V0.heap.size, 0, none⟩) 3 3, .int .i64 0, .int .i64 0, .bool false, .slice (some ⟨V17.heap.size, 0, none⟩) 4 4] 48)) rfl rfl ⟨storeN 48 6 (by kernel_rfl) _ _ _ rfl rfl (by first | kernel_rfl | simp [Value.oneCell']) _ _ _ _ rfl rfl rfl⟩ ?_
  obtain ⟨V19, eV19⟩ : ∃ V, V18.alloc (Obj.cells #[.string ⟨#[109, 97, 105, 110]⟩, .slice (some ⟨V0.heap.size, 0, none⟩) 3 3, .int .i64 0, .int .i64 0, .bool false, .slice (some ⟨V17.heap.size, 0, none⟩) 4 4] 48) = V := ⟨_, rfl⟩
  rw [eV19]
  have q18_19 : Below V18.heap.size V18 V19 := eV19 ▸ below_alloc (Below.refl _ _) _
  have xV19 : Has V19 V18.heap.size #[.string ⟨#[109, 97, 105, 110]⟩, .slice (some ⟨V0.heap.size, 0, none⟩) 3 3, .int .i64 0, .int .i64 0, .bool false, .slice (some ⟨V17.heap.size, 0, none⟩) 4 4] 48 := eV19 ▸ Has.new V18 _ 48
  clear eV19
  go_wp2_with ((with_reducible refine gate_dst (N := 51) rfl ?_); refine Hold.out ?_)
  refine ⟨?_⟩
  refine list_alloc (v := .slice (some ⟨V19.heap.size, 0, none⟩) 3 3) (b := Obj.cells #[.int .i64 1, .int .i64 1, .int .i64 1] 3) rfl rfl ⟨run_bsl rfl Try.underlying23 (by kernel_rfl)⟩ ?_
  intro V20 eV20
  have q19_20 : Below V19.heap.size V19 V20 := eV20 ▸ below_alloc (Below.refl _ _) _
  have g12 : Kd.C (Kd.int .i64) V20 (some ⟨V19.heap.size, 0, none⟩) 3 [1, 1, 1] := eV20 ▸ ints_C rfl [1, 1, 1] (by simp)
  clear eV20
  simp only [List.setIfInBounds_toArray, List.set_cons_zero, List.set_cons_succ]
  refine list_call (v := (.agg #[.bool false, .int .i64 0])) rfl rfl (ER.go (by go_simp)) (PMirFuel.ferrulelaw12_local.calls 0 false 0 V20 rfl) ?_
  intro V21 q20_21
  simp only [List.setIfInBounds_toArray, List.set_cons_zero, List.set_cons_succ]
  refine list_value (v := (.agg #[.int .i64 2, .bool false, .int .i64 0, .int .i64 1, .int .i64 2, .slice none 0 0])) rfl rfl ⟨run_bld rfl (by kernel_rfl)⟩ ?_
  simp only [List.setIfInBounds_toArray, List.set_cons_zero, List.set_cons_succ]
  refine list_value (v := (.agg #[.slice none 0 0, .int .i64 2, .bool false, .int .i64 0, .int .i64 1, .int .i64 2, .slice none 0 0])) rfl rfl ⟨run_bld rfl (by kernel_rfl)⟩ ?_
  simp only [List.setIfInBounds_toArray, List.set_cons_zero, List.set_cons_succ]
  refine list_call (v := (.agg #[.bool false, .int .i64 1])) rfl rfl (ER.go (by go_simp)) (PMirFuel.ferrulelaw12_local.calls 1 false 1 V21 rfl) ?_
  intro V22 q21_22
  simp only [List.setIfInBounds_toArray, List.set_cons_zero, List.set_cons_succ]
  refine list_call (v := (.agg #[.bool false, .int .i64 0])) rfl rfl (ER.go (by go_simp)) (PMirFuel.ferrulelaw12_local.calls 0 false 0 V22 rfl) ?_
  intro V23 q22_23
  simp only [List.setIfInBounds_toArray, List.set_cons_zero, List.set_cons_succ]
  refine list_value (v := (.agg #[.int .i64 2, .int .i64 1, .bool false, .int .i64 1, .bool false, .int .i64 0, .int .i64 0, .slice none 0 0, .int .i64 0, .slice none 0 0, .int .i64 0, .string ⟨#[97, 100, 100]⟩, .int .i64 0, .string ⟨#[]⟩, .int .i64 0, .slice none 0 0, .slice none 0 0, .slice none 0 0])) rfl rfl ⟨run_bld rfl (by kernel_rfl)⟩ ?_
  simp only [List.setIfInBounds_toArray, List.set_cons_zero, List.set_cons_succ]
  refine list_call (v := (.agg #[.bool false, .int .i64 0])) rfl rfl (ER.go (by go_simp)) (PMirFuel.ferrulelaw12_local.calls 0 false 0 V23 rfl) ?_
  intro V24 q23_24
  simp only [List.setIfInBounds_toArray, List.set_cons_zero, List.set_cons_succ]
  refine list_call (v := (.agg #[.bool true, .int .i64 1])) rfl rfl (ER.go (by go_simp)) (PMirFuel.ferrulelaw12_num.calls 1 true 1 V24 rfl) ?_
  intro V25 q24_25
  simp only [List.setIfInBounds_toArray, List.set_cons_zero, List.set_cons_succ]
  refine list_value (v := (.agg #[.int .i64 2, .int .i64 0, .bool false, .int .i64 0, .bool true, .int .i64 1, .int .i64 0, .slice none 0 0, .int .i64 0, .slice none 0 0, .int .i64 0, .string ⟨#[115, 117, 98]⟩, .int .i64 0, .string ⟨#[]⟩, .int .i64 0, .slice none 0 0, .slice none 0 0, .slice none 0 0])) rfl rfl ⟨run_bld rfl (by kernel_rfl)⟩ ?_
  simp only [List.setIfInBounds_toArray, List.set_cons_zero, List.set_cons_succ]
  refine list_call (v := (.agg #[.bool false, .int .i64 0])) rfl rfl (ER.go (by go_simp)) (PMirFuel.ferrulelaw12_local.calls 0 false 0 V25 rfl) ?_
  intro V26 q25_26
  simp only [List.setIfInBounds_toArray, List.set_cons_zero, List.set_cons_succ]
  refine list_call (v := (.agg #[.bool false, .int .i64 1])) rfl rfl (ER.go (by go_simp)) (PMirFuel.ferrulelaw12_local.calls 1 false 1 V26 rfl) ?_
  intro V27 q26_27
  simp only [List.setIfInBounds_toArray, List.set_cons_zero, List.set_cons_succ]
  refine list_alloc (v := .slice (some ⟨V27.heap.size, 0, none⟩) 2 2) (b := Obj.cells #[.bool false, .int .i64 0, .bool false, .int .i64 1] 30) rfl rfl ⟨run_bsl rfl Try.underlying38 (by kernel_rfl)⟩ ?_
  intro V28 eV28
  have q27_28 : Below V27.heap.size V27 V28 := eV28 ▸ below_alloc (Below.refl _ _) _
  have g13 : Kd.C k30 V28 (some ⟨V27.heap.size, 0, none⟩) 2 [⟨false, 0⟩, ⟨false, 1⟩] := eV28 ▸ lit_C k30 rfl 30 (reps_cons (k30_mk V27 ⟨false, 0⟩) rfl (reps_cons (k30_mk V27 ⟨false, 1⟩) rfl (Reps.none _ _))) (by simp)
  clear eV28
  simp only [List.setIfInBounds_toArray, List.set_cons_zero, List.set_cons_succ]
  refine list_alloc (v := .slice (some ⟨V28.heap.size, 0, none⟩) 1 1) (b := Obj.cells #[.int .i64 2] 3) rfl rfl ⟨run_bsl rfl Try.underlying23 (by kernel_rfl)⟩ ?_
  intro V29 eV29
  have q28_29 : Below V28.heap.size V28 V29 := eV29 ▸ below_alloc (Below.refl _ _) _
  have g14 : Kd.C (Kd.int .i64) V29 (some ⟨V28.heap.size, 0, none⟩) 1 [2] := eV29 ▸ ints_C rfl [2] (by simp)
  clear eV29
  simp only [List.setIfInBounds_toArray, List.set_cons_zero, List.set_cons_succ]
  refine list_value (v := (.agg #[.int .i64 15, .int .i64 0, .bool false, .int .i64 0, .bool false, .int .i64 0, .int .i64 0, .slice none 0 0, .int .i64 0, .slice none 0 0, .int .i64 0, .string ⟨#[100, 111, 119, 110]⟩, .int .i64 0, .string ⟨#[]⟩, .int .i64 0, .slice none 0 0, .slice (some ⟨V27.heap.size, 0, none⟩) 2 2, .slice (some ⟨V28.heap.size, 0, none⟩) 1 1])) rfl rfl ⟨run_bld rfl (by kernel_rfl)⟩ ?_
  simp only [List.setIfInBounds_toArray, List.set_cons_zero, List.set_cons_succ]
  have g15 := Kd.C_below g13 q28_29
  refine list_alloc (v := .slice (some ⟨V29.heap.size, 0, none⟩) 3 3) (b := Obj.cells #[.int .i64 2, .int .i64 1, .bool false, .int .i64 1, .bool false, .int .i64 0, .int .i64 0, .slice none 0 0, .int .i64 0, .slice none 0 0, .int .i64 0, .string ⟨#[97, 100, 100]⟩, .int .i64 0, .string ⟨#[]⟩, .int .i64 0, .slice none 0 0, .slice none 0 0, .slice none 0 0, .int .i64 2, .int .i64 0, .bool false, .int .i64 0, .bool true, .int .i64 1, .int .i64 0, .slice none 0 0, .int .i64 0, .slice none 0 0, .int .i64 0, .string ⟨#[115, 117, 98]⟩, .int .i64 0, .string ⟨#[]⟩, .int .i64 0, .slice none 0 0, .slice none 0 0, .slice none 0 0, .int .i64 15, .int .i64 0, .bool false, .int .i64 0, .bool false, .int .i64 0, .int .i64 0, .slice none 0 0, .int .i64 0, .slice none 0 0, .int .i64 0, .string ⟨#[100, 111, 119, 110]⟩, .int .i64 0, .string ⟨#[]⟩, .int .i64 0, .slice none 0 0, .slice (some ⟨V27.heap.size, 0, none⟩) 2 2, .slice (some ⟨V28.heap.size, 0, none⟩) 1 1] 40) rfl rfl ⟨run_bsl rfl Try.underlying41 (by kernel_rfl)⟩ ?_
  intro V30 eV30
  have q29_30 : Below V29.heap.size V29 V30 := eV30 ▸ below_alloc (Below.refl _ _) _
  have g16 : Kd.C k40 V30 (some ⟨V29.heap.size, 0, none⟩) 3 [⟨2, 1, ⟨false, 1⟩, ⟨false, 0⟩, ⟨0, []⟩, ⟨0, []⟩, 0, ⟨#[97, 100, 100]⟩, ⟨0, ⟨#[]⟩, 0, []⟩, [], []⟩, ⟨2, 0, ⟨false, 0⟩, ⟨true, 1⟩, ⟨0, []⟩, ⟨0, []⟩, 0, ⟨#[115, 117, 98]⟩, ⟨0, ⟨#[]⟩, 0, []⟩, [], []⟩, ⟨15, 0, ⟨false, 0⟩, ⟨false, 0⟩, ⟨0, []⟩, ⟨0, []⟩, 0, ⟨#[100, 111, 119, 110]⟩, ⟨0, ⟨#[]⟩, 0, []⟩, [⟨false, 0⟩, ⟨false, 1⟩], [2]⟩] := eV30 ▸ lit_C k40 rfl 40 (reps_cons (k40_mk V29 ⟨2, 1, ⟨false, 1⟩, ⟨false, 0⟩, ⟨0, []⟩, ⟨0, []⟩, 0, ⟨#[97, 100, 100]⟩, ⟨0, ⟨#[]⟩, 0, []⟩, [], []⟩ (Nat.le_refl 0) (Kd.C_nil _ _) (Nat.le_refl 0) (Kd.C_nil _ _) (Nat.le_refl 0) (Kd.C_nil _ _) (Nat.le_refl 0) (Kd.C_nil _ _) (Nat.le_refl 0) (Kd.C_nil _ _)) rfl (reps_cons (k40_mk V29 ⟨2, 0, ⟨false, 0⟩, ⟨true, 1⟩, ⟨0, []⟩, ⟨0, []⟩, 0, ⟨#[115, 117, 98]⟩, ⟨0, ⟨#[]⟩, 0, []⟩, [], []⟩ (Nat.le_refl 0) (Kd.C_nil _ _) (Nat.le_refl 0) (Kd.C_nil _ _) (Nat.le_refl 0) (Kd.C_nil _ _) (Nat.le_refl 0) (Kd.C_nil _ _) (Nat.le_refl 0) (Kd.C_nil _ _)) rfl (reps_cons (k40_mk V29 ⟨15, 0, ⟨false, 0⟩, ⟨false, 0⟩, ⟨0, []⟩, ⟨0, []⟩, 0, ⟨#[100, 111, 119, 110]⟩, ⟨0, ⟨#[]⟩, 0, []⟩, [⟨false, 0⟩, ⟨false, 1⟩], [2]⟩ (Nat.le_refl 0) (Kd.C_nil _ _) (Nat.le_refl 0) (Kd.C_nil _ _) (Nat.le_refl 0) (Kd.C_nil _ _) (Nat.le_refl 2) g15 (Nat.le_refl 1) g14) rfl (Reps.none _ _)))) (by simp)
  clear eV30
  simp only [List.setIfInBounds_toArray, List.set_cons_zero, List.set_cons_succ]
  refine list_call (v := (.agg #[.bool false, .int .i64 2])) rfl rfl (ER.go (by go_simp)) (PMirFuel.ferrulelaw12_local.calls 2 false 2 V30 rfl) ?_
  intro V31 q30_31
  simp only [List.setIfInBounds_toArray, List.set_cons_zero, List.set_cons_succ]
  refine list_alloc (v := .slice (some ⟨V31.heap.size, 0, none⟩) 1 1) (b := Obj.cells #[.bool false, .int .i64 2] 30) rfl rfl ⟨run_bsl rfl Try.underlying38 (by kernel_rfl)⟩ ?_
  intro V32 eV32
  have q31_32 : Below V31.heap.size V31 V32 := eV32 ▸ below_alloc (Below.refl _ _) _
  have g17 : Kd.C k30 V32 (some ⟨V31.heap.size, 0, none⟩) 1 [⟨false, 2⟩] := eV32 ▸ lit_C k30 rfl 30 (reps_cons (k30_mk V31 ⟨false, 2⟩) rfl (Reps.none _ _)) (by simp)
  clear eV32
  simp only [List.setIfInBounds_toArray, List.set_cons_zero, List.set_cons_succ]
  refine list_value (v := (.agg #[.int .i64 3, .bool false, .int .i64 0, .int .i64 0, .int .i64 0, .slice (some ⟨V31.heap.size, 0, none⟩) 1 1])) rfl rfl ⟨run_bld rfl (by kernel_rfl)⟩ ?_
  simp only [List.setIfInBounds_toArray, List.set_cons_zero, List.set_cons_succ]
  refine list_value (v := (.agg #[.slice (some ⟨V29.heap.size, 0, none⟩) 3 3, .int .i64 3, .bool false, .int .i64 0, .int .i64 0, .int .i64 0, .slice (some ⟨V31.heap.size, 0, none⟩) 1 1])) rfl rfl ⟨run_bld rfl (by kernel_rfl)⟩ ?_
  simp only [List.setIfInBounds_toArray, List.set_cons_zero, List.set_cons_succ]
  refine list_call (v := (.agg #[.bool false, .int .i64 1])) rfl rfl (ER.go (by go_simp)) (PMirFuel.ferrulelaw12_local.calls 1 false 1 V32 rfl) ?_
  intro V33 q32_33
  simp only [List.setIfInBounds_toArray, List.set_cons_zero, List.set_cons_succ]
  refine list_alloc (v := .slice (some ⟨V33.heap.size, 0, none⟩) 1 1) (b := Obj.cells #[.bool false, .int .i64 1] 30) rfl rfl ⟨run_bsl rfl Try.underlying38 (by kernel_rfl)⟩ ?_
  intro V34 eV34
  have q33_34 : Below V33.heap.size V33 V34 := eV34 ▸ below_alloc (Below.refl _ _) _
  have g18 : Kd.C k30 V34 (some ⟨V33.heap.size, 0, none⟩) 1 [⟨false, 1⟩] := eV34 ▸ lit_C k30 rfl 30 (reps_cons (k30_mk V33 ⟨false, 1⟩) rfl (Reps.none _ _)) (by simp)
  clear eV34
  simp only [List.setIfInBounds_toArray, List.set_cons_zero, List.set_cons_succ]
  refine list_value (v := (.agg #[.int .i64 3, .bool false, .int .i64 0, .int .i64 0, .int .i64 0, .slice (some ⟨V33.heap.size, 0, none⟩) 1 1])) rfl rfl ⟨run_bld rfl (by kernel_rfl)⟩ ?_
  simp only [List.setIfInBounds_toArray, List.set_cons_zero, List.set_cons_succ]
  refine list_value (v := (.agg #[.slice none 0 0, .int .i64 3, .bool false, .int .i64 0, .int .i64 0, .int .i64 0, .slice (some ⟨V33.heap.size, 0, none⟩) 1 1])) rfl rfl ⟨run_bld rfl (by kernel_rfl)⟩ ?_
  simp only [List.setIfInBounds_toArray, List.set_cons_zero, List.set_cons_succ]
  have q30_32 := below_then q30_31 q30_31.size q31_32
  have q30_33 := below_then q30_32 q30_32.size q32_33
  have q30_34 := below_then q30_33 q30_33.size q33_34
  have g19 := Kd.C_below g16 q30_34
  have q32_34 := below_then q32_33 q32_33.size q33_34
  have g20 := Kd.C_below g17 q32_34
  refine list_alloc (v := .slice (some ⟨V34.heap.size, 0, none⟩) 3 3) (b := Obj.cells #[.slice none 0 0, .int .i64 2, .bool false, .int .i64 0, .int .i64 1, .int .i64 2, .slice none 0 0, .slice (some ⟨V29.heap.size, 0, none⟩) 3 3, .int .i64 3, .bool false, .int .i64 0, .int .i64 0, .int .i64 0, .slice (some ⟨V31.heap.size, 0, none⟩) 1 1, .slice none 0 0, .int .i64 3, .bool false, .int .i64 0, .int .i64 0, .int .i64 0, .slice (some ⟨V33.heap.size, 0, none⟩) 1 1] 45) rfl rfl ⟨run_bsl rfl Try.underlying46 (by kernel_rfl)⟩ ?_
  intro V35 eV35
  have q34_35 : Below V34.heap.size V34 V35 := eV35 ▸ below_alloc (Below.refl _ _) _
  have g21 : Kd.C k45 V35 (some ⟨V34.heap.size, 0, none⟩) 3 [⟨[], ⟨2, ⟨false, 0⟩, 1, 2, []⟩⟩, ⟨[⟨2, 1, ⟨false, 1⟩, ⟨false, 0⟩, ⟨0, []⟩, ⟨0, []⟩, 0, ⟨#[97, 100, 100]⟩, ⟨0, ⟨#[]⟩, 0, []⟩, [], []⟩, ⟨2, 0, ⟨false, 0⟩, ⟨true, 1⟩, ⟨0, []⟩, ⟨0, []⟩, 0, ⟨#[115, 117, 98]⟩, ⟨0, ⟨#[]⟩, 0, []⟩, [], []⟩, ⟨15, 0, ⟨false, 0⟩, ⟨false, 0⟩, ⟨0, []⟩, ⟨0, []⟩, 0, ⟨#[100, 111, 119, 110]⟩, ⟨0, ⟨#[]⟩, 0, []⟩, [⟨false, 0⟩, ⟨false, 1⟩], [2]⟩], ⟨3, ⟨false, 0⟩, 0, 0, [⟨false, 2⟩]⟩⟩, ⟨[], ⟨3, ⟨false, 0⟩, 0, 0, [⟨false, 1⟩]⟩⟩] := eV35 ▸ lit_C k45 rfl 45 (reps_cons (k45_mk V34 ⟨[], ⟨2, ⟨false, 0⟩, 1, 2, []⟩⟩ (Nat.le_refl 0) (Kd.C_nil _ _) (Nat.le_refl 0) (Kd.C_nil _ _)) rfl (reps_cons (k45_mk V34 ⟨[⟨2, 1, ⟨false, 1⟩, ⟨false, 0⟩, ⟨0, []⟩, ⟨0, []⟩, 0, ⟨#[97, 100, 100]⟩, ⟨0, ⟨#[]⟩, 0, []⟩, [], []⟩, ⟨2, 0, ⟨false, 0⟩, ⟨true, 1⟩, ⟨0, []⟩, ⟨0, []⟩, 0, ⟨#[115, 117, 98]⟩, ⟨0, ⟨#[]⟩, 0, []⟩, [], []⟩, ⟨15, 0, ⟨false, 0⟩, ⟨false, 0⟩, ⟨0, []⟩, ⟨0, []⟩, 0, ⟨#[100, 111, 119, 110]⟩, ⟨0, ⟨#[]⟩, 0, []⟩, [⟨false, 0⟩, ⟨false, 1⟩], [2]⟩], ⟨3, ⟨false, 0⟩, 0, 0, [⟨false, 2⟩]⟩⟩ (Nat.le_refl 3) g19 (Nat.le_refl 1) g20) rfl (reps_cons (k45_mk V34 ⟨[], ⟨3, ⟨false, 0⟩, 0, 0, [⟨false, 1⟩]⟩⟩ (Nat.le_refl 0) (Kd.C_nil _ _) (Nat.le_refl 1) g18) rfl (Reps.none _ _)))) (by simp)
  clear eV35
  simp only [List.setIfInBounds_toArray, List.set_cons_zero, List.set_cons_succ]
  refine list_value (v := (.agg #[.string ⟨#[100, 111, 119, 110]⟩, .slice (some ⟨V19.heap.size, 0, none⟩) 3 3, .int .i64 2, .int .i64 1, .bool false, .slice (some ⟨V34.heap.size, 0, none⟩) 3 3])) rfl rfl ⟨run_bld rfl (by kernel_rfl)⟩ ?_
  simp only [List.setIfInBounds_toArray, List.set_cons_zero, List.set_cons_succ]
  refine list_alloc (v := .pointer (some ⟨V35.heap.size, 0, none⟩)) (b := Obj.cells #[.string ⟨#[]⟩, .slice none 0 0, .int .i64 0, .int .i64 0, .bool false, .slice none 0 0] 48) rfl rfl ⟨rfl⟩ ?_
  intro ZV36 eZV36
  simp only [List.setIfInBounds_toArray, List.set_cons_zero, List.set_cons_succ]
  subst eZV36
  refine list_store (w' := V35.alloc (Obj.cells #[.string ⟨#[100, 111, 119, 110]⟩, .slice (some ⟨V19.heap.size, 0, none⟩) 3 3, .int .i64 2, .int .i64 1, .bool false, .slice (some ⟨V34.heap.size, 0, none⟩) 3 3] 48)) rfl rfl ⟨storeN 48 6 (by kernel_rfl) _ _ _ rfl rfl (by first | kernel_rfl | simp [Value.oneCell']) _ _ _ _ rfl rfl rfl⟩ ?_
  obtain ⟨V36, eV36⟩ : ∃ V, V35.alloc (Obj.cells #[.string ⟨#[100, 111, 119, 110]⟩, .slice (some ⟨V19.heap.size, 0, none⟩) 3 3, .int .i64 2, .int .i64 1, .bool false, .slice (some ⟨V34.heap.size, 0, none⟩) 3 3] 48) = V := ⟨_, rfl⟩
  rw [eV36]
  have q35_36 : Below V35.heap.size V35 V36 := eV36 ▸ below_alloc (Below.refl _ _) _
  have xV36 : Has V36 V35.heap.size #[.string ⟨#[100, 111, 119, 110]⟩, .slice (some ⟨V19.heap.size, 0, none⟩) 3 3, .int .i64 2, .int .i64 1, .bool false, .slice (some ⟨V34.heap.size, 0, none⟩) 3 3] 48 := eV36 ▸ Has.new V35 _ 48
  clear eV36
  go_wp2_with ((with_reducible refine gate_dst (N := 77) rfl ?_); refine Hold.out ?_)
  refine ⟨?_⟩
  have q19_21 := below_then q19_20 q19_20.size q20_21
  have q19_22 := below_then q19_21 q19_21.size q21_22
  have q19_23 := below_then q19_22 q19_22.size q22_23
  have q19_24 := below_then q19_23 q19_23.size q23_24
  have q19_25 := below_then q19_24 q19_24.size q24_25
  have q19_26 := below_then q19_25 q19_25.size q25_26
  have q19_27 := below_then q19_26 q19_26.size q26_27
  have q19_28 := below_then q19_27 q19_27.size q27_28
  have q19_29 := below_then q19_28 q19_28.size q28_29
  have q19_30 := below_then q19_29 q19_29.size q29_30
  have q19_31 := below_then q19_30 q19_30.size q30_31
  have q19_32 := below_then q19_31 q19_31.size q31_32
  have q19_33 := below_then q19_32 q19_32.size q32_33
  have q19_34 := below_then q19_33 q19_33.size q33_34
  have q19_35 := below_then q19_34 q19_34.size q34_35
  have q19_36 := below_then q19_35 q19_35.size q35_36
  have x22 := xV19.belowS q19_36
  refine list_value (v := (.agg #[.string ⟨#[109, 97, 105, 110]⟩, .slice (some ⟨V0.heap.size, 0, none⟩) 3 3, .int .i64 0, .int .i64 0, .bool false, .slice (some ⟨V17.heap.size, 0, none⟩) 4 4])) rfl rfl ⟨loadN 48 6 (by kernel_rfl) Try.underlying48 _ _ _ x22 rfl _ _ _ rfl rfl⟩ ?_
  simp only [List.setIfInBounds_toArray, List.set_cons_zero, List.set_cons_succ]
  refine list_value (v := (.agg #[.string ⟨#[100, 111, 119, 110]⟩, .slice (some ⟨V19.heap.size, 0, none⟩) 3 3, .int .i64 2, .int .i64 1, .bool false, .slice (some ⟨V34.heap.size, 0, none⟩) 3 3])) rfl rfl ⟨loadN 48 6 (by kernel_rfl) Try.underlying48 _ _ _ xV36 rfl _ _ _ rfl rfl⟩ ?_
  simp only [List.setIfInBounds_toArray, List.set_cons_zero, List.set_cons_succ]
  have q1_3 := below_then q1_2 q1_2.size q2_3
  have q1_4 := below_then q1_3 q1_3.size q3_4
  have q1_5 := below_then q1_4 q1_4.size q4_5
  have q1_6 := below_then q1_5 q1_5.size q5_6
  have q1_7 := below_then q1_6 q1_6.size q6_7
  have q1_8 := below_then q1_7 q1_7.size q7_8
  have q1_9 := below_then q1_8 q1_8.size q8_9
  have q1_10 := below_then q1_9 q1_9.size q9_10
  have q1_11 := below_then q1_10 q1_10.size q10_11
  have q1_12 := below_then q1_11 q1_11.size q11_12
  have q1_13 := below_then q1_12 q1_12.size q12_13
  have q1_14 := below_then q1_13 q1_13.size q13_14
  have q1_15 := below_then q1_14 q1_14.size q14_15
  have q1_16 := below_then q1_15 q1_15.size q15_16
  have q1_17 := below_then q1_16 q1_16.size q16_17
  have q1_18 := below_then q1_17 q1_17.size q17_18
  have q1_19 := below_then q1_18 q1_18.size q18_19
  have q1_20 := below_then q1_19 q1_19.size q19_20
  have q1_21 := below_then q1_20 q1_20.size q20_21
  have q1_22 := below_then q1_21 q1_21.size q21_22
  have q1_23 := below_then q1_22 q1_22.size q22_23
  have q1_24 := below_then q1_23 q1_23.size q23_24
  have q1_25 := below_then q1_24 q1_24.size q24_25
  have q1_26 := below_then q1_25 q1_25.size q25_26
  have q1_27 := below_then q1_26 q1_26.size q26_27
  have q1_28 := below_then q1_27 q1_27.size q27_28
  have q1_29 := below_then q1_28 q1_28.size q28_29
  have q1_30 := below_then q1_29 q1_29.size q29_30
  have q1_31 := below_then q1_30 q1_30.size q30_31
  have q1_32 := below_then q1_31 q1_31.size q31_32
  have q1_33 := below_then q1_32 q1_32.size q32_33
  have q1_34 := below_then q1_33 q1_33.size q33_34
  have q1_35 := below_then q1_34 q1_34.size q34_35
  have q1_36 := below_then q1_35 q1_35.size q35_36
  have g23 := Kd.C_below g1 q1_36
  have q18_20 := below_then q18_19 q18_19.size q19_20
  have q18_21 := below_then q18_20 q18_20.size q20_21
  have q18_22 := below_then q18_21 q18_21.size q21_22
  have q18_23 := below_then q18_22 q18_22.size q22_23
  have q18_24 := below_then q18_23 q18_23.size q23_24
  have q18_25 := below_then q18_24 q18_24.size q24_25
  have q18_26 := below_then q18_25 q18_25.size q25_26
  have q18_27 := below_then q18_26 q18_26.size q26_27
  have q18_28 := below_then q18_27 q18_27.size q27_28
  have q18_29 := below_then q18_28 q18_28.size q28_29
  have q18_30 := below_then q18_29 q18_29.size q29_30
  have q18_31 := below_then q18_30 q18_30.size q30_31
  have q18_32 := below_then q18_31 q18_31.size q31_32
  have q18_33 := below_then q18_32 q18_32.size q32_33
  have q18_34 := below_then q18_33 q18_33.size q33_34
  have q18_35 := below_then q18_34 q18_34.size q34_35
  have q18_36 := below_then q18_35 q18_35.size q35_36
  have g24 := Kd.C_below g11 q18_36
  have q20_22 := below_then q20_21 q20_21.size q21_22
  have q20_23 := below_then q20_22 q20_22.size q22_23
  have q20_24 := below_then q20_23 q20_23.size q23_24
  have q20_25 := below_then q20_24 q20_24.size q24_25
  have q20_26 := below_then q20_25 q20_25.size q25_26
  have q20_27 := below_then q20_26 q20_26.size q26_27
  have q20_28 := below_then q20_27 q20_27.size q27_28
  have q20_29 := below_then q20_28 q20_28.size q28_29
  have q20_30 := below_then q20_29 q20_29.size q29_30
  have q20_31 := below_then q20_30 q20_30.size q30_31
  have q20_32 := below_then q20_31 q20_31.size q31_32
  have q20_33 := below_then q20_32 q20_32.size q32_33
  have q20_34 := below_then q20_33 q20_33.size q33_34
  have q20_35 := below_then q20_34 q20_34.size q34_35
  have q20_36 := below_then q20_35 q20_35.size q35_36
  have g25 := Kd.C_below g12 q20_36
  have g26 := Kd.C_below g21 q35_36
  refine list_alloc (v := .slice (some ⟨V36.heap.size, 0, none⟩) 2 2) (b := Obj.cells #[.string ⟨#[109, 97, 105, 110]⟩, .slice (some ⟨V0.heap.size, 0, none⟩) 3 3, .int .i64 0, .int .i64 0, .bool false, .slice (some ⟨V17.heap.size, 0, none⟩) 4 4, .string ⟨#[100, 111, 119, 110]⟩, .slice (some ⟨V19.heap.size, 0, none⟩) 3 3, .int .i64 2, .int .i64 1, .bool false, .slice (some ⟨V34.heap.size, 0, none⟩) 3 3] 48) rfl rfl ⟨run_bsl rfl Try.underlying22 (by kernel_rfl)⟩ ?_
  intro V37 eV37
  have q36_37 : Below V36.heap.size V36 V37 := eV37 ▸ below_alloc (Below.refl _ _) _
  have g27 : Kd.C k48 V37 (some ⟨V36.heap.size, 0, none⟩) 2 [⟨⟨#[109, 97, 105, 110]⟩, [1, 1, 1], 0, 0, false, [⟨[⟨1, 0, ⟨true, N⟩, ⟨false, 0⟩, ⟨0, []⟩, ⟨0, []⟩, 0, ⟨#[]⟩, ⟨0, ⟨#[]⟩, 0, []⟩, [], []⟩, ⟨1, 1, ⟨true, m⟩, ⟨false, 0⟩, ⟨0, []⟩, ⟨0, []⟩, 0, ⟨#[]⟩, ⟨0, ⟨#[]⟩, 0, []⟩, [], []⟩], ⟨1, ⟨false, 0⟩, 1, 0, []⟩⟩, ⟨[], ⟨2, ⟨false, 0⟩, 2, 3, []⟩⟩, ⟨[⟨2, 1, ⟨false, 1⟩, ⟨false, 0⟩, ⟨0, []⟩, ⟨0, []⟩, 0, ⟨#[97, 100, 100]⟩, ⟨0, ⟨#[]⟩, 0, []⟩, [], []⟩, ⟨2, 0, ⟨false, 0⟩, ⟨true, 1⟩, ⟨0, []⟩, ⟨0, []⟩, 0, ⟨#[115, 117, 98]⟩, ⟨0, ⟨#[]⟩, 0, []⟩, [], []⟩], ⟨1, ⟨false, 0⟩, 1, 0, []⟩⟩, ⟨[⟨13, 0, ⟨false, 1⟩, ⟨false, 0⟩, ⟨0, []⟩, ⟨0, []⟩, 0, ⟨#[]⟩, ⟨0, ⟨#[]⟩, 0, []⟩, [], []⟩, ⟨15, 0, ⟨false, 0⟩, ⟨false, 0⟩, ⟨0, []⟩, ⟨0, []⟩, 0, ⟨#[100, 111, 119, 110]⟩, ⟨0, ⟨#[]⟩, 0, []⟩, [⟨true, N⟩, ⟨true, m⟩], [2]⟩, ⟨13, 0, ⟨false, 2⟩, ⟨false, 0⟩, ⟨0, []⟩, ⟨0, []⟩, 0, ⟨#[]⟩, ⟨0, ⟨#[]⟩, 0, []⟩, [], []⟩], ⟨3, ⟨false, 0⟩, 0, 0, []⟩⟩]⟩, ⟨⟨#[100, 111, 119, 110]⟩, [1, 1, 1], 2, 1, false, [⟨[], ⟨2, ⟨false, 0⟩, 1, 2, []⟩⟩, ⟨[⟨2, 1, ⟨false, 1⟩, ⟨false, 0⟩, ⟨0, []⟩, ⟨0, []⟩, 0, ⟨#[97, 100, 100]⟩, ⟨0, ⟨#[]⟩, 0, []⟩, [], []⟩, ⟨2, 0, ⟨false, 0⟩, ⟨true, 1⟩, ⟨0, []⟩, ⟨0, []⟩, 0, ⟨#[115, 117, 98]⟩, ⟨0, ⟨#[]⟩, 0, []⟩, [], []⟩, ⟨15, 0, ⟨false, 0⟩, ⟨false, 0⟩, ⟨0, []⟩, ⟨0, []⟩, 0, ⟨#[100, 111, 119, 110]⟩, ⟨0, ⟨#[]⟩, 0, []⟩, [⟨false, 0⟩, ⟨false, 1⟩], [2]⟩], ⟨3, ⟨false, 0⟩, 0, 0, [⟨false, 2⟩]⟩⟩, ⟨[], ⟨3, ⟨false, 0⟩, 0, 0, [⟨false, 1⟩]⟩⟩]⟩] := eV37 ▸ lit_C k48 rfl 48 (reps_cons (k48_mk V36 ⟨⟨#[109, 97, 105, 110]⟩, [1, 1, 1], 0, 0, false, [⟨[⟨1, 0, ⟨true, N⟩, ⟨false, 0⟩, ⟨0, []⟩, ⟨0, []⟩, 0, ⟨#[]⟩, ⟨0, ⟨#[]⟩, 0, []⟩, [], []⟩, ⟨1, 1, ⟨true, m⟩, ⟨false, 0⟩, ⟨0, []⟩, ⟨0, []⟩, 0, ⟨#[]⟩, ⟨0, ⟨#[]⟩, 0, []⟩, [], []⟩], ⟨1, ⟨false, 0⟩, 1, 0, []⟩⟩, ⟨[], ⟨2, ⟨false, 0⟩, 2, 3, []⟩⟩, ⟨[⟨2, 1, ⟨false, 1⟩, ⟨false, 0⟩, ⟨0, []⟩, ⟨0, []⟩, 0, ⟨#[97, 100, 100]⟩, ⟨0, ⟨#[]⟩, 0, []⟩, [], []⟩, ⟨2, 0, ⟨false, 0⟩, ⟨true, 1⟩, ⟨0, []⟩, ⟨0, []⟩, 0, ⟨#[115, 117, 98]⟩, ⟨0, ⟨#[]⟩, 0, []⟩, [], []⟩], ⟨1, ⟨false, 0⟩, 1, 0, []⟩⟩, ⟨[⟨13, 0, ⟨false, 1⟩, ⟨false, 0⟩, ⟨0, []⟩, ⟨0, []⟩, 0, ⟨#[]⟩, ⟨0, ⟨#[]⟩, 0, []⟩, [], []⟩, ⟨15, 0, ⟨false, 0⟩, ⟨false, 0⟩, ⟨0, []⟩, ⟨0, []⟩, 0, ⟨#[100, 111, 119, 110]⟩, ⟨0, ⟨#[]⟩, 0, []⟩, [⟨true, N⟩, ⟨true, m⟩], [2]⟩, ⟨13, 0, ⟨false, 2⟩, ⟨false, 0⟩, ⟨0, []⟩, ⟨0, []⟩, 0, ⟨#[]⟩, ⟨0, ⟨#[]⟩, 0, []⟩, [], []⟩], ⟨3, ⟨false, 0⟩, 0, 0, []⟩⟩]⟩ (Nat.le_refl 3) g23 (Nat.le_refl 4) g24) rfl (reps_cons (k48_mk V36 ⟨⟨#[100, 111, 119, 110]⟩, [1, 1, 1], 2, 1, false, [⟨[], ⟨2, ⟨false, 0⟩, 1, 2, []⟩⟩, ⟨[⟨2, 1, ⟨false, 1⟩, ⟨false, 0⟩, ⟨0, []⟩, ⟨0, []⟩, 0, ⟨#[97, 100, 100]⟩, ⟨0, ⟨#[]⟩, 0, []⟩, [], []⟩, ⟨2, 0, ⟨false, 0⟩, ⟨true, 1⟩, ⟨0, []⟩, ⟨0, []⟩, 0, ⟨#[115, 117, 98]⟩, ⟨0, ⟨#[]⟩, 0, []⟩, [], []⟩, ⟨15, 0, ⟨false, 0⟩, ⟨false, 0⟩, ⟨0, []⟩, ⟨0, []⟩, 0, ⟨#[100, 111, 119, 110]⟩, ⟨0, ⟨#[]⟩, 0, []⟩, [⟨false, 0⟩, ⟨false, 1⟩], [2]⟩], ⟨3, ⟨false, 0⟩, 0, 0, [⟨false, 2⟩]⟩⟩, ⟨[], ⟨3, ⟨false, 0⟩, 0, 0, [⟨false, 1⟩]⟩⟩]⟩ (Nat.le_refl 3) g25 (Nat.le_refl 3) g26) rfl (Reps.none _ _))) (by simp)
  clear eV37
  simp only [List.setIfInBounds_toArray, List.set_cons_zero, List.set_cons_succ]
  refine list_value (v := (.slice (some ⟨V36.heap.size, 0, none⟩) 2 2)) rfl rfl ⟨rfl⟩ ?_
  simp only [List.setIfInBounds_toArray, List.set_cons_zero, List.set_cons_succ]
  have q0_2 := below_then q0_1 q0_1.size q1_2
  have q0_3 := below_then q0_2 q0_2.size q2_3
  have q0_4 := below_then q0_3 q0_3.size q3_4
  have q0_5 := below_then q0_4 q0_4.size q4_5
  have q0_6 := below_then q0_5 q0_5.size q5_6
  have q0_7 := below_then q0_6 q0_6.size q6_7
  have q0_8 := below_then q0_7 q0_7.size q7_8
  have q0_9 := below_then q0_8 q0_8.size q8_9
  have q0_10 := below_then q0_9 q0_9.size q9_10
  have q0_11 := below_then q0_10 q0_10.size q10_11
  have q0_12 := below_then q0_11 q0_11.size q11_12
  have q0_13 := below_then q0_12 q0_12.size q12_13
  have q0_14 := below_then q0_13 q0_13.size q13_14
  have q0_15 := below_then q0_14 q0_14.size q14_15
  have q0_16 := below_then q0_15 q0_15.size q15_16
  have q0_17 := below_then q0_16 q0_16.size q16_17
  have q0_18 := below_then q0_17 q0_17.size q17_18
  have q0_19 := below_then q0_18 q0_18.size q18_19
  have q0_20 := below_then q0_19 q0_19.size q19_20
  have q0_21 := below_then q0_20 q0_20.size q20_21
  have q0_22 := below_then q0_21 q0_21.size q21_22
  have q0_23 := below_then q0_22 q0_22.size q22_23
  have q0_24 := below_then q0_23 q0_23.size q23_24
  have q0_25 := below_then q0_24 q0_24.size q24_25
  have q0_26 := below_then q0_25 q0_25.size q25_26
  have q0_27 := below_then q0_26 q0_26.size q26_27
  have q0_28 := below_then q0_27 q0_27.size q27_28
  have q0_29 := below_then q0_28 q0_28.size q28_29
  have q0_30 := below_then q0_29 q0_29.size q29_30
  have q0_31 := below_then q0_30 q0_30.size q30_31
  have q0_32 := below_then q0_31 q0_31.size q31_32
  have q0_33 := below_then q0_32 q0_32.size q32_33
  have q0_34 := below_then q0_33 q0_33.size q33_34
  have q0_35 := below_then q0_34 q0_34.size q34_35
  have q0_36 := below_then q0_35 q0_35.size q35_36
  have q0_37 := below_then q0_36 q0_36.size q36_37
  have HC : Kd.C k48 V37 (some ⟨V36.heap.size, 0, none⟩) 2 (CntLaw.fs N m) := g27
  clear g27
  have hb := Below.refl V37.heap.size V37
  obtain ⟨k, rfl⟩ : ∃ k : Nat, N = (k : Int) := ⟨N.toNat, by omega⟩
  have hk : k < 32 := by omega
  go_wp2_with ((with_reducible refine (word_said _ _).mono ?_); rintro _ wq ⟨rfl, hq⟩; replace hb := below_then hb hb.size hq)
  obtain ⟨st, hp, hs, hst⟩ := CntLaw.ends k m hk
  refine (run_said (CntLaw.fs k m) _ 2 10000 _ (Kd.C_below HC hb) (Nat.le_refl 2) (CntLaw.chk k m) (CntLaw.formed k m) (CntLaw.main_at k m) (by decide) (f := CntLaw.main k m) rfl rfl rfl (by decide) (kd := 1) (cd := 0) (st := st) ⟨[], [], .inl ⟨hst, rfl, rfl⟩⟩).mono ?_
  rintro e WR ⟨hbR, A, c, rfl, hc, hC⟩
  replace hb := below_then hb hb.size hbR
  rw [hp] at hc hC ⊢
  rw [hs]
  have hS : w32 (wrap64 (w32 m + wrap64 ((wrap64 ((k : Int) * ((k : Int) + 1))).tdiv 2))) = CntLaw.sumf k (w32 m) := CntLaw.sum_eq k m hk
  rw [hS]
  generalize CntLaw.sumf k (w32 m) = s at *
  go_wp2_with fail
  obtain ⟨WB, hWB⟩ : ∃ W, WR.alloc (Obj.cells #[.int .i64 1, .int .i64 0, .slice A 2 c] 26) = W := ⟨_, rfl⟩
  rw [hWB]
  have hbB : Below WR.heap.size WR WB := hWB ▸ below_alloc (Below.refl _ _) _
  have HX : Has WB WR.heap.size #[.int .i64 1, .int .i64 0, .slice A 2 c] 26 := hWB ▸ Has.new WR _ 26
  clear hWB
  replace hb := below_then hb hb.size hbB
  refine (Form.check_ok (CntLaw.fs k m) _ 2 _ (Kd.C_below HC hb) (Nat.le_refl 2) (CntLaw.chk k m)).mono ?_
  rintro e WC ⟨rfl, hbC⟩
  replace hb := below_then hb hb.size hbC
  have HY := HX.belowS hbC
  have hbBC := below_then hbB hbB.size hbC
  have hC1 := Kd.C_below hC hbBC
  have y0 := HY.cell 0
  have y1 := HY.cell 1
  have y2 := HY.cell 2
  simp only [List.getElem?_toArray, List.getElem?_cons_zero, List.getElem?_cons_succ] at y0 y1 y2
  go_wp2_with fail
  obtain ⟨WD, hWD⟩ : ∃ W, WC.alloc (Obj.cells #[.int .i64 s, .int .i64 s] 3) = W := ⟨_, rfl⟩
  rw [hWD]
  have hbD : Below WC.heap.size WC WD := hWD ▸ below_alloc (Below.refl _ _) _
  have hC2 : Kd.C (Kd.int .i64) WD (some ⟨WC.heap.size, 0, none⟩) 2 [s, s] := hWD ▸ ints_C rfl [s, s] (by simp)
  clear hWD
  replace hb := below_then hb hb.size hbD
  refine (same_said 1 0 [s, s] A (some ⟨WC.heap.size, 0, none⟩) c 2 WD (by show 2 < 4611686018427387904; decide) (Kd.C_below hC1 hbD) hc hC2 (Nat.le_refl 2)).mono ?_
  rintro e WE ⟨rfl, hbE⟩
  replace hb := below_then hb hb.size hbE
  go_wp2_with fail
  go_ret
  exact ⟨rfl, below_then q0_37 q0_37.size hb⟩
end Go.Proofs.Ytpphpcmbpbppoaa.Mach
end
