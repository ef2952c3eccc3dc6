/- Steps toward laws of the middle form (M), merged from several texts (some of them began as the kit's print). No condition. -/
import Derived.Test.YtpphpcmbpbppoaaZM6
section
namespace Go.Proofs.Ytpphpcmbpbppoaa.Mach
open Go.RowKit Go.Proofs.YtpphpcmbpbppoaaW.PrintWords Go.Proofs.YtpphpcmbpbppoaaW.PrintLast Go.Proofs.YtpphpcmbpbppoaaW.PrintMore
open Go.Proofs.Ytpphpcmbpbppoaa.Calm
open Go.Proofs.Ytpphpcmbpbppoaa.PMirFuel (S30 S57 S34 S37 S40 S43 S45 S48 k30 k57 k34 k37 k40 k43 k45 k48 rd_T30 rd_T57 rd_T34 rd_T37 rd_T40 rd_T43 rd_T45 rd_T48 at_T30 at_T57 at_T34 at_T40 at_T45 at_T48)
set_option linter.unusedVariables false
set_option linter.unusedSimpArgs false
def findL : List S48 → ByteArray → Int → Int
  | [], _, _ => -1
  | f :: r, t, i => if f.f0.toList = t.toList then i else findL r t (i + 1)
def findP (l : List S48) (t : ByteArray) : Int := findL l t 0
theorem find_l (l : List S48) (t : ByteArray) (hl : l.length < 4611686018427387904) : ∀ (k i : Nat), i ≤ l.length → l.length - i < k → PMirFuel.mir_find.l0 k l t (l.length : Int) (i : Int) = some (findL (l.drop i) t i) := by
  intro k
  induction k with
  | zero => intro i _ h; omega
  | succ k ih =>
    intro i hi hk
    unfold PMirFuel.mir_find.l0
    by_cases hlt : i < l.length
    · rw [if_pos (by omega), if_pos (by omega), if_pos (by omega), List.drop_eq_getElem_cons hlt]
      have e : rd_T48 l (i : Int) = l[i] := by simp [rd_T48, List.getD_eq_getElem?_getD, hlt]
      rw [e]
      show _ = some (if l[i].f0.toList = t.toList then (i : Int) else findL (l.drop (i + 1)) t (i + 1))
      split
      · rfl
      · rw [show wrap64 ((i : Int) + 1) = ((i + 1 : Nat) : Int) by unfold wrap64; omega, ih (i + 1) (by omega) (by omega)]
        push_cast
        rfl
    · rw [if_neg (by omega), List.drop_of_length_le (by omega)]
      rfl
theorem find_f (l : List S48) (t : ByteArray) (hl : l.length < 4611686018427387904) : PMirFuel.mir_find.f (l.length + 1) l t = some (findP l t) := by
  have := find_l l t hl (l.length + 1) 0 (by omega) (by omega)
  simpa [PMirFuel.mir_find.f, findP] using this
theorem findL_bounds (l : List S48) (t : ByteArray) : ∀ i : Int, findL l t i = -1 ∨ (i ≤ findL l t i ∧ findL l t i < i + l.length) := by
  induction l with
  | nil => intro i; exact .inl rfl
  | cons f r ih =>
    intro i
    unfold findL
    split
    · exact .inr ⟨by omega, by simp; omega⟩
    · rcases ih (i + 1) with h | h
      · exact .inl h
      · exact .inr ⟨by omega, by simp; omega⟩
theorem findP_bounds (l : List S48) (t : ByteArray) : findP l t = -1 ∨ (0 ≤ findP l t ∧ findP l t < l.length) := by
  simpa [findP] using findL_bounds l t 0
def instr0P (st : St) (F : Fr) (s : S40) : Res2 :=
  if s.f0 = 1 then (isetP st F s).big F.held
  else if s.f0 = 2 then (ibinP st F s).big F.held
  else if s.f0 = 3 then (iloadP st F s).big F.held
  else if s.f0 = 4 then (istoreP st F s).big F.held
  else if s.f0 = 5 then (icopyP st F s).big F.held
  else if s.f0 = 6 then (iaddrP st F s).big F.held
  else if s.f0 = 7 then (allocP st F s.f6 s.f1).big F.held
  else if s.f0 = 8 then (ifreeP st F s).big F.held
  else if s.f0 = 10 then igiveP st F s true
  else if s.f0 = 11 then igiveP st F s false
  else if s.f0 = 13 then iprintP st F s
  else if s.f0 = 14 then ireadP st F s
  else .halt 4 0 st
def settleP (st : St) (F : Fr) : List Int → List Int → Res
  | _, [] => .ok st
  | [], _ :: _ => .halt 4 0 st
  | d :: ds, v :: vs => match setP st F d v with
    | .ok st' => settleP st' F ds vs
    | .halt k c st' => .halt k c st'
abbrev Runs := St → List Int → List Bool → S48 → ResC
def putP (zs vs : List Int) : List Int := vs.take zs.length ++ zs.drop vs.length
def enterP (st : St) (f : S48) (vs : List Int) : St :=
  { st with stack := st.stack ++ putP (List.replicate (need f.f1) 0) vs, calls := st.calls + 1, depth := if f.f4 = true then st.depth else st.depth + 1 }
def leaveP (n : Nat) (f : S48) (st : St) : St :=
  { st with calls := st.calls - 1, depth := if f.f4 = true then st.depth else st.depth - 1, stack := st.stack.take n }
def callP (X : Runs) (st : St) (held : List Bool) (f : S48) (vs : List Int) : ResC :=
  if 392 ≤ st.calls ∨ (f.f4 = false ∧ 48 ≤ st.depth) then .halt 2 0 st
  else match X (enterP st f vs) (frameAt st.stack.length f.f1) (List.replicate f.f1.length false) f with
    | .ok st' _ out => .ok (leaveP st.stack.length f st') held out
    | .halt k c st' => .halt k c st'
def icallP (X : Runs) (l : List S48) (st : St) (F : Fr) (s : S40) : Res2 :=
  match allP st F s.f9 with
  | none => .halt 4 0 st
  | some vs => match callP X st F.held (rd_T48 l (findP l s.f7)) vs with
    | .ok st' _ out => (settleP st' F s.f10 out).big F.held
    | .halt k c st' => .halt k c st'
def instrP (X : Runs) (l : List S48) (st : St) (F : Fr) (s : S40) : Res2 :=
  if s.f0 = 15 then icallP X l st F s else instr0P st F s
def pf (at_ : List Int) (held : List Bool) : Fr := ⟨0, ⟨0, 0, none⟩, .slice none 0 0, 0, at_, 0, held⟩
inductive ResT where
  | go (b : Int)
  | out (vs : List Int)
  | halt (k c : Int)
def termP (st : St) (F : Fr) (t : S43) : ResT :=
  if t.f0 = 3 then (match allP st F t.f4 with
    | none => .halt 4 0
    | some vs => .out vs)
  else if t.f0 = 4 then .halt 1 101
  else if t.f0 = 2 then (match operandP st F t.f1 with
    | none => .halt 4 0
    | some v => .go (if v = 0 then t.f3 else t.f2))
  else .go t.f2
def tick (st : St) : St := { st with steps := st.steps + 1 }
def exec (l : List S48) : Nat → St → List Int → List Bool → S48 → Int → Nat → ResC
  | 0, st, _, _, _, _, _ => .halt 0 0 st
  | n + 1, st, at_, held, f, b, i =>
    if st.fuel ≤ st.steps then .halt 0 0 st
    else if i < (rd_T45 f.f5 b).f0.length then
      (match instrP (fun st at_ held f => exec l n st at_ held f 0 0) l (tick st) (pf at_ held) (rd_T40 (rd_T45 f.f5 b).f0 (i : Int)) with
        | .ok st' held' => exec l n st' at_ held' f b (i + 1)
        | .halt k c st' => .halt k c st')
    else (match termP (tick st) (pf at_ held) (rd_T45 f.f5 b).f1 with
      | .go b' => exec l n (tick st) at_ held f b' 0
      | .out vs => .ok (tick st) held vs
      | .halt k c => .halt k c (tick st))
theorem operandP_pf (st : St) (F : Fr) (o : S30) : operandP st (pf F.at_ F.held) o = operandP st F o := rfl
theorem setP_pf (st : St) (F : Fr) (d v : Int) : setP st (pf F.at_ F.held) d v = setP st F d v := rfl
theorem stepP_pf (st : St) (F : Fr) (a : Int) (s : S57) : stepP st (pf F.at_ F.held) a s = stepP st F a s := rfl
theorem placeP_pf (st : St) (F : Fr) (xs : List S57) : ∀ a, placeP st (pf F.at_ F.held) a xs = placeP st F a xs := by
  induction xs with
  | nil => intro a; rfl
  | cons x r ih =>
    intro a
    show (stepP st (pf F.at_ F.held) a x).bind (fun a' => placeP st (pf F.at_ F.held) a' r) = (stepP st F a x).bind (fun a' => placeP st F a' r)
    rw [stepP_pf]
    congr 1
    funext a'
    exact ih a'
theorem plP_pf (st : St) (F : Fr) (p : S34) : plP st (pf F.at_ F.held) p = plP st F p := placeP_pf st F _ _
theorem allP_pf (st : St) (F : Fr) (xs : List S30) : allP st (pf F.at_ F.held) xs = allP st F xs := by
  induction xs with
  | nil => rfl
  | cons x r ih => simp only [allP, ih, operandP_pf]
theorem settleP_pf (F : Fr) (vs : List Int) : ∀ (ds : List Int) (st : St), settleP st (pf F.at_ F.held) ds vs = settleP st F ds vs := by
  induction vs with
  | nil => intro ds st; cases ds <;> rfl
  | cons v r ih =>
    intro ds st
    cases ds with
    | nil => rfl
    | cons d ds =>
      simp only [settleP, setP_pf, ih]
theorem instr0P_pf (st : St) (F : Fr) (s : S40) : instr0P st (pf F.at_ F.held) s = instr0P st F s := by
  simp only [instr0P, isetP, ibinP, iloadP, istoreP, icopyP, iaddrP, allocP, ifreeP, igiveP, iprintP, ireadP, operandP_pf, setP_pf, plP_pf]
  rfl
theorem instrP_pf (X : Runs) (l : List S48) (st : St) (F : Fr) (s : S40) : instrP X l st (pf F.at_ F.held) s = instrP X l st F s := by
  simp only [instrP, icallP, instr0P_pf, allP_pf, settleP_pf]
  rfl
theorem termP_pf (st : St) (F : Fr) (t : S43) : termP st (pf F.at_ F.held) t = termP st F t := by
  simp only [termP, allP_pf, operandP_pf]
end Go.Proofs.Ytpphpcmbpbppoaa.Mach
end
section
namespace Go.Proofs.Ytpphpcmbpbppoaa.Mach
open Go.RowKit Go.Proofs.YtpphpcmbpbppoaaW.PrintWords Go.Proofs.YtpphpcmbpbppoaaW.PrintLast Go.Proofs.YtpphpcmbpbppoaaW.PrintMore
open Go.Proofs.Ytpphpcmbpbppoaa.Calm
open Go.Proofs.Ytpphpcmbpbppoaa.PMirFuel (S30 S57 S34 S37 S40 S43 S45 S48 k30 k57 k34 k37 k40 k43 k45 k48 rd_T30 rd_T57 rd_T34 rd_T37 rd_T40 rd_T43 rd_T45 rd_T48 at_T30 at_T57 at_T34 at_T40 at_T45 at_T48)
set_option linter.unusedVariables false
set_option linter.unusedSimpArgs false
theorem num_zeros {ops : Array Oper} {rest : List Oper} {o : Oper} {a : Act} {Q : Exit → Act → World → Prop} {W : World} (hgd : o.guard = none) (s x : Operand)
    (ho : o.op = .call { callee := .builtin .append, args := #[s, x], argTypes := #[23, 3] }) (v : Value) (xs : List Int) (n : Int) (hs : a.eval s = v) (hx : a.eval x = .int .i64 n)
    (HO : W.ownsRow 0 3 1 v xs.length (nums .i64 xs)) (h0 : 0 ≤ n) (hl : (xs.length + n.toNat) * 8 ≤ 140737488355328)
    (h : ∀ v1 w1, w1.ownsRow 0 3 1 v1 (xs ++ List.replicate n.toNat 0).length (nums .i64 (xs ++ List.replicate n.toNat 0)) → W.grownBy w1 v.ownBlock → (v1.ownBlock = v.ownBlock ∨ ∃ b, v1.ownBlock = some b ∧ W.heap.size ≤ b) → wpList Try.prog ops Q rest (a.put o.dst v1) w1) :
    wpList Try.prog ops Q (o :: rest) a W :=
  Kd.R_append_zeros (Kd.int .i64) (w0 := W) 0 hgd s x 23 3 3 (.int .i64 0) 8 ho Try.underlying23 Try.underlying3 info3 rfl (by decide) (by decide) v xs 0 n (fun _ => True) hs hx rfl (fun _ _ => trivial)
    (Kd.R_of_own HO (fun _ _ => trivial)) h0 (Below.refl 0 W) (Nat.zero_le _) hl
    (fun v1 w1 hr _ hg hat => h v1 w1 (Kd.own_of_R hr) hg hat)
theorem info3x : ∃ i, Try.prog.info? 3 = some i ∧ i.zero = some (.int .i64 0) ∧ i.size = 1 ∧ i.bytes = 8 := by
  obtain ⟨i, hi, h⟩ := Option.map_eq_some_iff.1 info3
  simp only [Prod.mk.injEq] at h
  exact ⟨i, hi, h.1, h.2.1, h.2.2⟩
theorem Making.after {G : Glob} {S : Nat → Prop} {F F2 : Fr} {st : St} {w W w1 : World} (M : Making G S F F2 st w W) {v : Value} (hc : W.cell? ⟨G.m, 6, none⟩ = some v) (hg : W.grownBy w1 F2.atv.ownBlock) :
    w1.cell? ⟨F2.xb, 1, none⟩ = some F2.atv ∧ w1.frozen? ⟨F2.xb, 1, none⟩ = false ∧ w1.cell? ⟨G.m, 6, none⟩ = some v := by
  have nt : ∀ {b : Nat} {cs : Array Value} {t : TypeId}, Has W b cs t → t ≠ 3 → F2.atv.ownBlock ≠ some b := fun hb ht e => by
    obtain ⟨cur, hc⟩ := Rep.has_own M.fr.row e
    exact hb.ne hc ht rfl
  have hx := M.fr.head.of_block (grown_new hg _ M.fr.head.lt (nt M.fr.head (by decide)))
  refine ⟨by rw [hx.cell]; rfl, hx.frozen 1, ?_⟩
  obtain ⟨S', L', I, hs, a1, a2, a3⟩ := M.inn
  rw [← hc]
  exact World.cell?_of_block (grown_new hg _ I.rep.head.lt (fun e => a3 _ e I.rep.ownM))
theorem made_held (n : Nat) : madeCells #[Value.bool false] n = heldA (List.replicate n false) := by
  apply Array.ext
  · simp [size_madeCells, heldA]
  · intro i h1 h2
    simp [madeCells, heldA, Nat.mod_one]
theorem Making.start {G : Glob} {S : Nat → Prop} {L : Lay} {F : Fr} {st : St} {w : World} (I : In G S L F st w) (q : Addr) (n : Nat) :
    Making G S F ⟨w.heap.size + 1, q, .slice none 0 0, w.heap.size, [], st.stack.length, List.replicate n false⟩ { st with stack := st.stack ++ List.replicate 0 0 } w
      (((w.alloc (Obj.cells (madeCells #[Value.bool false] n) 4)).alloc (Obj.cells #[.pointer (some q), .slice none 0 0, .int .i64 st.stack.length, .slice (some ⟨w.heap.size, 0, none⟩) n n] 135)).drew) := by
  have no : ∀ b, w.heap.size ≤ b → ¬ S b := fun b h hS => by have := I.lt b hS; omega
  refine ⟨⟨S, L, ?_, fun b h => .inl h, no _ (by simp), no _ (by simp), fun b e => by simp [Value.ownBlock] at e⟩, (((Kept.refl S w).alloc _).alloc _).drewN 1, ?_, by simp, by simp, fun b e => by simp [Value.ownBlock] at e⟩
  · have e0 : ({ st with stack := st.stack ++ List.replicate 0 0 } : St) = st := by simp
    rw [e0]
    exact ((I.alloc (Obj.cells (madeCells #[Value.bool false] n) 4)).alloc (Obj.cells #[.pointer (some q), .slice none 0 0, .int .i64 st.stack.length, .slice (some ⟨w.heap.size, 0, none⟩) n n] 135)).drewN 1
  · refine ⟨?_, own_nil _ _ _ _, ?_, by simp⟩
    · have h := Has.new (w.alloc (Obj.cells (madeCells #[Value.bool false] n) 4)) #[.pointer (some q), .slice none 0 0, .int .i64 st.stack.length, .slice (some ⟨w.heap.size, 0, none⟩) n n] 135
      rw [show (w.alloc (Obj.cells (madeCells #[Value.bool false] n) 4)).heap.size = w.heap.size + 1 by simp] at h
      simp only [List.length_replicate]
      exact h.drewN 1
    · rw [← made_held]
      exact ((Has.new w _ 4).alloc _).drewN 1
theorem Making.base {G : Glob} {S : Nat → Prop} {F F2 : Fr} {st : St} {w W : World} (M : Making G S F F2 st w W) : Below G.w0.heap.size G.w0 W := by
  obtain ⟨S', L', I, _⟩ := M.inn
  exact I.base
theorem int_at {w : World} {A : Option Addr} {xs : List Int} (h : (Kd.int .i64).C w A xs.length xs) (i : Int) (h0 : 0 ≤ i) (h1 : i < xs.length) : ∃ ad, A = some ad ∧ w.cell? (ad.add i.toNat) = some (.int .i64 (rd xs i)) := by
  obtain ⟨ad, c, e, _, hK, hc⟩ := Kd.C_get h 0 i h0 h1
  obtain rfl : c = [.int .i64 (xs.getD i.toNat 0)] := hK
  refine ⟨ad, e, ?_⟩
  have := hc 0 _ rfl
  rw [show i.toNat * (Kd.int .i64).sz + 0 = i.toNat from by show i.toNat * 1 + 0 = i.toNat; omega] at this
  exact this
structure ArgsAt (S : Nat → Prop) (w : World) (av : Value) (vs : List Int) : Prop where
  own : w.ownsRow 0 3 1 av vs.length (nums .i64 vs)
  out : ∀ b, av.ownBlock = some b → ¬ S b
  ok : ∀ v, v ∈ vs → v ≤ 9223372036854775807
theorem ArgsAt.kept {S : Nat → Prop} {w w' : World} {av : Value} {vs : List Int} (H : ArgsAt S w av vs) (K : Kept S w w') : ArgsAt S w' av vs :=
  ⟨Rep.row_of_block H.own (fun b e => K.block b ((Rep.has_own H.own e).elim fun _ h => h.lt) (H.out b e)), H.out, H.ok⟩
theorem putP_nil (zs : List Int) : putP zs [] = zs := by simp [putP]
theorem Making.copied {G : Glob} {S : Nat → Prop} {F F2 : Fr} {st : St} {w W : World} {k : Nat} (M : Making G S F F2 { st with stack := st.stack ++ List.replicate k 0 } w W) {aa : Option Addr} {ca : Nat} {vs : List Int} (V : ArgsAt S W (.slice aa vs.length ca) vs) (hvn : vs.length ≤ k)
    {S' : Nat → Prop} {L' : Lay} (I : In G S' L' F { st with stack := st.stack ++ List.replicate k 0 } W) (hs : ∀ b, S' b → S b ∨ w.heap.size ≤ b) (a1 : ¬ S' F2.xb) (a2 : ¬ S' F2.hb) (a3 : ∀ b, F2.atv.ownBlock = some b → ¬ S' b) {As : Option Addr} {cs : Nat} (hsv : L'.sv = .slice As (st.stack.length + k) cs)
    (dp : Option Addr) (hdp : ∀ g, As = some ⟨g, 0, none⟩ → ¬ cs = st.stack.length → dp = some ⟨g, st.stack.length, none⟩) :
    (nums .i64 vs = [] → Making G S F F2 { st with stack := st.stack ++ putP (List.replicate k 0) vs } w W) ∧
    (∀ v ∈ nums .i64 vs, v.oneCell' = true) ∧
    (nums .i64 vs ≠ [] → ∃ g off ad cur t, dp = some ⟨g, off, none⟩ ∧ aa = some ad ∧ W.heap[g]? = some (.cells cur t (0, 0)) ∧ (∀ j v, (nums .i64 vs)[j]? = some v → W.cell? (ad.add j) = some v) ∧ off + (nums .i64 vs).length ≤ cur.size ∧
      Making G S F F2 { st with stack := st.stack ++ putP (List.replicate k 0) vs } w (W.setRow g (cur.toList.take off ++ (nums .i64 vs ++ cur.toList.drop (off + (nums .i64 vs).length))).toArray)) := by
  refine ⟨fun h => ?_, ?_, fun h => ?_⟩
  · have : vs = [] := by simpa [nums] using h
    subst this
    rw [putP_nil]
    exact M
  · intro v hv
    obtain ⟨x, _, rfl⟩ : ∃ x, x ∈ vs ∧ Value.int .i64 x = v := by simpa [nums] using hv
    rfl
  · have hv0 : vs ≠ [] := fun e => h (by rw [e]; rfl)
    have hvl : 0 < vs.length := List.length_pos_iff.2 hv0
    obtain ⟨As', cs', hsv', hle, hcm, hrow⟩ := own_form I.rep.stk
    have hlk : (st.stack ++ List.replicate k (0 : Int)).length = st.stack.length + k := by simp
    obtain ⟨g, cur, rfl, hg, hsz, htk⟩ := hrow (by show 0 < (st.stack ++ List.replicate k (0 : Int)).length; omega)
    have hsv2 := hsv'
    rw [hsv] at hsv'
    have hle2 : (st.stack ++ List.replicate k (0 : Int)).length ≤ cs' := hle
    rw [hlk] at hle2
    obtain ⟨rfl, rfl⟩ : As = some ⟨g, 0, none⟩ ∧ cs = cs' := by injection hsv' with e1 _ e2; exact ⟨e1, e2⟩
    obtain ⟨ga, rfl, _, hsrc⟩ := own_src V.own rfl hv0
    have hnl : (nums .i64 vs).length = vs.length := by simp [nums]
    refine ⟨g, st.stack.length, _, cur, 3, hdp g rfl (by omega), rfl, hg, hsrc, by rw [hnl, hsz]; omega, ?_⟩
    have hput := own_put (w := W) (vs := vs) hg hle hcm hsz htk st.stack.length (by rw [show ({ st with stack := st.stack ++ List.replicate k 0 } : St).stack.length = st.stack.length + k from hlk]; omega)
    have e1 : (st.stack ++ List.replicate k (0 : Int)).take st.stack.length ++ (vs ++ (st.stack ++ List.replicate k (0 : Int)).drop (st.stack.length + vs.length)) = st.stack ++ putP (List.replicate k 0) vs := by
      rw [List.take_left, List.drop_append]
      simp [putP, List.take_of_length_le hvn]
    have e1' : ({ st with stack := st.stack ++ List.replicate k 0 } : St).stack.take st.stack.length ++ (vs ++ ({ st with stack := st.stack ++ List.replicate k 0 } : St).stack.drop (st.stack.length + vs.length)) = st.stack ++ putP (List.replicate k 0) vs := e1
    rw [e1'] at hput
    have hl2 : (st.stack ++ putP (List.replicate k 0) vs).length = (st.stack ++ List.replicate k (0 : Int)).length := by simp [putP]; omega
    refine M.rowed (xs := st.stack ++ putP (List.replicate k 0) vs) hl2 ?_ I hs a1 a2 a3 ?_ ?_
    · intro v hv
      rcases List.mem_append.1 hv with h | h
      · exact I.rep.okS v (List.mem_append_left _ h)
      · rcases List.mem_append.1 h with h | h
        · exact V.ok v (List.mem_of_mem_take h)
        · have := (List.mem_replicate.1 (List.mem_of_mem_drop h)).2; omega
    · rw [hsv2]; exact grown_setRow _ _ _
    · rw [hsv2, hl2]; exact hput
structure Left (G : Glob) (S : Nat → Prop) (F2 : Fr) (w w7 : World) (st7 : St) (h7 : List Bool) (out : List Int) (v : Value) (S7 : Nat → Prop) (L7 : Lay) : Prop where
  kept : Kept S w w7
  hs : ∀ b, S7 b → S b ∨ w.heap.size ≤ b
  inn : In G S7 L7 { F2 with held := h7 } st7 w7
  own : w7.ownsRow 0 3 1 v out.length (nums .i64 out)
  ok : ∀ x, x ∈ out → x ≤ 9223372036854775807
  far : ∀ b, v.ownBlock = some b → ¬ S7 b ∧ w.heap.size ≤ b
theorem CPost.left {G : Glob} {S S5 : Nat → Prop} {L : Lay} {F F2 : Fr} {st : St} {w w6 w7 : World} {r : ResC} {e : Ending} (I : In G S L F st w) (K6 : Kept S w w6) (hs5 : ∀ b, S5 b → S b ∨ w.heap.size ≤ b) (n2 : w.heap.size ≤ F2.hb) (lt2 : F2.hb < w6.heap.size) (lt5 : ∀ b, S5 b → b < w6.heap.size)
    (C : CPost G S5 (fun b => b = F2.hb) F2 r w6 e w7) :
    (∃ st7 h7 out v S7 L7, r = .ok st7 h7 out ∧ e = .returned v ∧ Left G S F2 w w7 st7 h7 out v S7 L7) ∨ (∃ k c st7 ch, r = .halt k c st7 ∧ e = .panicked ch ∧ CPost G S (fun _ => False) F (.halt k c st7) w e w7) := by
  have K7 : Kept S w w7 := K6.trans (C.1.mono fun b h => by
    rcases h with h | h
    · rcases hs5 b h with h2 | h2
      · exact .inl h2
      · exact .inr ⟨h2, lt5 b h⟩
    · subst h; exact .inr ⟨n2, lt2⟩)
  have hs7 : ∀ {S7 : Nat → Prop}, (∀ b, S7 b → S5 b ∨ w6.heap.size ≤ b) → ∀ b, S7 b → S b ∨ w.heap.size ≤ b := fun h b hb => by
    rcases h b hb with h2 | h2
    · exact hs5 b h2
    · exact .inr (Nat.le_trans K6.size h2)
  cases r with
  | ok st7 h7 out =>
    obtain ⟨_, v, rfl, ho, hk, S7, L7, h, I7, far⟩ := C
    exact .inl ⟨st7, h7, out, v, S7, L7, rfl, rfl, K7, hs7 h, I7, ho, hk, fun b hb => ⟨(far b hb).1, Nat.le_trans K6.size (far b hb).2⟩⟩
  | halt k c st7 =>
    obtain ⟨_, ⟨ch, rfl, hc⟩, S7, L7, x', h, R⟩ := C
    exact .inr ⟨k, c, st7, ch, rfl, rfl, K7.mono fun b h => .inl h, ⟨ch, rfl, hc⟩, S7, L7, x', hs7 h, R⟩
namespace Left
variable {G : Glob} {S S7 : Nat → Prop} {L L7 : Lay} {F F2 : Fr} {st st7 : St} {w w7 : World} {h7 : List Bool} {out : List Int} {v : Value}
theorem back (H : Left G S F2 w w7 st7 h7 out v S7 L7) (I : In G S L F st w) : In G S7 L7 F st7 (w7.setCell ⟨G.m, 11, none⟩ (.pointer (some ⟨F.xb, 0, none⟩))) := by
  have no : ∀ b, b < w.heap.size → ¬ S b → ¬ S7 b := fun b hb hn h => (H.hs b h).elim hn (fun x => by omega)
  exact H.inn.swap (I.fr.kept H.kept I.o1 I.o2 I.o3) (no _ I.fr.head.lt I.o1) (fun b e => no _ (I.fr.lt_at b e) (I.o2 b e)) (no _ I.fr.held.lt I.o3) I.g3
end Left
theorem addr_at (g n : Nat) : Option.map (fun x : Addr => x.add n) (some ⟨g, 0, none⟩) = some ⟨g, n, none⟩ := by
  by_cases h : n = 0
  · subst h; rfl
  · simp [Addr.add, h]
theorem info3s : (Try.prog.info? 3).map (·.size) = some 1 := by kernel_rfl
structure EntersOk (G : Glob) (q : Addr) (f : S48) (st : St) (vs : List Int) (X : Runs) : Prop where
  run : ∀ S' L' F2 w', In G S' L' F2 (enterP st f vs) w' → F2.at_ = frameAt st.stack.length f.f1 → F2.held = List.replicate f.f1.length false → F2.fp = q →
    Calls Try.prog 55 #[.pointer (some ⟨G.m, 0, none⟩), .pointer (some q)] w' (CPost G S' (fun b => b = F2.hb) F2 (X (enterP st f vs) (frameAt st.stack.length f.f1) (List.replicate f.f1.length false) f) w')
  back : ∀ st' h out, X (enterP st f vs) (frameAt st.stack.length f.f1) (List.replicate f.f1.length false) f = .ok st' h out → st'.calls = (enterP st f vs).calls ∧ st'.depth = (enterP st f vs).depth ∧ st'.stack.length = (enterP st f vs).stack.length
set_option maxRecDepth 100000 in
set_option maxHeartbeats 8000000 in
theorem call_quiet {G : Glob} {S : Nat → Prop} {L : Lay} {F : Fr} {st : St} {w : World} (I : In G S L F st w) {q : Addr} {f : S48} {A1 A5 : Option Addr} {c1 c5 : Nat} (M : MA G.w0 q f A1 c1 A5 c5) (hl : f.f1.length < 100000) (hN : st.stack.length + need f.f1 < 1099511627776)
    (h0 : ∀ k, k ∈ f.f1 → 0 ≤ k) {av : Value} {vs : List Int} (V : ArgsAt S w av vs) (hvn : vs.length ≤ need f.f1) (hq : f.f4 = true)
    (h1 : st.calls < 392) (hc0 : 0 ≤ st.calls) (hd0 : 0 ≤ st.depth) {X : Runs} (B : EntersOk G q f st vs X) :
    Calls Try.prog 29 #[.pointer (some ⟨G.m, 0, none⟩), .pointer (some q), av] w (CPost G S (fun _ => False) F (callP X st F.held f vs) w) := by
  obtain ⟨aa, ca, rfl, hca, _⟩ := own_form V.own
  have AV := Aside0.mk V
  have BB := Aside0.mk B
  clear V B
  have c10 := I.rep.c10
  have c9 := I.rep.c9
  have c11 := I.c11
  have c6 := I.rep.c6
  have q1 := pw_cell_below I.base M.h1
  have q4 := pw_cell_below I.base M.h4
  rw [hq] at q4
  obtain ⟨As, cs, hsv, _⟩ := own_reads I.rep.stk
  rw [hsv] at c6
  have d1 : decide (st.calls ≥ 392) = false := by simp; omega
  have d0 : (0 : Int) ≤ f.f1.length := by omega
  have II := Aside0.mk I
  have MM := Aside0.mk M
  have HH0 := Aside0.mk h0
  have hmk := print_make_of (P := Try.prog) 126 4 (.bool false) 1 Try.underlying126 info4 rfl (by omega) f.f1.length (by omega)
  have HF : Aside0 (F.xb < w.heap.size ∧ (∀ b, F.atv.ownBlock = some b → b < w.heap.size) ∧ F.hb < w.heap.size) := ⟨I.fr.head.lt, I.fr.lt_at, I.fr.held.lt⟩
  have HS := Aside0.mk I.base.size
  have HLT := Aside0.mk I.lt
  clear I M h0
  go_enter Try.func29, Try.ntmps29
  go_wp2
  go_region_held_law (fun w' => w'.cell? ⟨G.m, 6, none⟩ = some (.slice As st.stack.length cs) ∧ w'.cell? ⟨q.block, q.off + 1, none⟩ = some (.slice A1 f.f1.length c1)) (go_keep) (fail)
  have MK := Aside0.mk (Making.start II.out q f.f1.length)
  generalize ((w.alloc (Obj.cells (madeCells #[Value.bool false] f.f1.length) 4)).alloc (Obj.cells #[.pointer (some q), .slice none 0 0, .int .i64 st.stack.length, .slice (some ⟨w.heap.size, 0, none⟩) f.f1.length f.f1.length] 135)).drew = W1 at MK ⊢
  have q1' := pw_cell_below MK.out.base MM.out.h1
  go_wp2
  go_loopw [10, 55] (fun _ v wr => ∃ i : Int, v = .int .i64 i ∧ 0 ≤ i ∧ i ≤ f.f1.length ∧ Aside0 (∃ atv, Making G S F ⟨w.heap.size + 1, q, atv, w.heap.size, frameAt st.stack.length (f.f1.take i.toNat), st.stack.length, List.replicate f.f1.length false⟩ { st with stack := st.stack ++ List.replicate (need (f.f1.take i.toNat)) 0 } w wr)) (fun _ v _ => f.f1.length - (intOf v).toNat)
  case atStart => exact ⟨0, rfl, by omega, by omega, ⟨_, MK.out⟩⟩
  case round =>
    obtain ⟨i, rfl, hi0, hi1, atv, MK0⟩ := hrel
    have MKr := Aside0.mk MK0
    clear MK0
    by_cases hlt : i < f.f1.length
    · obtain ⟨S', L', I', hs, a1, a2, a3⟩ := MKr.out.inn
      obtain ⟨As', cs', hsv', _⟩ := own_reads I'.rep.stk
      obtain ⟨N, hNe⟩ : ∃ N, st.stack.length + need (f.f1.take i.toNat) = N := ⟨_, rfl⟩
      have hN1 : N < 1099511627776 := by have := need_take f.f1 i.toNat; omega
      have c6r : wr.cell? ⟨G.m, 6, none⟩ = some (.slice As' N cs') := by
        have := I'.rep.c6
        rw [hsv'] at this
        simpa [hNe] using this
      have cx : wr.cell? ⟨w.heap.size + 1, 1, none⟩ = some atv := by rw [MKr.out.fr.head.cell]; rfl
      obtain ⟨ad, e1, hn⟩ := int_at (Kd.C_below MM.out.g1 I'.base) i hi0 hlt
      have II' := Aside0.mk I'
      clear I' hsv'
      subst e1
      have MA := Aside0.mk (MKr.out.below (below_drew (below_alloc (Below.refl _ wr) (Obj.cells #[.int .i64 (1048576 + 4 * (N : Int))] 3))))
      have C6A := Aside0.mk (pw_cell_below (below_drew (below_alloc (Below.refl _ wr) (Obj.cells #[.int .i64 (1048576 + 4 * (N : Int))] 3))) c6r)
      have hwA : IntKind.i64.wrap (4 * (N : Int)) = 4 * (N : Int) := by rw [IntKind.wrap_i64]; omega
      have hwB : IntKind.i64.wrap (1048576 + 4 * (N : Int)) = 1048576 + 4 * (N : Int) := by rw [IntKind.wrap_i64]; omega
      have hgm : G.m ≠ w.heap.size + 1 := fun e => a1 (e ▸ II'.out.rep.ownM)
      have hgm' : w.heap.size + 1 ≠ G.m := Ne.symm hgm
      obtain ⟨i3, hi3, hz3, hs3, hb3⟩ := info3x
      go_wp2
      refine region_heads 12 14 (fun w' => w'.cell? ⟨w.heap.size + 1, 1, none⟩ = some atv ∧ w'.cell? ⟨G.m, 6, none⟩ = some (.slice As' N cs')) (by kernel_rfl) (by kernel_rfl) (by kernel_rfl) ⟨cx, c6r⟩ (by intro c a a' w1 hd h; simp +zetaDelta only [Exit.then, Exit.inBlock, bodyPost] at h ⊢; simpa [hd] using h) ?_
      simp only [List.length_cons, List.length_nil, Nat.reduceAdd, List.range_succ, List.range_zero, List.nil_append, List.cons_append, List.singleton_append]
      repeat (
        refine heads_ex (by rfl) (by rfl) (by rfl) ?_
        apply Exists.intro
        apply And.intro
        · rintro w' ⟨k1, k2⟩
          apply VR.mk
          go_simp
          with_reducible rfl
        simp only [List.setIfInBounds_toArray, List.set_cons_zero, List.set_cons_succ])
      refine heads_nil ?_
      refine chain_value (v := .slice (some ⟨wr.heap.size, 0, none⟩) 1 1) (w' := (wr.alloc (Obj.cells #[.int .i64 (1048576 + 4 * (N : Int))] 3)).drew) (by rfl) (by rfl) ?_ ⟨?_, C6A.out⟩ ?_
      · go_simp
      · rw [MA.out.fr.head.cell]; rfl
      simp only [List.setIfInBounds_toArray, List.set_cons_zero, List.set_cons_succ]
      refine chain_ex (by rfl) ?_
      refine wp_append_lies _ (.tmp 63) (.tmp 71) 23 (by rfl) 0 3 i3 (.int .i64 0) 1 8 Try.underlying23 hi3 hz3 hs3 hb3 rfl (by omega) atv (frameAt st.stack.length (f.f1.take i.toNat)).length (nums .i64 (frameAt st.stack.length (f.f1.take i.toNat))) (by rfl) MA.out.fr.row ⟨wr.heap.size, 0, none⟩ 1 1 [.int .i64 (1048576 + 4 * (N : Int))] (by rfl) (by rfl) (World.news_of_block (heap_alloc_new wr _)) (by intro u hu; simp at hu; subst hu; rfl) (by omega) (by rw [frameAt_length]; simp [maxLen]; omega) (by rw [frameAt_length]; simp; omega) (Nat.zero_le _) (wr.heap.size + 1) (by simp) ?_
      intro g cap w3 ho3 hg hor hlt3
      obtain ⟨kx1, kx2, kx3⟩ := MA.out.after C6A.out hg
      refine ⟨⟨kx1, kx3⟩, chain_done ?_⟩
      have hl4 : (frameAt st.stack.length (f.f1.take i.toNat) ++ [1048576 + 4 * (N : Int)]).length = (frameAt st.stack.length (f.f1.take i.toNat)).length + 1 := by simp
      have ho4 : w3.ownsRow 0 3 1 (.slice (some ⟨g, 0, none⟩) ((frameAt st.stack.length (f.f1.take i.toNat)).length + 1) cap) (frameAt st.stack.length (f.f1.take i.toNat) ++ [1048576 + 4 * (N : Int)]).length (nums .i64 (frameAt st.stack.length (f.f1.take i.toNat) ++ [1048576 + 4 * (N : Int)])) := by
        rw [hl4]
        simpa [nums] using ho3
      have hat4 : (Value.slice (some ⟨g, 0, none⟩) ((frameAt st.stack.length (f.f1.take i.toNat)).length + 1) cap).ownBlock = atv.ownBlock ∨ ∃ b, (Value.slice (some ⟨g, 0, none⟩) ((frameAt st.stack.length (f.f1.take i.toNat)).length + 1) cap).ownBlock = some b ∧ ((wr.alloc (Obj.cells #[.int .i64 (1048576 + 4 * (N : Int))] 3)).drew).heap.size ≤ b := by
        rcases hor with h | h
        · exact .inl h.symm
        · exact .inr ⟨g, rfl, by simp [h]⟩
      have hok4 : ∀ v, v ∈ frameAt st.stack.length (f.f1.take i.toNat) ++ [1048576 + 4 * (N : Int)] → v ≤ 9223372036854775807 := by
        intro v hv
        rcases List.mem_append.1 hv with h | h
        · have := frameAt_le _ _ v h; omega
        · obtain rfl : v = 1048576 + 4 * (N : Int) := by simpa using h
          omega
      have MB := Aside0.mk (MA.out.placed HF.out HS.out hg ho4 hat4 hok4)
      obtain ⟨S2, L2, I2, hs2, b1, b2, b3⟩ := MB.out.inn
      have hsv2 : L2.sv = .slice As' N cs' := by
        have h := I2.rep.c6
        have h2 := kx3
        rw [World.cell?_setCell_far _ _ _ _ (Ne.symm hgm)] at h
        exact Option.some.inj (h.symm.trans h2)
      have hso := I2.rep.stk
      rw [hsv2] at hso
      have IB := Aside0.mk I2
      have HSO := Aside0.mk hso
      have hlk : (st.stack ++ List.replicate (need (f.f1.take i.toNat)) (0 : Int)).length = N := by simp [hNe]
      have hk0 : 0 ≤ rd f.f1 i := by
        have h3 : rd f.f1 i ∈ f.f1 := by
          have : i.toNat < f.f1.length := by omega
          simp only [rd, List.getD_eq_getElem?_getD, List.getElem?_eq_getElem this, Option.getD_some]
          exact List.getElem_mem _
        exact HH0.out _ h3
      have hnd : need (f.f1.take (i.toNat + 1)) = need (f.f1.take i.toNat) + (rd f.f1 i).toNat := by
        rw [take_next _ _ (by omega), need_append, show ((i.toNat : Nat) : Int) = i by omega]
        simp [need]
      have hnl := need_take f.f1 (i.toNat + 1)
      clear I2 hso ho3 ho4 hat4 hok4
      go_wp2_with (at_builtin; refine num_zeros (by rfl) (.tmp 79) (.tmp 80) (by rfl) (.slice As' N cs') (st.stack ++ List.replicate (need (f.f1.take i.toNat)) 0) (rd f.f1 i) (by rfl) (by rfl) HSO.out hk0 (by rw [hlk]; omega) ?_; intro v4 w5 ho5 hg5 hat5; have hg6 := (show World.grownBy _ w5 L2.sv.ownBlock from hsv2 ▸ hg5); obtain ⟨k6, f6⟩ := IB.out.m6 hg6; rw [hsv2] at k6; obtain ⟨A4, c4, rfl, _⟩ := own_reads ho5)
      have hok5 : ∀ v, v ∈ st.stack ++ List.replicate (need (f.f1.take i.toNat)) (0 : Int) ++ List.replicate (rd f.f1 i).toNat 0 → v ≤ 9223372036854775807 := by
        intro v hv
        rcases List.mem_append.1 hv with h | h
        · exact IB.out.rep.okS v h
        · have := (List.mem_replicate.1 h).2; omega
      have MC := MB.out.stacked IB.out hs2 b1 b2 b3 hg6 ho5 (by rw [hsv2]; exact hat5) hok5
      have nx : (i + 1).toNat = i.toNat + 1 := by omega
      have e1 : frameAt st.stack.length (f.f1.take (i + 1).toNat) = frameAt st.stack.length (f.f1.take i.toNat) ++ [1048576 + 4 * (N : Int)] := by
        rw [nx, take_next _ _ (by omega), frameAt_append, hNe]
      have e2 : st.stack ++ List.replicate (need (f.f1.take (i + 1).toNat)) (0 : Int) = st.stack ++ List.replicate (need (f.f1.take i.toNat)) (0 : Int) ++ List.replicate (rd f.f1 i).toNat 0 := by
        rw [nx, hnd, ← List.replicate_append_replicate, List.append_assoc]
      have e3 : (st.stack ++ List.replicate (need (f.f1.take i.toNat)) (0 : Int) ++ List.replicate (rd f.f1 i).toNat (0 : Int)).length = st.stack.length + (need (f.f1.take i.toNat) + (rd f.f1 i).toNat) := by simp [Nat.add_assoc]
      rw [e3] at MC
      have MD := Aside0.mk MC
      clear MC
      go_roundw
      case measure => simp [intOf]; omega
      case rel =>
        refine ⟨i + 1, by go_num, by omega, by omega, ⟨.slice (some ⟨g, 0, none⟩) ((frameAt st.stack.length (f.f1.take i.toNat)).length + 1) cap, ?_⟩⟩
        rw [e1, e2]
        exact MD.out
    · have hd : decide (i < (f.f1.length : Int)) = false := decide_eq_false hlt
      have htk : f.f1.take i.toNat = f.f1 := List.take_of_length_le (by omega)
      rw [htk] at MKr
      obtain ⟨S', L', I', hs, a1, a2, a3⟩ := MKr.out.inn
      have cx2 : wr.cell? ⟨w.heap.size + 1, 2, none⟩ = some (.int .i64 st.stack.length) := by rw [MKr.out.fr.head.cell]; rfl
      have hlk : (st.stack ++ List.replicate (need f.f1) (0 : Int)).length = st.stack.length + need f.f1 := by simp
      obtain ⟨As, cs, hsv', hle, hcm, hrow⟩ := own_form I'.rep.stk
      rw [hlk] at hsv' hle hrow
      have s1 : (st.stack.length : Int) ≤ (st.stack.length : Int) + (need f.f1 : Int) := by omega
      have s2 : (0 : Int) ≤ st.stack.length := by omega
      have c6r : wr.cell? ⟨G.m, 6, none⟩ = some (.slice As (st.stack.length + need f.f1) cs) := by
        have := I'.rep.c6
        rw [hsv'] at this
        exact this
      have AV' := Aside0.mk (AV.out.kept MKr.out.kept)
      have II' := Aside0.mk I'
      have HROW := Aside0.mk hrow
      have HSV' := Aside0.mk hsv'
      clear I' hrow hsv'
      go_wp2
      refine region_heads 10 10 (fun w' => w'.cell? ⟨w.heap.size + 1, 2, none⟩ = some (.int .i64 st.stack.length) ∧ w'.cell? ⟨G.m, 6, none⟩ = some (.slice As (st.stack.length + need f.f1) cs)) (by kernel_rfl) (by kernel_rfl) (by kernel_rfl) ⟨cx2, c6r⟩ (by intro c a a' w1 hd h; simp +zetaDelta only [Exit.then, Exit.inBlock, bodyPost] at h ⊢; simpa [hd] using h) ?_
      simp only [List.length_cons, List.length_nil, Nat.reduceAdd, List.range_succ, List.range_zero, List.nil_append, List.cons_append, List.singleton_append]
      repeat (
        refine heads_ex (by rfl) (by rfl) (by rfl) ?_
        apply Exists.intro
        apply And.intro
        · rintro w' ⟨k1, k2⟩
          apply VR.mk
          go_simp
          with_reducible rfl
        simp only [List.setIfInBounds_toArray, List.set_cons_zero, List.set_cons_succ])
      refine heads_nil (chain_done ?_)
      have MKD := Aside0.mk (MKr.out.below (below_drew (Below.refl _ wr)))
      have CP := Aside0.mk (MKD.out.copied (AV'.out.kept (Kept.of_below (below_drew (Below.refl _ wr)))) hvn (II'.out.drewN 1) hs a1 a2 a3 HSV'.out (if cs = st.stack.length then As else Option.map (fun x => x.add st.stack.length) As) (by intro g h hn; subst h; rw [if_neg hn]; exact addr_at g _))
      have hcl : (nums .i64 vs).length = Nat.min vs.length (need f.f1) := by simp [nums, Nat.min_def]; omega
      generalize (if cs = st.stack.length then As else Option.map (fun x => x.add st.stack.length) As) = dp at CP ⊢
      have hqm : q.block ≠ G.m := fun e => by
        have h3 := World.block_lt_of_cell? _ _ MM.out.h1
        have h4 := II.out.ge _ II.out.rep.ownM
        simp at h3
        omega
      clear cx2 c6r
      refine wpList_copy_two (by rfl) (.tmp 93) (.tmp 94) 23 23 (by rfl) 3 Try.underlying23 info3s dp aa (need f.f1) (cs - st.stack.length) vs.length ca (by rfl) (by rfl) (nums .i64 vs) hcl (fun w' => Making G S F _ _ w w') CP.out.1 CP.out.2.1 CP.out.2.2 ?_
      go_wp2_with (intro w5 MZ0; have MZ := Aside0.mk MZ0; clear MZ0; obtain ⟨S5, L5, I5, hs5, b1, b2, b3⟩ := MZ.out.inn; have k10 := I5.rep.c10; have k9 := I5.rep.c9; have k11 := I5.c11; have z10 := I5.rep.fz 10; have z9 := I5.rep.fz 9; have z11 := I5.rep.fz 11; have k4 := pw_cell_below I5.base MM.out.h4; rw [hq] at k4; have IE := Aside0.mk I5; clear I5)
      have hgm : G.m ≠ w.heap.size + 1 := fun e => b1 (e ▸ IE.out.rep.ownM)
      have hgm' : w.heap.size + 1 ≠ G.m := Ne.symm hgm
      have FR6 := (MZ.out.fr.setCell (a := ⟨G.m, 10, none⟩) hgm' (fun b e h => b3 b e (h ▸ IE.out.rep.ownM)) (fun (e : w.heap.size = G.m) => b2 (e ▸ IE.out.rep.ownM)) (.int .i64 (st.calls + 1)))
      have IN6 := Aside0.mk ((IE.out.set_calls (st.calls + 1)).swap FR6 b1 b3 b2 HS.out)
      have KP6 := Aside0.mk ((MZ.out.kept.setCell (a := ⟨G.m, 10, none⟩) II.out.rep.ownM (.int .i64 (st.calls + 1))).setCell (a := ⟨G.m, 11, none⟩) II.out.rep.ownM (.pointer (some ⟨w.heap.size + 1, 0, none⟩)))
      have hen : enterP st f vs = { st with stack := st.stack ++ putP (List.replicate (need f.f1) 0) vs, calls := st.calls + 1 } := by simp [enterP, hq]
      have BR := Aside0.mk (BB.out.run S5 L5 _ _ (by rw [hen]; exact IN6.out) rfl rfl rfl)
      clear FR6
      go_wp2_with (go_at_call 55; refine BR.out.mono ?_; intro e w7 hC; rcases CPost.left II.out KP6.out hs5 (Nat.le_refl _) (FrameIs.held IN6.out.fr).lt IN6.out.lt hC with ⟨st7, h7, out7, v7, S7, L7, hr, rfl, hL⟩ | ⟨k7, c7, st7, ch, hr, rfl, hP⟩; have LF := Aside0.mk hL; have hb := BB.out.back _ _ _ hr; rw [hen] at hb; obtain ⟨hb1, hb2, hb3⟩ := hb; have y10 := hL.inn.rep.c10; rw [hb1] at y10; have y9 := hL.inn.rep.c9; rw [hb2] at y9; have y4 := pw_cell_below hL.inn.base MM.out.h4; rw [hq] at y4; have x10 := hL.inn.rep.fz 10; have x9 := hL.inn.rep.fz 9; have x11 := hL.inn.rep.fz 11; have yx := hL.inn.f2; have y11 := hL.inn.c11; obtain ⟨A7, C7, hs7, hle7, hcm7, hrow7⟩ := own_form hL.inn.rep.stk; have y6 := hL.inn.rep.c6; rw [hs7] at y6; clear hL hC)
      · have I8 := Aside0.mk ((LF.out.back II.out).set_calls st.calls)
        have K8 := Aside0.mk ((LF.out.kept.setCell (a := ⟨G.m, 11, none⟩) II.out.rep.ownM (.pointer (some ⟨F.xb, 0, none⟩))).setCell (a := ⟨G.m, 10, none⟩) II.out.rep.ownM (.int .i64 st.calls))
        have z6 : ((w7.setCell ⟨G.m, 11, none⟩ (.pointer (some ⟨F.xb, 0, none⟩))).setCell ⟨G.m, 10, none⟩ (.int .i64 st.calls)).cell? ⟨G.m, 6, none⟩ = some (.slice A7 st7.stack.length C7) := by rw [I8.out.rep.c6, hs7]
        have zx : ((w7.setCell ⟨G.m, 11, none⟩ (.pointer (some ⟨F.xb, 0, none⟩))).setCell ⟨G.m, 10, none⟩ (.int .i64 st.calls)).cell? ⟨w.heap.size + 1, 2, none⟩ = some (.int .i64 st.stack.length) := by
          rw [World.cell?_setCell_far _ _ _ _ hgm, World.cell?_setCell_far _ _ _ _ hgm]; exact yx
        have OW := Aside0.mk (show ((w7.setCell ⟨G.m, 11, none⟩ (.pointer (some ⟨F.xb, 0, none⟩))).setCell ⟨G.m, 10, none⟩ (.int .i64 st.calls)).ownsRow 0 3 1 v7 out7.length (nums .i64 out7) from Rep.row_of_block LF.out.own (fun b e => by
          have hbm : b ≠ G.m := fun h => (LF.out.far b e).1 (h ▸ LF.out.inn.rep.ownM)
          rw [Below.heap_setCell _ _ _ _ hbm, Below.heap_setCell _ _ _ _ hbm]))
        generalize (w7.setCell ⟨G.m, 11, none⟩ (.pointer (some ⟨F.xb, 0, none⟩))).setCell ⟨G.m, 10, none⟩ (.int .i64 st.calls) = w8 at I8 K8 z6 zx OW ⊢
        have hb3' : st.stack.length ≤ st7.stack.length := by rw [hb3]; simp
        have t1 : (st.stack.length : Int) ≤ C7 := by omega
        have t2 : (0 : Int) ≤ st.stack.length := by omega
        clear hrow7
        refine region_last (fun w' => w'.cell? ⟨G.m, 6, none⟩ = some (.slice A7 st7.stack.length C7) ∧ w'.cell? ⟨w.heap.size + 1, 2, none⟩ = some (.int .i64 st.stack.length) ∧ Aside0 (Below w8.drew.heap.size w8.drew w')) 12 (by kernel_rfl) (by kernel_rfl) (by kernel_rfl) ⟨z6, zx, ⟨Below.refl _ _⟩⟩ ?_
        simp only [List.range_succ, List.range_zero, List.nil_append, List.cons_append, List.singleton_append]
        repeat (
          refine walk_ex (by rfl) (by rfl) (by rfl) ?_
          apply Exists.intro
          apply And.intro
          · rintro w' ⟨k1, k2, kb⟩
            apply calm_value
            go_simp
            with_reducible rfl
          simp only [List.setIfInBounds_toArray, List.set_cons_zero, List.set_cons_succ])
        refine walk_fin (by rfl) (by rfl) ?_
        rintro w' ⟨k1, k2, kb⟩ hdf
        have I9 := Aside0.mk ((I8.out.drewN 1).below kb.out)
        have K9 := Aside0.mk ((K8.out.drewN 1).below kb.out)
        have f6 := I9.out.rep.fz 6
        have KB := kb
        clear k2 kb z6 zx
        go_wp2
        go_ret
        have hcp : callP X st F.held f vs = .ok (leaveP st.stack.length f st7) F.held out7 := by
          unfold callP
          rw [if_neg (by simp [hq]; omega), hr]
        have hlv : leaveP st.stack.length f st7 = { st7 with calls := st.calls, stack := st7.stack.take st.stack.length } := by simp [leaveP, hq, hb1]
        rw [hcp, hlv]
        have hbm : ∀ b, v7.ownBlock = some b → b ≠ G.m := fun b e h => (LF.out.far b e).1 (h ▸ LF.out.inn.rep.ownM)
        exact ⟨(K9.out.setCell (a := ⟨G.m, 6, none⟩) II.out.rep.ownM _).mono (fun b h => .inl h), v7, rfl, Rep.row_of_block OW.out (fun b e => (Below.heap_setCell _ _ _ _ (hbm b e)).trans (KB.out.block b ((Rep.has_own OW.out e).elim fun _ h => h.lt))), LF.out.ok, S7, _, LF.out.hs, I9.out.cut st.stack.length hb3' hs7, fun b e => LF.out.far b e⟩
      · have hcp : callP X st F.held f vs = .halt k7 c7 st7 := by
          unfold callP
          rw [if_neg (by simp [hq]; omega), hr]
        exact ⟨rfl, by rw [hcp]; exact hP⟩
end Go.Proofs.Ytpphpcmbpbppoaa.Mach
end
section
namespace Go.Proofs.Ytpphpcmbpbppoaa.Mach
open Go.RowKit Go.Proofs.YtpphpcmbpbppoaaW.PrintWords Go.Proofs.YtpphpcmbpbppoaaW.PrintLast Go.Proofs.YtpphpcmbpbppoaaW.PrintMore
open Go.Proofs.Ytpphpcmbpbppoaa.Calm
open Go.Proofs.Ytpphpcmbpbppoaa.PMirFuel (S30 S57 S34 S37 S40 S43 S45 S48 k30 k57 k34 k37 k40 k43 k45 k48 rd_T30 rd_T57 rd_T34 rd_T37 rd_T40 rd_T43 rd_T45 rd_T48 at_T30 at_T57 at_T34 at_T40 at_T45 at_T48)
set_option linter.unusedVariables false
set_option linter.unusedSimpArgs false
set_option maxRecDepth 100000 in
set_option maxHeartbeats 8000000 in
theorem call_loud {G : Glob} {S : Nat → Prop} {L : Lay} {F : Fr} {st : St} {w : World} (I : In G S L F st w) {q : Addr} {f : S48} {A1 A5 : Option Addr} {c1 c5 : Nat} (M : MA G.w0 q f A1 c1 A5 c5) (hl : f.f1.length < 100000) (hN : st.stack.length + need f.f1 < 1099511627776)
    (h0 : ∀ k, k ∈ f.f1 → 0 ≤ k) {av : Value} {vs : List Int} (V : ArgsAt S w av vs) (hvn : vs.length ≤ need f.f1) (hq : f.f4 = false)
    (h1 : st.calls < 392) (h2 : st.depth < 48) (hc0 : 0 ≤ st.calls) (hd0 : 0 ≤ st.depth) {X : Runs} (B : EntersOk G q f st vs X) :
    Calls Try.prog 29 #[.pointer (some ⟨G.m, 0, none⟩), .pointer (some q), av] w (CPost G S (fun _ => False) F (callP X st F.held f vs) w) := by
  obtain ⟨aa, ca, rfl, hca, _⟩ := own_form V.own
  have AV := Aside0.mk V
  have BB := Aside0.mk B
  clear V B
  have c10 := I.rep.c10
  have c9 := I.rep.c9
  have c11 := I.c11
  have c6 := I.rep.c6
  have q1 := pw_cell_below I.base M.h1
  have q4 := pw_cell_below I.base M.h4
  rw [hq] at q4
  obtain ⟨As, cs, hsv, _⟩ := own_reads I.rep.stk
  rw [hsv] at c6
  have d1 : decide (st.calls ≥ 392) = false := by simp; omega
  have d2 : decide (st.depth ≥ 48) = false := by simp; omega
  have d0 : (0 : Int) ≤ f.f1.length := by omega
  have II := Aside0.mk I
  have MM := Aside0.mk M
  have HH0 := Aside0.mk h0
  have hmk := print_make_of (P := Try.prog) 126 4 (.bool false) 1 Try.underlying126 info4 rfl (by omega) f.f1.length (by omega)
  have HF : Aside0 (F.xb < w.heap.size ∧ (∀ b, F.atv.ownBlock = some b → b < w.heap.size) ∧ F.hb < w.heap.size) := ⟨I.fr.head.lt, I.fr.lt_at, I.fr.held.lt⟩
  have HS := Aside0.mk I.base.size
  have HLT := Aside0.mk I.lt
  clear I M h0
  go_enter Try.func29, Try.ntmps29
  go_wp2
  go_region_held_law (fun w' => w'.cell? ⟨G.m, 6, none⟩ = some (.slice As st.stack.length cs) ∧ w'.cell? ⟨q.block, q.off + 1, none⟩ = some (.slice A1 f.f1.length c1)) (go_keep) (fail)
  have MK := Aside0.mk (Making.start II.out q f.f1.length)
  generalize ((w.alloc (Obj.cells (madeCells #[Value.bool false] f.f1.length) 4)).alloc (Obj.cells #[.pointer (some q), .slice none 0 0, .int .i64 st.stack.length, .slice (some ⟨w.heap.size, 0, none⟩) f.f1.length f.f1.length] 135)).drew = W1 at MK ⊢
  have q1' := pw_cell_below MK.out.base MM.out.h1
  go_wp2
  go_loopw [10, 55] (fun _ v wr => ∃ i : Int, v = .int .i64 i ∧ 0 ≤ i ∧ i ≤ f.f1.length ∧ Aside0 (∃ atv, Making G S F ⟨w.heap.size + 1, q, atv, w.heap.size, frameAt st.stack.length (f.f1.take i.toNat), st.stack.length, List.replicate f.f1.length false⟩ { st with stack := st.stack ++ List.replicate (need (f.f1.take i.toNat)) 0 } w wr)) (fun _ v _ => f.f1.length - (intOf v).toNat)
  case atStart => exact ⟨0, rfl, by omega, by omega, ⟨_, MK.out⟩⟩
  case round =>
    obtain ⟨i, rfl, hi0, hi1, atv, MK0⟩ := hrel
    have MKr := Aside0.mk MK0
    clear MK0
    by_cases hlt : i < f.f1.length
    · obtain ⟨S', L', I', hs, a1, a2, a3⟩ := MKr.out.inn
      obtain ⟨As', cs', hsv', _⟩ := own_reads I'.rep.stk
      obtain ⟨N, hNe⟩ : ∃ N, st.stack.length + need (f.f1.take i.toNat) = N := ⟨_, rfl⟩
      have hN1 : N < 1099511627776 := by have := need_take f.f1 i.toNat; omega
      have c6r : wr.cell? ⟨G.m, 6, none⟩ = some (.slice As' N cs') := by
        have := I'.rep.c6
        rw [hsv'] at this
        simpa [hNe] using this
      have cx : wr.cell? ⟨w.heap.size + 1, 1, none⟩ = some atv := by rw [MKr.out.fr.head.cell]; rfl
      obtain ⟨ad, e1, hn⟩ := int_at (Kd.C_below MM.out.g1 I'.base) i hi0 hlt
      have II' := Aside0.mk I'
      clear I' hsv'
      subst e1
      have MA := Aside0.mk (MKr.out.below (below_drew (below_alloc (Below.refl _ wr) (Obj.cells #[.int .i64 (1048576 + 4 * (N : Int))] 3))))
      have C6A := Aside0.mk (pw_cell_below (below_drew (below_alloc (Below.refl _ wr) (Obj.cells #[.int .i64 (1048576 + 4 * (N : Int))] 3))) c6r)
      have hwA : IntKind.i64.wrap (4 * (N : Int)) = 4 * (N : Int) := by rw [IntKind.wrap_i64]; omega
      have hwB : IntKind.i64.wrap (1048576 + 4 * (N : Int)) = 1048576 + 4 * (N : Int) := by rw [IntKind.wrap_i64]; omega
      have hgm : G.m ≠ w.heap.size + 1 := fun e => a1 (e ▸ II'.out.rep.ownM)
      have hgm' : w.heap.size + 1 ≠ G.m := Ne.symm hgm
      obtain ⟨i3, hi3, hz3, hs3, hb3⟩ := info3x
      go_wp2
      refine region_heads 12 14 (fun w' => w'.cell? ⟨w.heap.size + 1, 1, none⟩ = some atv ∧ w'.cell? ⟨G.m, 6, none⟩ = some (.slice As' N cs')) (by kernel_rfl) (by kernel_rfl) (by kernel_rfl) ⟨cx, c6r⟩ (by intro c a a' w1 hd h; simp +zetaDelta only [Exit.then, Exit.inBlock, bodyPost] at h ⊢; simpa [hd] using h) ?_
      simp only [List.length_cons, List.length_nil, Nat.reduceAdd, List.range_succ, List.range_zero, List.nil_append, List.cons_append, List.singleton_append]
      repeat (
        refine heads_ex (by rfl) (by rfl) (by rfl) ?_
        apply Exists.intro
        apply And.intro
        · rintro w' ⟨k1, k2⟩
          apply VR.mk
          go_simp
          with_reducible rfl
        simp only [List.setIfInBounds_toArray, List.set_cons_zero, List.set_cons_succ])
      refine heads_nil ?_
      refine chain_value (v := .slice (some ⟨wr.heap.size, 0, none⟩) 1 1) (w' := (wr.alloc (Obj.cells #[.int .i64 (1048576 + 4 * (N : Int))] 3)).drew) (by rfl) (by rfl) ?_ ⟨?_, C6A.out⟩ ?_
      · go_simp
      · rw [MA.out.fr.head.cell]; rfl
      simp only [List.setIfInBounds_toArray, List.set_cons_zero, List.set_cons_succ]
      refine chain_ex (by rfl) ?_
      refine wp_append_lies _ (.tmp 63) (.tmp 71) 23 (by rfl) 0 3 i3 (.int .i64 0) 1 8 Try.underlying23 hi3 hz3 hs3 hb3 rfl (by omega) atv (frameAt st.stack.length (f.f1.take i.toNat)).length (nums .i64 (frameAt st.stack.length (f.f1.take i.toNat))) (by rfl) MA.out.fr.row ⟨wr.heap.size, 0, none⟩ 1 1 [.int .i64 (1048576 + 4 * (N : Int))] (by rfl) (by rfl) (World.news_of_block (heap_alloc_new wr _)) (by intro u hu; simp at hu; subst hu; rfl) (by omega) (by rw [frameAt_length]; simp [maxLen]; omega) (by rw [frameAt_length]; simp; omega) (Nat.zero_le _) (wr.heap.size + 1) (by simp) ?_
      intro g cap w3 ho3 hg hor hlt3
      obtain ⟨kx1, kx2, kx3⟩ := MA.out.after C6A.out hg
      refine ⟨⟨kx1, kx3⟩, chain_done ?_⟩
      have hl4 : (frameAt st.stack.length (f.f1.take i.toNat) ++ [1048576 + 4 * (N : Int)]).length = (frameAt st.stack.length (f.f1.take i.toNat)).length + 1 := by simp
      have ho4 : w3.ownsRow 0 3 1 (.slice (some ⟨g, 0, none⟩) ((frameAt st.stack.length (f.f1.take i.toNat)).length + 1) cap) (frameAt st.stack.length (f.f1.take i.toNat) ++ [1048576 + 4 * (N : Int)]).length (nums .i64 (frameAt st.stack.length (f.f1.take i.toNat) ++ [1048576 + 4 * (N : Int)])) := by
        rw [hl4]
        simpa [nums] using ho3
      have hat4 : (Value.slice (some ⟨g, 0, none⟩) ((frameAt st.stack.length (f.f1.take i.toNat)).length + 1) cap).ownBlock = atv.ownBlock ∨ ∃ b, (Value.slice (some ⟨g, 0, none⟩) ((frameAt st.stack.length (f.f1.take i.toNat)).length + 1) cap).ownBlock = some b ∧ ((wr.alloc (Obj.cells #[.int .i64 (1048576 + 4 * (N : Int))] 3)).drew).heap.size ≤ b := by
        rcases hor with h | h
        · exact .inl h.symm
        · exact .inr ⟨g, rfl, by simp [h]⟩
      have hok4 : ∀ v, v ∈ frameAt st.stack.length (f.f1.take i.toNat) ++ [1048576 + 4 * (N : Int)] → v ≤ 9223372036854775807 := by
        intro v hv
        rcases List.mem_append.1 hv with h | h
        · have := frameAt_le _ _ v h; omega
        · obtain rfl : v = 1048576 + 4 * (N : Int) := by simpa using h
          omega
      have MB := Aside0.mk (MA.out.placed HF.out HS.out hg ho4 hat4 hok4)
      obtain ⟨S2, L2, I2, hs2, b1, b2, b3⟩ := MB.out.inn
      have hsv2 : L2.sv = .slice As' N cs' := by
        have h := I2.rep.c6
        have h2 := kx3
        rw [World.cell?_setCell_far _ _ _ _ (Ne.symm hgm)] at h
        exact Option.some.inj (h.symm.trans h2)
      have hso := I2.rep.stk
      rw [hsv2] at hso
      have IB := Aside0.mk I2
      have HSO := Aside0.mk hso
      have hlk : (st.stack ++ List.replicate (need (f.f1.take i.toNat)) (0 : Int)).length = N := by simp [hNe]
      have hk0 : 0 ≤ rd f.f1 i := by
        have h3 : rd f.f1 i ∈ f.f1 := by
          have : i.toNat < f.f1.length := by omega
          simp only [rd, List.getD_eq_getElem?_getD, List.getElem?_eq_getElem this, Option.getD_some]
          exact List.getElem_mem _
        exact HH0.out _ h3
      have hnd : need (f.f1.take (i.toNat + 1)) = need (f.f1.take i.toNat) + (rd f.f1 i).toNat := by
        rw [take_next _ _ (by omega), need_append, show ((i.toNat : Nat) : Int) = i by omega]
        simp [need]
      have hnl := need_take f.f1 (i.toNat + 1)
      clear I2 hso ho3 ho4 hat4 hok4
      go_wp2_with (at_builtin; refine num_zeros (by rfl) (.tmp 79) (.tmp 80) (by rfl) (.slice As' N cs') (st.stack ++ List.replicate (need (f.f1.take i.toNat)) 0) (rd f.f1 i) (by rfl) (by rfl) HSO.out hk0 (by rw [hlk]; omega) ?_; intro v4 w5 ho5 hg5 hat5; have hg6 := (show World.grownBy _ w5 L2.sv.ownBlock from hsv2 ▸ hg5); obtain ⟨k6, f6⟩ := IB.out.m6 hg6; rw [hsv2] at k6; obtain ⟨A4, c4, rfl, _⟩ := own_reads ho5)
      have hok5 : ∀ v, v ∈ st.stack ++ List.replicate (need (f.f1.take i.toNat)) (0 : Int) ++ List.replicate (rd f.f1 i).toNat 0 → v ≤ 9223372036854775807 := by
        intro v hv
        rcases List.mem_append.1 hv with h | h
        · exact IB.out.rep.okS v h
        · have := (List.mem_replicate.1 h).2; omega
      have MC := MB.out.stacked IB.out hs2 b1 b2 b3 hg6 ho5 (by rw [hsv2]; exact hat5) hok5
      have nx : (i + 1).toNat = i.toNat + 1 := by omega
      have e1 : frameAt st.stack.length (f.f1.take (i + 1).toNat) = frameAt st.stack.length (f.f1.take i.toNat) ++ [1048576 + 4 * (N : Int)] := by
        rw [nx, take_next _ _ (by omega), frameAt_append, hNe]
      have e2 : st.stack ++ List.replicate (need (f.f1.take (i + 1).toNat)) (0 : Int) = st.stack ++ List.replicate (need (f.f1.take i.toNat)) (0 : Int) ++ List.replicate (rd f.f1 i).toNat 0 := by
        rw [nx, hnd, ← List.replicate_append_replicate, List.append_assoc]
      have e3 : (st.stack ++ List.replicate (need (f.f1.take i.toNat)) (0 : Int) ++ List.replicate (rd f.f1 i).toNat (0 : Int)).length = st.stack.length + (need (f.f1.take i.toNat) + (rd f.f1 i).toNat) := by simp [Nat.add_assoc]
      rw [e3] at MC
      have MD := Aside0.mk MC
      clear MC
      go_roundw
      case measure => simp [intOf]; omega
      case rel =>
        refine ⟨i + 1, by go_num, by omega, by omega, ⟨.slice (some ⟨g, 0, none⟩) ((frameAt st.stack.length (f.f1.take i.toNat)).length + 1) cap, ?_⟩⟩
        rw [e1, e2]
        exact MD.out
    · have hd : decide (i < (f.f1.length : Int)) = false := decide_eq_false hlt
      have htk : f.f1.take i.toNat = f.f1 := List.take_of_length_le (by omega)
      rw [htk] at MKr
      obtain ⟨S', L', I', hs, a1, a2, a3⟩ := MKr.out.inn
      have cx2 : wr.cell? ⟨w.heap.size + 1, 2, none⟩ = some (.int .i64 st.stack.length) := by rw [MKr.out.fr.head.cell]; rfl
      have hlk : (st.stack ++ List.replicate (need f.f1) (0 : Int)).length = st.stack.length + need f.f1 := by simp
      obtain ⟨As, cs, hsv', hle, hcm, hrow⟩ := own_form I'.rep.stk
      rw [hlk] at hsv' hle hrow
      have s1 : (st.stack.length : Int) ≤ (st.stack.length : Int) + (need f.f1 : Int) := by omega
      have s2 : (0 : Int) ≤ st.stack.length := by omega
      have c6r : wr.cell? ⟨G.m, 6, none⟩ = some (.slice As (st.stack.length + need f.f1) cs) := by
        have := I'.rep.c6
        rw [hsv'] at this
        exact this
      have AV' := Aside0.mk (AV.out.kept MKr.out.kept)
      have II' := Aside0.mk I'
      have HROW := Aside0.mk hrow
      have HSV' := Aside0.mk hsv'
      clear I' hrow hsv'
      go_wp2
      refine region_heads 10 10 (fun w' => w'.cell? ⟨w.heap.size + 1, 2, none⟩ = some (.int .i64 st.stack.length) ∧ w'.cell? ⟨G.m, 6, none⟩ = some (.slice As (st.stack.length + need f.f1) cs)) (by kernel_rfl) (by kernel_rfl) (by kernel_rfl) ⟨cx2, c6r⟩ (by intro c a a' w1 hd h; simp +zetaDelta only [Exit.then, Exit.inBlock, bodyPost] at h ⊢; simpa [hd] using h) ?_
      simp only [List.length_cons, List.length_nil, Nat.reduceAdd, List.range_succ, List.range_zero, List.nil_append, List.cons_append, List.singleton_append]
      repeat (
        refine heads_ex (by rfl) (by rfl) (by rfl) ?_
        apply Exists.intro
        apply And.intro
        · rintro w' ⟨k1, k2⟩
          apply VR.mk
          go_simp
          with_reducible rfl
        simp only [List.setIfInBounds_toArray, List.set_cons_zero, List.set_cons_succ])
      refine heads_nil (chain_done ?_)
      have MKD := Aside0.mk (MKr.out.below (below_drew (Below.refl _ wr)))
      have CP := Aside0.mk (MKD.out.copied (AV'.out.kept (Kept.of_below (below_drew (Below.refl _ wr)))) hvn (II'.out.drewN 1) hs a1 a2 a3 HSV'.out (if cs = st.stack.length then As else Option.map (fun x => x.add st.stack.length) As) (by intro g h hn; subst h; rw [if_neg hn]; exact addr_at g _))
      have hcl : (nums .i64 vs).length = Nat.min vs.length (need f.f1) := by simp [nums, Nat.min_def]; omega
      generalize (if cs = st.stack.length then As else Option.map (fun x => x.add st.stack.length) As) = dp at CP ⊢
      have hqm : q.block ≠ G.m := fun e => by
        have h3 := World.block_lt_of_cell? _ _ MM.out.h1
        have h4 := II.out.ge _ II.out.rep.ownM
        simp at h3
        omega
      clear cx2 c6r
      refine wpList_copy_two (by rfl) (.tmp 93) (.tmp 94) 23 23 (by rfl) 3 Try.underlying23 info3s dp aa (need f.f1) (cs - st.stack.length) vs.length ca (by rfl) (by rfl) (nums .i64 vs) hcl (fun w' => Making G S F _ _ w w') CP.out.1 CP.out.2.1 CP.out.2.2 ?_
      go_wp2_with (intro w5 MZ0; have MZ := Aside0.mk MZ0; clear MZ0; obtain ⟨S5, L5, I5, hs5, b1, b2, b3⟩ := MZ.out.inn; have k10 := I5.rep.c10; have k9 := I5.rep.c9; have k11 := I5.c11; have z10 := I5.rep.fz 10; have z9 := I5.rep.fz 9; have z11 := I5.rep.fz 11; have k4 := pw_cell_below I5.base MM.out.h4; rw [hq] at k4; have IE := Aside0.mk I5; clear I5)
      have hgm : G.m ≠ w.heap.size + 1 := fun e => b1 (e ▸ IE.out.rep.ownM)
      have hgm' : w.heap.size + 1 ≠ G.m := Ne.symm hgm
      have FR6 := (MZ.out.fr.setCell (a := ⟨G.m, 10, none⟩) hgm' (fun b e h => b3 b e (h ▸ IE.out.rep.ownM)) (fun (e : w.heap.size = G.m) => b2 (e ▸ IE.out.rep.ownM)) (.int .i64 (st.calls + 1))).setCell (a := ⟨G.m, 9, none⟩) hgm' (fun b e h => b3 b e (h ▸ IE.out.rep.ownM)) (fun (e : w.heap.size = G.m) => b2 (e ▸ IE.out.rep.ownM)) (.int .i64 (st.depth + 1))
      have IN6 := Aside0.mk (((IE.out.set_calls (st.calls + 1)).set_depth (st.depth + 1)).swap FR6 b1 b3 b2 HS.out)
      have KP6 := Aside0.mk (((MZ.out.kept.setCell (a := ⟨G.m, 10, none⟩) II.out.rep.ownM (.int .i64 (st.calls + 1))).setCell (a := ⟨G.m, 9, none⟩) II.out.rep.ownM (.int .i64 (st.depth + 1))).setCell (a := ⟨G.m, 11, none⟩) II.out.rep.ownM (.pointer (some ⟨w.heap.size + 1, 0, none⟩)))
      have hen : enterP st f vs = { st with stack := st.stack ++ putP (List.replicate (need f.f1) 0) vs, calls := st.calls + 1, depth := st.depth + 1 } := by simp [enterP, hq]
      have BR := Aside0.mk (BB.out.run S5 L5 _ _ (by rw [hen]; exact IN6.out) rfl rfl rfl)
      clear FR6
      go_wp2_with (go_at_call 55; refine BR.out.mono ?_; intro e w7 hC; rcases CPost.left II.out KP6.out hs5 (Nat.le_refl _) (FrameIs.held IN6.out.fr).lt IN6.out.lt hC with ⟨st7, h7, out7, v7, S7, L7, hr, rfl, hL⟩ | ⟨k7, c7, st7, ch, hr, rfl, hP⟩; have LF := Aside0.mk hL; have hb := BB.out.back _ _ _ hr; rw [hen] at hb; obtain ⟨hb1, hb2, hb3⟩ := hb; have y10 := hL.inn.rep.c10; rw [hb1] at y10; have y9 := hL.inn.rep.c9; rw [hb2] at y9; have y4 := pw_cell_below hL.inn.base MM.out.h4; rw [hq] at y4; have x10 := hL.inn.rep.fz 10; have x9 := hL.inn.rep.fz 9; have x11 := hL.inn.rep.fz 11; have yx := hL.inn.f2; have y11 := hL.inn.c11; obtain ⟨A7, C7, hs7, hle7, hcm7, hrow7⟩ := own_form hL.inn.rep.stk; have y6 := hL.inn.rep.c6; rw [hs7] at y6; clear hL hC)
      · have I8 := Aside0.mk (((LF.out.back II.out).set_calls st.calls).set_depth st.depth)
        have K8 := Aside0.mk (((LF.out.kept.setCell (a := ⟨G.m, 11, none⟩) II.out.rep.ownM (.pointer (some ⟨F.xb, 0, none⟩))).setCell (a := ⟨G.m, 10, none⟩) II.out.rep.ownM (.int .i64 st.calls)).setCell (a := ⟨G.m, 9, none⟩) II.out.rep.ownM (.int .i64 st.depth))
        have z6 : (((w7.setCell ⟨G.m, 11, none⟩ (.pointer (some ⟨F.xb, 0, none⟩))).setCell ⟨G.m, 10, none⟩ (.int .i64 st.calls)).setCell ⟨G.m, 9, none⟩ (.int .i64 st.depth)).cell? ⟨G.m, 6, none⟩ = some (.slice A7 st7.stack.length C7) := by rw [I8.out.rep.c6, hs7]
        have zx : (((w7.setCell ⟨G.m, 11, none⟩ (.pointer (some ⟨F.xb, 0, none⟩))).setCell ⟨G.m, 10, none⟩ (.int .i64 st.calls)).setCell ⟨G.m, 9, none⟩ (.int .i64 st.depth)).cell? ⟨w.heap.size + 1, 2, none⟩ = some (.int .i64 st.stack.length) := by
          rw [World.cell?_setCell_far _ _ _ _ hgm, World.cell?_setCell_far _ _ _ _ hgm, World.cell?_setCell_far _ _ _ _ hgm]; exact yx
        have OW := Aside0.mk (show (((w7.setCell ⟨G.m, 11, none⟩ (.pointer (some ⟨F.xb, 0, none⟩))).setCell ⟨G.m, 10, none⟩ (.int .i64 st.calls)).setCell ⟨G.m, 9, none⟩ (.int .i64 st.depth)).ownsRow 0 3 1 v7 out7.length (nums .i64 out7) from Rep.row_of_block LF.out.own (fun b e => by
          have hbm : b ≠ G.m := fun h => (LF.out.far b e).1 (h ▸ LF.out.inn.rep.ownM)
          rw [Below.heap_setCell _ _ _ _ hbm, Below.heap_setCell _ _ _ _ hbm, Below.heap_setCell _ _ _ _ hbm]))
        generalize ((w7.setCell ⟨G.m, 11, none⟩ (.pointer (some ⟨F.xb, 0, none⟩))).setCell ⟨G.m, 10, none⟩ (.int .i64 st.calls)).setCell ⟨G.m, 9, none⟩ (.int .i64 st.depth) = w8 at I8 K8 z6 zx OW ⊢
        have hb3' : st.stack.length ≤ st7.stack.length := by rw [hb3]; simp
        have t1 : (st.stack.length : Int) ≤ C7 := by omega
        have t2 : (0 : Int) ≤ st.stack.length := by omega
        clear hrow7
        refine region_last (fun w' => w'.cell? ⟨G.m, 6, none⟩ = some (.slice A7 st7.stack.length C7) ∧ w'.cell? ⟨w.heap.size + 1, 2, none⟩ = some (.int .i64 st.stack.length) ∧ Aside0 (Below w8.drew.heap.size w8.drew w')) 12 (by kernel_rfl) (by kernel_rfl) (by kernel_rfl) ⟨z6, zx, ⟨Below.refl _ _⟩⟩ ?_
        simp only [List.range_succ, List.range_zero, List.nil_append, List.cons_append, List.singleton_append]
        repeat (
          refine walk_ex (by rfl) (by rfl) (by rfl) ?_
          apply Exists.intro
          apply And.intro
          · rintro w' ⟨k1, k2, kb⟩
            apply calm_value
            go_simp
            with_reducible rfl
          simp only [List.setIfInBounds_toArray, List.set_cons_zero, List.set_cons_succ])
        refine walk_fin (by rfl) (by rfl) ?_
        rintro w' ⟨k1, k2, kb⟩ hdf
        have I9 := Aside0.mk ((I8.out.drewN 1).below kb.out)
        have K9 := Aside0.mk ((K8.out.drewN 1).below kb.out)
        have f6 := I9.out.rep.fz 6
        have KB := kb
        clear k2 kb z6 zx
        go_wp2
        go_ret
        have hcp : callP X st F.held f vs = .ok (leaveP st.stack.length f st7) F.held out7 := by
          unfold callP
          rw [if_neg (by simp [hq]; omega), hr]
        have hlv : leaveP st.stack.length f st7 = { st7 with calls := st.calls, depth := st.depth, stack := st7.stack.take st.stack.length } := by simp [leaveP, hq, hb1, hb2]
        rw [hcp, hlv]
        have hbm : ∀ b, v7.ownBlock = some b → b ≠ G.m := fun b e h => (LF.out.far b e).1 (h ▸ LF.out.inn.rep.ownM)
        exact ⟨(K9.out.setCell (a := ⟨G.m, 6, none⟩) II.out.rep.ownM _).mono (fun b h => .inl h), v7, rfl, Rep.row_of_block OW.out (fun b e => (Below.heap_setCell _ _ _ _ (hbm b e)).trans (KB.out.block b ((Rep.has_own OW.out e).elim fun _ h => h.lt))), LF.out.ok, S7, _, LF.out.hs, I9.out.cut st.stack.length hb3' hs7, fun b e => LF.out.far b e⟩
      · have hcp : callP X st F.held f vs = .halt k7 c7 st7 := by
          unfold callP
          rw [if_neg (by simp [hq]; omega), hr]
        exact ⟨rfl, by rw [hcp]; exact hP⟩
end Go.Proofs.Ytpphpcmbpbppoaa.Mach
end
section
namespace Go.Proofs.Ytpphpcmbpbppoaa.Mach
open Go.RowKit Go.Proofs.YtpphpcmbpbppoaaW.PrintWords Go.Proofs.YtpphpcmbpbppoaaW.PrintLast Go.Proofs.YtpphpcmbpbppoaaW.PrintMore
open Go.Proofs.Ytpphpcmbpbppoaa.Calm
open Go.Proofs.Ytpphpcmbpbppoaa.PMirFuel (S30 S57 S34 S37 S40 S43 S45 S48 k30 k57 k34 k37 k40 k43 k45 k48 rd_T30 rd_T57 rd_T34 rd_T37 rd_T40 rd_T43 rd_T45 rd_T48 at_T30 at_T57 at_T34 at_T40 at_T45 at_T48)
set_option linter.unusedVariables false
set_option linter.unusedSimpArgs false
theorem CPost.halt_ {G : Glob} {S T : Nat → Prop} {L : Lay} {F : Fr} {st : St} {w w' : World} {k c : Int} {r : ResC} {x' : Option Addr} (hr : r = .halt k c st) (K : Kept (fun b => S b ∨ T b) w w') (R : Rep S G.m L x' st w') : CPost G S T F r w (haltE k c) w' := by
  subst hr; exact ⟨K, ⟨_, rfl, .inl rfl⟩, S, L, x', fun _ h => .inl h, R⟩
set_option maxRecDepth 100000 in
set_option maxHeartbeats 2000000 in
theorem call_full {G : Glob} {S : Nat → Prop} {L : Lay} {F : Fr} {st : St} {w : World} (I : In G S L F st w) {q : Addr} {f : S48} {A1 A5 : Option Addr} {c1 c5 : Nat} (M : MA G.w0 q f A1 c1 A5 c5) (av : Value) (vs : List Int) (h1 : 392 ≤ st.calls) {X : Runs} :
    Calls Try.prog 29 #[.pointer (some ⟨G.m, 0, none⟩), .pointer (some q), av] w (CPost G S (fun _ => False) F (callP X st F.held f vs) w) := by
  have c10 := I.rep.c10
  have d1 : decide (st.calls ≥ 392) = true := by simp; omega
  have II := Aside0.mk I
  have hres : callP X st F.held f vs = .halt 2 0 st := by unfold callP; rw [if_pos (.inl h1)]
  clear I M
  go_enter Try.func29, Try.ntmps29
  go_wp2_with (go_at_call 28; refine (stop _ _ _).mono ?_; rintro e w1 ⟨rfl, rfl⟩)
  exact ⟨rfl, CPost.halt_ hres (Kept.refl _ _) II.out.rep⟩
set_option maxRecDepth 100000 in
set_option maxHeartbeats 2000000 in
theorem call_deep {G : Glob} {S : Nat → Prop} {L : Lay} {F : Fr} {st : St} {w : World} (I : In G S L F st w) {q : Addr} {f : S48} {A1 A5 : Option Addr} {c1 c5 : Nat} (M : MA G.w0 q f A1 c1 A5 c5) (av : Value) (vs : List Int) (h1 : st.calls < 392) (hq : f.f4 = false) (h2 : 48 ≤ st.depth) {X : Runs} :
    Calls Try.prog 29 #[.pointer (some ⟨G.m, 0, none⟩), .pointer (some q), av] w (CPost G S (fun _ => False) F (callP X st F.held f vs) w) := by
  have c10 := I.rep.c10
  have c9 := I.rep.c9
  have q4 := pw_cell_below I.base M.h4
  rw [hq] at q4
  have d1 : decide (st.calls ≥ 392) = false := by simp; omega
  have d2 : decide (st.depth ≥ 48) = true := by simp; omega
  have II := Aside0.mk I
  have hres : callP X st F.held f vs = .halt 2 0 st := by unfold callP; rw [if_pos (.inr ⟨hq, h2⟩)]
  clear I M
  go_enter Try.func29, Try.ntmps29
  go_wp2_with (go_at_call 28; refine (stop _ _ _).mono ?_; rintro e w1 ⟨rfl, rfl⟩)
  exact ⟨rfl, CPost.halt_ hres (Kept.refl _ _) II.out.rep⟩
theorem mcall {G : Glob} {S : Nat → Prop} {L : Lay} {F : Fr} {st : St} {w : World} (I : In G S L F st w) {q : Addr} {f : S48} {A1 A5 : Option Addr} {c1 c5 : Nat} (M : MA G.w0 q f A1 c1 A5 c5) (hl : f.f1.length < 100000) (hN : st.stack.length + need f.f1 < 1099511627776)
    (h0 : ∀ k, k ∈ f.f1 → 0 ≤ k) {av : Value} {vs : List Int} (V : ArgsAt S w av vs) (hvn : vs.length ≤ need f.f1) (hc0 : 0 ≤ st.calls) (hd0 : 0 ≤ st.depth) {X : Runs} (B : st.calls < 392 → EntersOk G q f st vs X) :
    Calls Try.prog 29 #[.pointer (some ⟨G.m, 0, none⟩), .pointer (some q), av] w (CPost G S (fun _ => False) F (callP X st F.held f vs) w) := by
  by_cases h1 : st.calls < 392
  · cases hq : f.f4 with
    | true => exact call_quiet I M hl hN h0 V hvn hq h1 hc0 hd0 (B h1)
    | false =>
      by_cases h2 : st.depth < 48
      · exact call_loud I M hl hN h0 V hvn hq h1 h2 hc0 hd0 (B h1)
      · exact call_deep I M av vs h1 hq (by omega)
  · exact call_full I M av vs (by omega)
end Go.Proofs.Ytpphpcmbpbppoaa.Mach
end
section
namespace Go.Proofs.Ytpphpcmbpbppoaa.Mach
open Go.RowKit Go.Proofs.YtpphpcmbpbppoaaW.PrintWords Go.Proofs.YtpphpcmbpbppoaaW.PrintLast Go.Proofs.YtpphpcmbpbppoaaW.PrintMore
open Go.Proofs.Ytpphpcmbpbppoaa.Calm
open Go.Proofs.Ytpphpcmbpbppoaa.PMirFuel (S30 S57 S34 S37 S40 S43 S45 S48 k30 k57 k34 k37 k40 k43 k45 k48 rd_T30 rd_T57 rd_T34 rd_T37 rd_T40 rd_T43 rd_T45 rd_T48 at_T30 at_T57 at_T34 at_T40 at_T45 at_T48)
set_option linter.unusedVariables false
set_option linter.unusedSimpArgs false
theorem AllPost.cases {r : Option (List Int)} {w w' : World} {e : Ending} (h : AllPost r w e w') :
    (r = none ∧ e = haltE 4 0 ∧ Below w.heap.size w w') ∨ ∃ vs v, r = some vs ∧ e = .returned v ∧ Below w.heap.size w w' ∧ w'.ownsRow w.heap.size 3 1 v vs.length (nums .i64 vs) ∧ ∀ x, x ∈ vs → x ≤ 9223372036854775807 := by
  cases r with
  | none => exact .inl ⟨rfl, h.2, h.1⟩
  | some vs => obtain ⟨hb, ⟨v, he, ho⟩, hk⟩ := h; exact .inr ⟨vs, v, rfl, he, hb, ho, hk⟩
theorem ResPost.cases {G : Glob} {S : Nat → Prop} {L : Lay} {F : Fr} {r : Res} {w w' : World} {e : Ending} (h : ResPost G S L F r w e w') :
    (∃ st', r = .ok st' ∧ e = .returned (.tuple #[]) ∧ Kept S w w' ∧ In G S L F st' w') ∨ ∃ k c st' ch, r = .halt k c st' ∧ e = .panicked ch ∧ Kept S w w' ∧ HaltCh ch k c ∧ ∃ x', Rep S G.m L x' st' w' := by
  cases r with
  | ok st => exact .inl ⟨st, rfl, h.2.1, h.1, h.2.2⟩
  | halt k c st => obtain ⟨K, ⟨ch, he, hc⟩, R⟩ := h; exact .inr ⟨k, c, st, ch, rfl, he, K, hc, R⟩
theorem CPost.cases {G : Glob} {S : Nat → Prop} {F : Fr} {r : ResC} {w w' : World} {e : Ending} (h : CPost G S (fun _ => False) F r w e w') :
    (∃ st' held out v S' L', r = .ok st' held out ∧ e = .returned v ∧ Kept S w w' ∧ w'.ownsRow 0 3 1 v out.length (nums .i64 out) ∧ (∀ x, x ∈ out → x ≤ 9223372036854775807) ∧ (∀ b, S' b → S b ∨ w.heap.size ≤ b) ∧ In G S' L' { F with held := held } st' w' ∧ ∀ b, v.ownBlock = some b → ¬ S' b) ∨
    ∃ k c st' ch, r = .halt k c st' ∧ e = .panicked ch ∧ Kept S w w' ∧ HaltCh ch k c ∧ ∃ S' L' x', (∀ b, S' b → S b ∨ w.heap.size ≤ b) ∧ Rep S' G.m L' x' st' w' := by
  have K : Kept S w w' := h.1.mono fun b x => x.elim id False.elim
  cases r with
  | ok st held out => obtain ⟨_, v, he, ho, hk, S', L', hs, I, far⟩ := h; exact .inl ⟨st, held, out, v, S', L', rfl, he, K, ho, hk, hs, I, fun b e => (far b e).1⟩
  | halt k c st => obtain ⟨_, ⟨ch, he, hc⟩, R⟩ := h; exact .inr ⟨k, c, st, ch, rfl, he, K, hc, R⟩
theorem BigPost.halt_ch {G : Glob} {S S' : Nat → Prop} {L' : Lay} {F : Fr} {r : Res2} {w w' : World} {st' : St} {k c : Int} {x' : Option Addr} {ch : List PanicEntry} (h : r = .halt k c st') (hc : HaltCh ch k c) (K : Kept (fun b => S b ∨ b = F.hb) w w') (hs : ∀ b, S' b → S b ∨ w.heap.size ≤ b) (R : Rep S' G.m L' x' st' w') :
    BigPost G S F r w (.panicked ch) w' := by subst h; exact ⟨K, ⟨_, rfl, hc⟩, S', L', x', hs, R⟩
theorem ER.go {w : World} {f : FuncId} {args : Array Value} {r : Result Next} (h : r = .ok (.enter f args) w) : ER w f args r := ⟨h⟩
theorem callP_held {X : Runs} {st : St} {held : List Bool} {f : S48} {vs : List Int} {st' : St} {h : List Bool} {out : List Int} (H : callP X st held f vs = .ok st' h out) : h = held := by
  unfold callP at H
  split at H
  · cases H
  · split at H
    · injection H with _ h2 _; exact h2.symm
    · cases H
theorem settleP_drop {st : St} {F : Fr} {ds vs : List Int} {i : Nat} (h1 : i < ds.length) (h2 : i < vs.length) :
    settleP st F (ds.drop i) (vs.drop i) = match setP st F (rd ds (i : Int)) (rd vs (i : Int)) with
      | .ok st' => settleP st' F (ds.drop (i + 1)) (vs.drop (i + 1))
      | .halt k c st' => .halt k c st' := by
  rw [List.drop_eq_getElem_cons h1, List.drop_eq_getElem_cons h2]
  simp only [settleP, rd, List.getD_eq_getElem?_getD, Int.toNat_natCast, List.getElem?_eq_getElem h1, List.getElem?_eq_getElem h2, Option.getD_some] <;> (cases setP st F ds[i] vs[i] <;> rfl)
theorem row_get {w : World} {base : Nat} {v : Value} {xs : List Int} (h : w.ownsRow base 3 1 v xs.length (nums .i64 xs)) (i : Int) (h0 : 0 ≤ i) (h1 : i < xs.length) : ∃ g cap, v = .slice (some ⟨g, 0, none⟩) xs.length cap ∧ w.cell? ⟨g, i.toNat, none⟩ = some (.int .i64 (rd xs i)) := by
  obtain ⟨g, cap, e, _⟩ := h.form (by omega)
  subst e
  exact ⟨g, cap, rfl, (own_at h i h0 h1).1⟩
theorem In.k1 {G : Glob} {S : Nat → Prop} {L : Lay} {F : Fr} {st : St} {w : World} (I : In G S L F st w) {ad : Addr} (eA : G.lA = some ad) : w.cell? ⟨G.m, 1, none⟩ = some (.slice (some ad) G.l.length G.lc) := by
  have := I.rep.c1
  rw [I.lA, I.ln, I.lc, eA] at this
  exact this
set_option maxRecDepth 100000 in
set_option maxHeartbeats 8000000 in
theorem instr_call {G : Glob} {S : Nat → Prop} {L : Lay} {F : Fr} {st : St} {w : World} (I : In G S L F st w) {p : Addr} {s : S40} {A7 A9 A15 A16 A17 : Option Addr} {c7 c9 c15 c16 c17 : Nat} (H : IA G.w0 p s A7 c7 A9 c9 A15 c15 A16 c16 A17 c17) (hop : s.f0 = 15)
    (HG : Kd.C k48 G.w0 G.lA G.l.length G.l) (hlc : G.l.length ≤ G.lc) (hgl : G.l.length < 4611686018427387904) (hk : 0 ≤ findP G.l s.f7) (h8 : s.f9.length ≤ 8) (h10 : s.f10.length ≤ 8) (hargs : ∀ i, i < s.f9.length → OpIn F (rd_T30 s.f9 (i : Int)))
    (hdst : ∀ i : Int, 0 ≤ i → i < s.f10.length → 0 ≤ rd s.f10 i ∧ rd s.f10 i < F.at_.length) {f : S48} (hf : rd_T48 G.l (findP G.l s.f7) = f)
    (hl : f.f1.length < 100000) (hN : st.stack.length + need f.f1 < 1099511627776) (h0 : ∀ k, k ∈ f.f1 → 0 ≤ k) (hvn : ∀ vs, allP st F s.f9 = some vs → vs.length ≤ need f.f1) (hc0 : 0 ≤ st.calls) (hd0 : 0 ≤ st.depth) {X : Runs}
    (B : ∀ q A1 c1 A5 c5 vs, MA G.w0 q f A1 c1 A5 c5 → allP st F s.f9 = some vs → st.calls < 392 → EntersOk G q f st vs X)
    (hout : ∀ vs st' h out, allP st F s.f9 = some vs → callP X st F.held f vs = .ok st' h out → out.length = s.f10.length) :
    Calls Try.prog 103 #[.pointer (some ⟨G.m, 0, none⟩), .pointer (some p)] w (BigPost G S F (icallP X G.l st F s) w) := by
  have hkb : findP G.l s.f7 < G.l.length := by rcases findP_bounds G.l s.f7 with h | h <;> omega
  obtain ⟨ad, A1, c1, A5, c5, eA, hMA⟩ := MA.of HG (findP G.l s.f7) hk hkb
  rw [hf] at hMA
  have II := Aside0.mk I
  have HH := Aside0.mk H
  have HB := Aside0.mk (fun vs => B _ _ _ _ _ vs hMA)
  have HGA := Aside0.mk HG
  have HMA := Aside0.mk hMA
  have OUT := Aside0.mk hout
  have ARGS := Aside0.mk hargs
  have DST := Aside0.mk hdst
  have HVN := Aside0.mk hvn
  have HN0 := Aside0.mk h0
  have q0 := pw_cell_below I.base H.h0
  rw [hop] at q0
  have q11 := pw_cell_below I.base H.h11
  have q16 := pw_cell_below I.base H.h16
  have q17 := pw_cell_below I.base H.h17
  have k1 : w.cell? ⟨G.m, 1, none⟩ = some (.slice (some ad) G.l.length G.lc) := by
    have := I.rep.c1
    rw [I.lA, I.ln, I.lc, eA] at this
    exact this
  have DS := Aside0.mk (Kd.C_below H.g17 I.base)
  generalize hk0 : findP G.l s.f7 = k0 at *
  have HK0 := Aside0.mk hk0
  clear I H hop B HG hMA hout hargs hdst hvn h0 hk0
  go_enter Try.func103, Try.ntmps103
  go_wp2
  refine region_mix [.h 0, .h 1, .h 2, .h 3, .h 4, .h 5, .h 6, .h 7, .h 8, .h 9, .h 10, .h 11, .h 12, .h 15, .h 16, .h 17, .h 18, .h 19, .h 23, .c 13, .h 14, .c 20, .c 21, .h 22]
    (fun w' => w'.cell? ⟨G.m, 1, none⟩ = some (.slice (some ad) G.l.length G.lc) ∧ w'.cell? ⟨p.block, p.off + 11, none⟩ = some (.string s.f7) ∧ w'.cell? ⟨p.block, p.off + 16, none⟩ = some (.slice A16 s.f9.length c16)) (by kernel_rfl) (by kernel_rfl) ⟨k1, q11, q16⟩
    (by intro c a a' w1 hd h; simp +zetaDelta only [Exit.then, Exit.inBlock, bodyPost] at h ⊢; simpa [hd] using h) ?_
  repeat (
    refine mix_h (by rfl) (by rfl) (by rfl) ?_
    apply Exists.intro
    apply And.intro
    · rintro w' ⟨k1, k2, k3⟩
      apply VR.mk
      go_simp
      with_reducible rfl
    simp only [List.setIfInBounds_toArray, List.set_cons_zero, List.set_cons_succ])
  have I0 := Aside0.mk (II.out.drewN 1)
  refine mix_call (by rfl) (by rfl) (by rfl) (ER.go (by go_simp; with_reducible exact ⟨rfl, rfl⟩)) ?_
  refine (PMirFuel.mir_find.calls (G.l.length + 1) (some ad) G.lc G.l s.f7 k0 _ (eA ▸ Kd.C_below HGA.out I0.out.base) hlc (HK0.out ▸ find_f G.l s.f7 hgl)).mono ?_
  rintro e w1 ⟨rfl, hd⟩
  have I1 := Aside0.mk (I0.out.below hd.below)
  have hB1 : Below w.heap.size w w1 := below_then (below_drew (Below.refl _ w)) (Nat.le_refl _) hd.below
  refine .inl ⟨_, rfl, ⟨I1.out.k1 eA, pw_cell_below I1.out.base HH.out.h11, pw_cell_below I1.out.base HH.out.h16⟩, ?_⟩
  simp only [List.setIfInBounds_toArray, List.set_cons_zero, List.set_cons_succ]
  refine mix_h (by rfl) (by rfl) (by rfl) ?_
  apply Exists.intro
  apply And.intro
  · rintro w' ⟨k1, k2, k3⟩
    apply VR.mk
    go_simp
    with_reducible rfl
  simp only [List.setIfInBounds_toArray, List.set_cons_zero, List.set_cons_succ]
  refine mix_call (by rfl) (by rfl) (by rfl) (ER.go (by go_simp; with_reducible exact ⟨rfl, rfl⟩)) ?_
  refine (all_any I1.out A16 c16 s.f9 (Kd.C_below HH.out.g16 I1.out.base) HH.out.l16 h8 ARGS.out _ rfl).mono ?_
  intro e w2 hA
  rcases hA.cases with ⟨hn, rfl, hb⟩ | ⟨vs, v, hv, rfl, hb, ho, hk8⟩
  · refine .inr ⟨_, rfl, rfl, BigPost.halt_ (L := L) (by have e := (hn : allP st F s.f9 = none); unfold icallP; rw [e]) (below_then hB1 hB1.size hb) (I1.out.rep.below hb)⟩
  have HV := Aside0.mk (show allP st F s.f9 = some vs from hv)
  have I2 := Aside0.mk (I1.out.below hb)
  have hB2 := below_then hB1 hB1.size hb
  have AV : ArgsAt S w2 v vs := ⟨⟨ho.1, ho.2.imp id (fun ⟨g, cap, cur, e, h1, h2⟩ => ⟨g, cap, cur, e, Nat.zero_le _, h2⟩)⟩, fun b e hS => by
    have h1 := own_base ho b e
    have h2 := I1.out.lt b hS
    omega, hk8⟩
  refine .inl ⟨v, rfl, ⟨I2.out.k1 eA, pw_cell_below I2.out.base HH.out.h11, pw_cell_below I2.out.base HH.out.h16⟩, ?_⟩
  simp only [List.setIfInBounds_toArray, List.set_cons_zero, List.set_cons_succ]
  refine mix_call (by rfl) (by rfl) (by rfl) (ER.go (by go_simp; with_reducible exact ⟨rfl, rfl⟩)) ?_
  refine (mcall I2.out HMA.out hl hN HN0.out AV (HVN.out vs HV.out) hc0 hd0 (HB.out vs HV.out)).mono ?_
  intro e w3 hC
  rcases hC.cases with ⟨st3, h3, out, v3, S3, L3, hr, rfl, K3, ho3, hk3, hs3, I3, far3⟩ | ⟨k, c, st3, ch, hr, rfl, K3, hc3, S3, L3, x3, hs3, R3⟩
  rotate_left
  · exact .inr ⟨_, rfl, rfl, BigPost.halt_ch (by unfold icallP; rw [HV.out, HK0.out, hf]; show (match callP X st F.held f vs with | .ok st' _ out => (settleP st' F s.f10 out).big F.held | .halt k c st' => .halt k c st') = _; rw [hr]) hc3 (((Kept.of_below hB2).then_ K3).mono fun b h => .inl h) (fun b h => (hs3 b h).imp id (fun x => Nat.le_trans hB2.size x)) R3⟩
  obtain rfl : h3 = F.held := callP_held hr
  obtain ⟨A3, C3, rfl, hle3, _⟩ := own_form ho3
  have hlo' := OUT.out vs _ _ _ HV.out hr
  have hm3 : out.length ≤ 8 := by omega
  have HLO := Aside0.mk hlo'
  clear hlo' h10
  have I3' := Aside0.mk (show In G S3 L3 F st3 w3 from I3)
  have HRES := Aside0.mk (show icallP X G.l st F s = (settleP st3 F s.f10 out).big F.held by unfold icallP; rw [HV.out, HK0.out, hf]; show (match callP X st F.held f vs with | .ok st' _ out => (settleP st' F s.f10 out).big F.held | .halt k c st' => .halt k c st') = _; rw [hr])
  refine .inl ⟨_, rfl, ⟨I3'.out.k1 eA, pw_cell_below I3'.out.base HH.out.h11, pw_cell_below I3'.out.base HH.out.h16⟩, ?_⟩
  have KW := Aside0.mk (((Kept.of_below hB2).then_ K3).mono (S' := fun b => S b ∨ b = F.hb) fun b h => .inl h)
  have HS3 := Aside0.mk (fun b (h : S3 b) => (hs3 b h).imp id (fun x => Nat.le_trans hB2.size x))
  have OW3 := Aside0.mk ho3
  have FAR := Aside0.mk far3
  have HK3 := Aside0.mk hk3
  clear hC hr K3 ho3 hk3 hs3 I3 far3 AV hB2 hb ho hk8 hv hA hB1 hd
  simp only [List.setIfInBounds_toArray, List.set_cons_zero, List.set_cons_succ]
  refine mix_h (by rfl) (by rfl) (by rfl) ?_
  apply Exists.intro
  apply And.intro
  · rintro w' ⟨k1, k2, k3⟩
    apply VR.mk
    go_simp
    with_reducible rfl
  simp only [List.setIfInBounds_toArray, List.set_cons_zero, List.set_cons_succ]
  refine mix_nil ?_
  go_wp2
  go_loopw [6, 7, 182] (fun _ _ v wr => ∃ i : Int, v = .int .i64 i ∧ 0 ≤ i ∧ i ≤ out.length ∧ Aside0 (∃ sti, settleP st3 F s.f10 out = settleP sti F (s.f10.drop i.toNat) (out.drop i.toNat) ∧ In G S3 L3 F sti wr) ∧ Aside0 (Kept (fun b => S b ∨ b = F.hb) w wr) ∧ Aside0 (wr.ownsRow 0 3 1 (.slice A3 out.length C3) out.length (nums .i64 out))) (fun _ _ v _ => out.length - (intOf v).toNat)
  case atStart => exact ⟨0, rfl, by omega, by omega, ⟨st3, by simp, I3'.out⟩, KW, OW3⟩
  case round =>
    obtain ⟨i, rfl, hi0, hi1, ⟨sti, hset, IR0⟩, KR, OR⟩ := hrel
    have HSET := Aside0.mk hset
    have IR := Aside0.mk IR0
    clear hset IR0
    by_cases hlt : i < out.length
    · obtain ⟨a17, e17, hn17⟩ := int_at (Kd.C_below HH.out.g17 IR.out.base) i hi0 (by rw [← HLO.out]; exact hlt)
      obtain ⟨g3, c3, e3, hn3⟩ := row_get OR.out i hi0 hlt
      obtain ⟨rfl, rfl⟩ : A3 = some ⟨g3, 0, none⟩ ∧ C3 = c3 := by injection e3 with e1 _ e2; exact ⟨e1, e2⟩
      have q17' := pw_cell_below IR.out.base HH.out.h17
      rw [e17] at q17'
      have hd17 := DST.out i hi0 (by rw [← HLO.out]; exact hlt)
      have hdr := settleP_drop (st := sti) (F := F) (ds := s.f10) (vs := out) (i := i.toNat) (by rw [← HLO.out]; omega) (by omega)
      rw [show ((i.toNat : Nat) : Int) = i by omega] at hdr
      have HDR := Aside0.mk hdr
      have hle : rd out i ≤ 9223372036854775807 := by
        have h2 : i.toNat < out.length := by omega
        simp only [rd, List.getD_eq_getElem?_getD, List.getElem?_eq_getElem h2, Option.getD_some]
        exact HK3.out _ (List.getElem_mem _)
      have hl17 : i < s.f10.length := by rw [← HLO.out]; exact hlt
      clear hdr
      go_wp2_with (go_at_call 97; refine (mset IR.out (rd s.f10 i) (rd out i) hd17.1 hd17.2 hle).mono ?_; intro e w4 hp; rcases hp.cases with ⟨st4, hr4, rfl, K4, I4⟩ | ⟨k, c, st4, ch, hr4, rfl, K4, hc4, R4⟩)
      · have KR' : Kept (fun b => S b ∨ b = F.hb) w w4 := KR.out.trans (K4.mono fun b h => (HS3.out b h).elim (fun x => .inl (.inl x)) (fun x => .inr ⟨x, IR.out.lt b h⟩))
        have OR' : w4.ownsRow 0 3 1 (.slice (some ⟨g3, 0, none⟩) out.length C3) out.length (nums .i64 out) := Rep.row_of_block OR.out (fun b e => K4.block b ((Rep.has_own OR.out e).elim fun _ h => h.lt) (FAR.out b e))
        have ST' : settleP st3 F s.f10 out = settleP st4 F (s.f10.drop (i + 1).toNat) (out.drop (i + 1).toNat) := by
          rw [HSET.out, HDR.out, hr4, show (i + 1).toNat = i.toNat + 1 by omega]
        clear hp K4
        go_roundw
        case measure => simp [intOf]; omega
        case rel => exact ⟨i + 1, by go_num, by omega, by omega, ⟨st4, ST', I4⟩, ⟨KR'⟩, ⟨OR'⟩⟩
      · have KR' : Kept (fun b => S b ∨ b = F.hb) w w4 := KR.out.trans (K4.mono fun b h => (HS3.out b h).elim (fun x => .inl (.inl x)) (fun x => .inr ⟨x, IR.out.lt b h⟩))
        obtain ⟨x4, R4⟩ := R4
        exact ⟨rfl, BigPost.halt_ch (by rw [HRES.out, HSET.out, HDR.out, hr4]; rfl) hc4 KR' HS3.out R4⟩
    · have hd : decide (i < (out.length : Int)) = false := decide_eq_false hlt
      have hfin : icallP X G.l st F s = .ok sti F.held := by
        have e : out.drop i.toNat = [] := List.drop_of_length_le (by omega)
        rw [HRES.out, HSET.out, e]
        cases s.f10.drop i.toNat <;> rfl
      rw [hfin]
      go_wp2
      exact bodyPost_end (results_none rfl _ _ _) rfl (BigPost.ok_ rfl KR.out HS3.out IR.out)
end Go.Proofs.Ytpphpcmbpbppoaa.Mach
end
