/- Whatever can be read as data of a type that is made of numbers, bools, strings, structs and slices, holds what the print's kind of that type says: the bridge from a row's reading to the walks' words. -/
import Derived.Test.YtocjfdpknfnamaaDoorRows
import Derived.Test.YtocjfdpknfnamaaDoorWWords
import Derived.ProofKit
namespace Go.Proofs.YtocjfdpknfnamaaDoor.Opens
open Go.RowKit Go.Proofs.YtocjfdpknfnamaaDoorW.PrintWords
set_option linter.unusedVariables false

/-- With so much fuel: what reads as data of type t holds what the kind k says, of some value that is ok, and that is no greater than the datum. -/
structure Opens {α : Type} (P : Program) (t : TypeId) (n : Nat) (k : Kd α) (ok : α → Prop) (m : α → Nat) : Prop where
  get : ∀ {H : Type} {enc : TypeId × Value → H} {w : World} {base : Nat} {spare : Nat → Bool} {held : Bool} {cs : List Value} {y : DataW H × List MemPlace},
    DataW.trod enc P w base spare held n t cs = some y → (∀ z ∈ y.1.weights P t, z ≤ reachBytes) → ∃ x, k.K w x cs ∧ ok x ∧ m x ≤ Rows.uptoBulk y.1

theorem of_int {P : Program} {t : TypeId} {κ : IntKind} (ht : P.underlying t = some (.int κ)) (n : Nat) : Opens P t n (Kd.int κ) (fun x => (Lit.int κ x).wf = true) (fun _ => 1) := by
  constructor
  intro H enc w base spare held cs y h _
  obtain ⟨x, rfl, rfl, hw⟩ := DataW.trod_int ht h
  exact ⟨x, rfl, hw, by simp [Rows.uptoBulk]⟩
theorem of_bool {P : Program} {t : TypeId} (ht : P.underlying t = some .bool) (n : Nat) : Opens P t n Kd.bool (fun _ => True) (fun _ => 1) := by
  constructor
  intro H enc w base spare held cs y h _
  obtain ⟨x, rfl, rfl⟩ := DataW.trod_bool ht h
  exact ⟨x, rfl, trivial, by simp [Rows.uptoBulk]⟩
theorem of_string {P : Program} {t : TypeId} (ht : P.underlying t = some .string) (n : Nat) : Opens P t n Kd.string (fun x => x.size ≤ reachBytes) (fun x => x.size + 1) := by
  constructor
  intro H enc w base spare held cs y h hz
  obtain ⟨x, rfl, rfl, hw⟩ := DataW.trod_string ht h
  have := hz x.data.toList.length (by simp [DataW.weights])
  refine ⟨x, rfl, by simpa using this, by simp [Rows.uptoBulk]⟩

theorem choose_list {α : Type} {Q : Nat → α → Prop} : ∀ n, (∀ i, i < n → ∃ x, Q i x) → ∃ xs : List α, xs.length = n ∧ ∀ i x, xs[i]? = some x → Q i x
  | 0, _ => ⟨[], rfl, fun i x h => by simp at h⟩
  | n + 1, h => by
    obtain ⟨xs, hl, hx⟩ := choose_list n (fun i hi => h i (by omega))
    obtain ⟨x, hq⟩ := h n (by omega)
    refine ⟨xs ++ [x], by simp [hl], fun i y hy => ?_⟩
    by_cases hi : i < xs.length
    · rw [List.getElem?_append_left hi] at hy; exact hx i y hy
    · rw [List.getElem?_append_right (by omega)] at hy
      have h0 : i - xs.length = 0 := by
        rcases Nat.eq_zero_or_pos (i - xs.length) with e | e
        · exact e
        · rw [List.getElem?_eq_none (by simp; omega)] at hy; cases hy
      rw [h0] at hy
      have : i = n := by omega
      subst this
      simp at hy; subst hy; exact hq

theorem sum_le {α β : Type} {f : α → Nat} {g : β → Nat} : ∀ {xs : List α} {ys : List β}, xs.length = ys.length → (∀ (i : Nat) (x : α) (y : β), xs[i]? = some x → ys[i]? = some y → f x ≤ g y) → (xs.map f).sum ≤ (ys.map g).sum
  | [], [], _, _ => Nat.le_refl _
  | x :: xs, y :: ys, hl, h => by
    have h0 := h 0 x y rfl rfl
    have h1 := sum_le (f := f) (g := g) (xs := xs) (ys := ys) (by simpa using hl) (fun i a b ha hb => h (i + 1) a b (by simpa using ha) (by simpa using hb))
    simp only [List.map_cons, List.sum_cons]; omega
  | [], _ :: _, hl, _ => by simp at hl
  | _ :: _, [], hl, _ => by simp at hl

theorem bulkAll_sum {H : Type} : ∀ l : List (DataW H), Rows.uptoBulkAll l = (l.map Rows.uptoBulk).sum
  | [] => by simp [Rows.uptoBulkAll]
  | d :: r => by simp [Rows.uptoBulkAll, bulkAll_sum r]

theorem weightsAll_mem {H : Type} {P : Program} {e : TypeId} : ∀ {l : List (DataW H)} {i : Nat} {d : DataW H}, l[i]? = some d → ∀ z ∈ d.weights P e, z ∈ DataW.weightsAll P e l
  | d0 :: r, 0, d, h, z, hz => by
    simp only [List.getElem?_cons_zero, Option.some.injEq] at h
    subst h
    simp only [DataW.weightsAll, List.mem_append]; exact .inl hz
  | d0 :: r, i + 1, d, h, z, hz => by
    simp only [List.getElem?_cons_succ] at h
    simp only [DataW.weightsAll, List.mem_append]; exact .inr (weightsAll_mem h z hz)
  | [], _, _, h, _, _ => by simp at h

theorem of_slice {α : Type} {P : Program} {t e : TypeId} {k : Kd α} {ok : α → Prop} {m : α → Nat} (ht : P.underlying t = some (.slice e)) (hsz : k.sz = P.cellsOf e) {n : Nat} (h : ∀ j, j < n → Opens P e j k ok m) :
    Opens P t n (Kd.slice e k) (fun xs => (∀ x ∈ xs, ok x) ∧ xs.length * P.bytesOf e ≤ reachBytes) (fun xs => (xs.map m).sum + 1) := by
  constructor
  intro H enc w base spare held cs y hy hz
  rcases DataW.trod_slice ht hy with ⟨rfl, rfl⟩ | ⟨a, len, cap, elems, rest, j, rfl, rfl, rfl, hb, hl, hc, he, hel, _, _⟩
  · exact ⟨[], ⟨none, 0, rfl, Nat.le_refl _, Kd.C_nil _ _⟩, ⟨fun x hx => by simp at hx, by simp⟩, by simp [Rows.uptoBulk]⟩
  · simp only [DataW.weights, ht] at hz
    have pick : ∀ i, i < len → ∃ x, ∃ d c, elems[i]? = some d ∧ w.cells? base (a.add (i * P.cellsOf e)) (P.cellsOf e) = some c ∧ k.K w x c ∧ ok x ∧ m x ≤ Rows.uptoBulk d.1 := by
      intro i hi
      have h1 := hel i hi
      rw [List.getElem?_eq_getElem (by omega : i < elems.length)] at h1
      obtain ⟨c, hcells, htr⟩ := Option.bind_eq_some_iff.1 h1
      obtain ⟨x, hK, hok, hm⟩ := (h j (by omega)).get htr (fun z hzz => hz z (by
        refine List.mem_cons_of_mem _ (List.mem_append.2 (.inl ?_))
        exact weightsAll_mem (i := i) (by rw [List.getElem?_map, List.getElem?_eq_getElem (by omega : i < elems.length)]; rfl) z hzz))
      exact ⟨x, elems[i], c, List.getElem?_eq_getElem _, hcells, hK, hok, hm⟩
    obtain ⟨xs, hxl, hx⟩ := choose_list len pick
    refine ⟨xs, ⟨some a, cap, by rw [hxl], by omega, hxl ▸ rfl, by rw [hxl]; unfold maxLen at hc; omega, fun hn => ⟨a, rfl, fun i x hi => ?_⟩⟩, ⟨fun x hx' => ?_, ?_⟩, ?_⟩
    · obtain ⟨d, c, _, hcells, hK, _, _⟩ := hx i x hi
      obtain ⟨_, hcl, hcell⟩ := World.cells?_some hcells
      refine ⟨c, by rw [hcl, hsz], hK, fun q u hq => ?_⟩
      have hlt : q < P.cellsOf e := by
        have := (List.getElem?_eq_some_iff.1 hq).1; omega
      have := hcell q hlt
      rw [hq] at this
      rw [hsz, ← this]
      congr 1
      unfold Addr.add
      by_cases e1 : q = 0 <;> by_cases e2 : i * P.cellsOf e = 0 <;> simp [e1, e2, Nat.add_assoc]
    · obtain ⟨i, hi, rfl⟩ := List.getElem_of_mem hx'
      obtain ⟨d, c, _, _, _, hok, _⟩ := hx i _ (List.getElem?_eq_getElem hi)
      exact hok
    · have h1 := hz _ (List.mem_cons_self ..)
      rw [List.length_map, List.length_map] at h1
      refine Nat.le_trans (Nat.mul_le_mul_right _ ?_) h1
      omega
    · have h1 : (xs.map m).sum ≤ ((elems.map (·.1)).map Rows.uptoBulk).sum := sum_le (by simp [hxl, he]) (fun i x d hxi hdi => by
        obtain ⟨d', c, hd', _, _, _, hm⟩ := hx i x hxi
        rw [List.getElem?_map, hd'] at hdi
        simp at hdi; subst hdi; exact hm)
      rw [← bulkAll_sum] at h1
      simp only [Rows.uptoBulk]; omega

/-- A run of fields, one behind the other, from the cell off on to the struct's last. -/
structure OpensFs {α : Type} (P : Program) (n : Nat) (fs : List Field) (off : Nat) (k : Kd α) (ok : α → Prop) (m : α → Nat) : Prop where
  get : ∀ {H : Type} {enc : TypeId × Value → H} {w : World} {base : Nat} {spare : Nat → Bool} {held : Bool} {cs : List Value} {xs : List (DataW H × List MemPlace)},
    xs.length = fs.length → (∀ (i : Nat) (f : Field), fs[i]? = some f → DataW.trod enc P w base spare held n f.type ((cs.drop f.offset).take (P.cellsOf f.type)) = xs[i]?) → cs.length = off + k.sz →
    (∀ z ∈ DataW.weightsEach P (fs.map (·.type)) (xs.map (·.1)), z ≤ reachBytes) → ∃ x, k.K w x (cs.drop off) ∧ ok x ∧ m x ≤ Rows.uptoBulkAll (xs.map (·.1))

theorem fs_one {α : Type} {P : Program} {n : Nat} {f : Field} {off : Nat} {k : Kd α} {ok : α → Prop} {m : α → Nat} (h : Opens P f.type n k ok m) (ho : f.offset = off) (hsz : P.cellsOf f.type = k.sz) : OpensFs P n [f] off k ok m := by
  constructor
  intro H enc w base spare held cs xs hl hx hc hz
  match xs, hl with
  | [y], _ =>
    have h0 := hx 0 f rfl
    rw [ho, hsz, List.take_of_length_le (by simp; omega)] at h0
    obtain ⟨x, hK, hok, hm⟩ := h.get h0 (fun z hzz => hz z (by simp [DataW.weightsEach, hzz]))
    exact ⟨x, hK, hok, by simp [Rows.uptoBulkAll]; omega⟩

theorem fs_cons {α β : Type} {P : Program} {n : Nat} {f : Field} {fs : List Field} {off : Nat} {k : Kd α} {k' : Kd β} {ok : α → Prop} {ok' : β → Prop} {m : α → Nat} {m' : β → Nat} (h : Opens P f.type n k ok m) (ho : f.offset = off) (hsz : P.cellsOf f.type = k.sz)
    (hr : OpensFs P n fs (off + k.sz) k' ok' m') : OpensFs P n (f :: fs) off (Kd.pair k k') (fun x => ok x.1 ∧ ok' x.2) (fun x => m x.1 + m' x.2) := by
  constructor
  intro H enc w base spare held cs xs hl hx hc hz
  match xs, hl with
  | y :: ys, hl =>
    have h0 := hx 0 f rfl
    rw [ho, hsz] at h0
    have hc' : cs.length = off + (k.sz + k'.sz) := hc
    obtain ⟨x, hK, hok, hm⟩ := h.get h0 (fun z hzz => hz z (by simp [DataW.weightsEach, hzz]))
    obtain ⟨x', hK', hok', hm'⟩ := hr.get (xs := ys) (cs := cs) (by simpa using hl) (fun i g hg => by simpa using hx (i + 1) g (by simpa using hg)) (by omega) (fun z hzz => hz z (by simp [DataW.weightsEach, hzz]))
    refine ⟨(x, x'), ⟨(cs.drop off).take k.sz, cs.drop (off + k.sz), ?_, hK, hK'⟩, ⟨hok, hok'⟩, ?_⟩
    · rw [← List.drop_drop, List.take_append_drop]
    · simp [Rows.uptoBulkAll]; omega

theorem of_struct {α : Type} {P : Program} {t : TypeId} {fs : Array Field} {k : Kd α} {ok : α → Prop} {m : α → Nat} (ht : P.underlying t = some (.struct fs)) (hsz : P.cellsOf t = k.sz) {n : Nat} (h : ∀ j, j < n → OpensFs P j fs.toList 0 k ok m) : Opens P t n k ok (fun x => m x + 1) := by
  constructor
  intro H enc w base spare held cs y hy hz
  obtain ⟨xs, j, rfl, rfl, hl, hxl, hx⟩ := DataW.trod_struct ht hy
  simp only [DataW.weights, ht] at hz
  obtain ⟨x, hK, hok, hm⟩ := (h j (by omega)).get (xs := xs) (cs := cs) (by simpa using hxl) (fun i f hf => hx i f (by simpa using hf)) (by omega) hz
  exact ⟨x, by simpa using hK, hok, by simp only [Rows.uptoBulk]; omega⟩

theorem of_iso {α β : Type} {P : Program} {t : TypeId} {n : Nat} {k : Kd β} {f : α → β} {ok : β → Prop} {m : β → Nat} (g : β → α) (hg : ∀ y, f (g y) = y) (h : Opens P t n k ok m) : Opens P t n (Kd.iso k f) (fun x => ok (f x)) (fun x => m (f x)) := by
  constructor
  intro H enc w base spare held cs y hy hz
  obtain ⟨x, hK, hok, hm⟩ := h.get hy hz
  exact ⟨g x, by show k.K w (f (g x)) cs; rw [hg]; exact hK, by rw [hg]; exact hok, by rw [hg]; exact hm⟩

theorem of_map {α β : Type} {P : Program} {t : TypeId} {n : Nat} {k : Kd β} {k' : Kd α} {ok : β → Prop} {ok' : α → Prop} {m : β → Nat} {m' : α → Nat} (g : β → α) (hK : ∀ w y cs, k.K w y cs → k'.K w (g y) cs) (ho : ∀ y, ok y → ok' (g y)) (hm : ∀ y, m' (g y) ≤ m y) (h : Opens P t n k ok m) : Opens P t n k' ok' m' := by
  constructor
  intro H enc w base spare held cs y hy hz
  obtain ⟨x, hx, hok, hmx⟩ := h.get hy hz
  exact ⟨g x, hK _ _ _ hx, ho x hok, Nat.le_trans (hm x) hmx⟩

theorem imp {α : Type} {P : Program} {t : TypeId} {n : Nat} {k : Kd α} {ok ok' : α → Prop} {m m' : α → Nat} (h : Opens P t n k ok m) (ho : ∀ x, ok x → ok' x) (hm : ∀ x, m' x ≤ m x) : Opens P t n k ok' m' := by
  constructor
  intro H enc w base spare held cs y hy hz
  obtain ⟨x, hK, hok, hmx⟩ := h.get hy hz
  exact ⟨x, hK, ho x hok, Nat.le_trans (hm x) hmx⟩

theorem of_fix {α : Type} {P : Program} {t : TypeId} {n : Nat} {F : Kd α → Kd α} {sz : Nat} {E : List Nat} {hs : ∀ n, (Kd.upto F sz E n).sz = sz} {hE : ∀ n q, q ∈ (Kd.upto F sz E n).E → q ∈ E} {ok : α → Prop} {m : α → Nat} (j : Nat) (h : Opens P t n (Kd.upto F sz E j) ok m) : Opens P t n (Kd.fix F sz E hs hE) ok m := by
  constructor
  intro H enc w base spare held cs y hy hz
  obtain ⟨x, hK, hok, hmx⟩ := h.get hy hz
  exact ⟨x, ⟨j, hK⟩, hok, hmx⟩

theorem of_zero {α : Type} {P : Program} {t : TypeId} {k : Kd α} {ok : α → Prop} {m : α → Nat} : Opens P t 0 k ok m := by
  constructor
  intro H enc w base spare held cs y hy
  simp [DataW.trod] at hy

theorem upto_mono {α : Type} {P : Program} {t : TypeId} {n : Nat} {F : Kd α → Kd α} {sz : Nat} {E : List Nat} {ok : α → Prop} {m : α → Nat} (hm : Kd.Mono F) (hs : ∀ n, (Kd.upto F sz E n).sz = sz) {i j : Nat} (hij : i ≤ j) (h : Opens P t n (Kd.upto F sz E i) ok m) : Opens P t n (Kd.upto F sz E j) ok m := by
  constructor
  intro H enc w base spare held cs y hy hz
  obtain ⟨x, hK, hok, hmx⟩ := h.get hy hz
  exact ⟨x, Kd.upto_K_le hm hs hij hK, hok, hmx⟩

end Go.Proofs.YtocjfdpknfnamaaDoor.Opens
