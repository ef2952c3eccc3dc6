/- Steps toward the laws of the parser (S), merged from several texts (some of them began as the kit's print). No condition. -/
import Derived.Deep.QuietTactic
import Derived.Deep.DeepCutAuto
import Derived.WalkSpells
import Derived.Test.YtngpgdmafmkddaaDoorZS7
section
namespace Go.Proofs.YtngpgdmafmkddaaDoor.Par
open Go.RowKit Go.Proofs.YtngpgdmafmkddaaDoorW.PrintWords Go.Proofs.YtngpgdmafmkddaaDoorW.PrintLast Go.Proofs.YtngpgdmafmkddaaDoorW.PrintMore
open Go.Proofs.YtngpgdmafmkddaaDoor.PParseBlanks (S35 S25 S27 k35 k25 k27 rd_T35 rd_T25 rd_T27 at_T35 at_T25 at_T27)
set_option linter.unusedVariables false
set_option linter.unusedSimpArgs false
structure AllG (S S' : ByteArray) (n : Nat) : Prop where
 climb : ∀ (d : Int) (op : Bool) (least : Int) (l l' : List S35), Sim S S' l l' -> 1 <= least -> 16 * l.length + 6 <= n -> l.length <= 65536 -> GR S S' (Tr S S') l.length (climbP S.size n d op least l) (climbP S'.size n d op least l')
 climbL : ∀ (d : Int) (op : Bool) (least : Int) (x y : S27) (last : Int) (l l' : List S35), Tr S S' x y -> Sim S S' l l' -> 1 <= least -> 16 * l.length + 1 <= n -> l.length <= 65536 -> GR S S' (Tr S S') (l.length + 1) (climbL S.size n d op least x last l) (climbL S'.size n d op least y last l')
 cast : ∀ (d : Int) (op : Bool) (l l' : List S35), Sim S S' l l' -> 16 * l.length + 5 <= n -> l.length <= 65536 -> GR S S' (Tr S S') l.length (castP S.size n d op l) (castP S'.size n d op l')
 castL : ∀ (d : Int) (x y : S27) (l l' : List S35), Tr S S' x y -> Sim S S' l l' -> 16 * l.length + 1 <= n -> l.length <= 65536 -> GR S S' (Tr S S') (l.length + 1) (castL S.size n d x l) (castL S'.size n d y l')
 operand : ∀ (d : Int) (op : Bool) (l l' : List S35), Sim S S' l l' -> 16 * l.length + 4 <= n -> l.length <= 65536 -> GR S S' (Tr S S') l.length (operandP S.size n d op l) (operandP S'.size n d op l')
 behind : ∀ (d : Int) (x y : S27) (l l' : List S35), Tr S S' x y -> Sim S S' l l' -> 16 * l.length + 1 <= n -> l.length <= 65536 -> GR S S' (Tr S S') (l.length + 1) (behindP S.size n d x l) (behindP S'.size n d y l')
 trees : ∀ (d : Int) (stop : ByteArray) (l l' : List S35), Sim S S' l l' -> 16 * l.length + 7 <= n -> l.length <= 65536 -> GR S S' (TrZ S S') l.length (treesP S.size n d stop l) (treesP S'.size n d stop l')
 primary : ∀ (d : Int) (op : Bool) (l l' : List S35), Sim S S' l l' -> 16 * l.length + 3 <= n -> l.length <= 65536 -> GR S S' (Tr S S') l.length (primaryP S.size n d op l) (primaryP S'.size n d op l')
 named : ∀ (d : Int) (op : Bool) (l l' : List S35), Sim S S' l l' -> 16 * l.length + 2 <= n -> l.length <= 65536 -> GR S S' (Tr S S') l.length (namedP S.size n d op l) (namedP S'.size n d op l')
 inits : ∀ (d : Int) (l l' : List S35), Sim S S' l l' -> 16 * l.length + 7 <= n -> l.length <= 65536 -> GR S S' (TrZ S S') l.length (initsP S.size n d l) (initsP S'.size n d l')
 array : ∀ (d a b : Int) (l l' : List S35), InT S a -> InT S' b -> Sim S S' l l' -> 16 * l.length + 7 <= n -> l.length <= 65536 -> GR S S' (Tr S S') l.length (arrayP S.size n d a l) (arrayP S'.size n d b l')
 closed : ∀ (d : Int) (l l' : List S35), Sim S S' l l' -> 16 * l.length + 2 <= n -> l.length <= 65536 -> GR S S' (Tr S S') l.length (closedP S.size n d l) (closedP S'.size n d l')
 arms : ∀ (d : Int) (xs ys : List S27) (l l' : List S35), TrL S S' xs ys -> xs.length <= 1 -> Sim S S' l l' -> 16 * l.length + 7 <= n -> l.length <= 65536 -> GR S S' (TrZ S S') l.length (armsP S.size n d xs l) (armsP S'.size n d ys l')
 block : ∀ (d : Int) (l l' : List S35), Sim S S' l l' -> 16 * l.length + 1 <= n -> l.length <= 65536 -> GR S S' (Tr S S') l.length (blockP S.size n d l) (blockP S'.size n d l')
 blockL : ∀ (d a b : Int) (xs ys : List S27) (l l' : List S35), InT S a -> InT S' b -> TrL S S' xs ys -> Sim S S' l l' -> 16 * l.length + 9 <= n -> l.length <= 65536 -> xs.length + l.length < 1000000 -> GR S S' (Tr S S') l.length (blockL S.size n d a xs l) (blockL S'.size n d b ys l')
 stmt : ∀ (d : Int) (l l' : List S35), Sim S S' l l' -> 16 * l.length + 8 <= n -> l.length <= 65536 -> GR S S' (fun x y => Tr S S' x.1 y.1 /\ x.2 = y.2) l.length (stmtP S.size n d l) (stmtP S'.size n d l')
 lets : ∀ (d a b : Int) (l l' : List S35), InT S a -> InT S' b -> Sim S S' l l' -> 16 * l.length + 7 <= n -> l.length <= 65536 -> GR S S' (Tr S S') l.length (letP S.size n d a l) (letP S'.size n d b l')
 plainly : ∀ (d : Int) (l l' : List S35), Sim S S' l l' -> 16 * l.length + 7 <= n -> l.length <= 65536 -> GR S S' (fun x y => Tr S S' x.1 y.1 /\ x.2 = y.2) l.length (plainlyP S.size n d l) (plainlyP S'.size n d l')
theorem climb_g {S S' : ByteArray} {n : Nat} (hS : S.size <= 65536) (hS' : S'.size <= 65536) (A : AllG S S' n) (d : Int) (op : Bool) (least : Int) (l l' : List S35) (h : Sim S S' l l') (h1 : 1 <= least) (hn : 16 * l.length + 6 <= n + 1) (hl : l.length <= 65536) : GR S S' (Tr S S') l.length (climbP S.size (n + 1) d op least l) (climbP S'.size (n + 1) d op least l') := by
 simp only [climbP]
 refine (A.cast d op l l' h (by omega) hl).then fun x y l1 l1' hx h2 z => ?_
 exact (A.climbL d op least x y 0 l1 l1' hx h2 h1 (by omega) (by omega)).mono (by omega)
theorem climbL_g {S S' : ByteArray} {n : Nat} (hS : S.size <= 65536) (hS' : S'.size <= 65536) (A : AllG S S' n) (d : Int) (op : Bool) (least : Int) (x y : S27) (last : Int) (l l' : List S35) (hx : Tr S S' x y) (h : Sim S S' l l') (h1 : 1 <= least) (hn : 16 * l.length + 1 <= n + 1) (hl : l.length <= 65536) : GR S S' (Tr S S') (l.length + 1) (climbL S.size (n + 1) d op least x last l) (climbL S'.size (n + 1) d op least y last l') := by
 simp only [climbL]
 refine GR.ite (by rw [h.rank]) (fun hr => ?_) (fun _ => GR.ok hx h (Nat.lt_succ_self _))
 refine GR.ite (by rw [h.rank]) (fun _ => GR.bad _ _ _) (fun _ => ?_)
 cases h with
 | nil =>
  have : rankP [] = 0 := rfl
  omega
 | cons t u r q h0 h2 hs ht h =>
  have hrk : rankP (u :: q) = rankP (t :: r) := (Sim.cons t u r q h0 h2 hs ht h).rank
  have hr0 := (rank_le (t :: r)).1
  simp only [List.length_cons] at hn hl ⊢
  rw [hrk]
  refine (A.climb d op (rankP (t :: r) + 1) r q h (by omega) (by omega) (by omega)).then fun p p' l2 l2' hp h3 z3 => ?_
  have hN : Tr S S' (mkE 9 t.f2 0 t.f1 [x, p] []) (mkE 9 u.f2 0 u.f1 [y, p'] []) := by
   rw [<- h2]
   exact Tr.node hs.inT ht.inT (fun _ => ⟨hs, h2 ▸ ht⟩) (TrL.two hx hp)
  exact (A.climbL d op least _ _ _ l2 l2' hN h3 h1 (by omega) (by omega)).mono (by omega)
theorem cast_g {S S' : ByteArray} {n : Nat} (hS : S.size <= 65536) (hS' : S'.size <= 65536) (A : AllG S S' n) (d : Int) (op : Bool) (l l' : List S35) (h : Sim S S' l l') (hn : 16 * l.length + 5 <= n + 1) (hl : l.length <= 65536) : GR S S' (Tr S S') l.length (castP S.size (n + 1) d op l) (castP S'.size (n + 1) d op l') := by
 simp only [castP]
 refine (A.operand d op l l' h (by omega) hl).then fun x y l1 l1' hx h2 z => ?_
 exact (A.castL d x y l1 l1' hx h2 (by omega) (by omega)).mono (by omega)
theorem castL_g {S S' : ByteArray} {n : Nat} (hS : S.size <= 65536) (hS' : S'.size <= 65536) (A : AllG S S' n) (d : Int) (x y : S27) (l l' : List S35) (hx : Tr S S' x y) (h : Sim S S' l l') (hn : 16 * l.length + 1 <= n + 1) (hl : l.length <= 65536) : GR S S' (Tr S S') (l.length + 1) (castL S.size (n + 1) d x l) (castL S'.size (n + 1) d y l') := by
 simp only [castL]
 refine GR.isP h (fun _ h1 z1 => ?_) (fun _ => GR.ok hx h (Nat.lt_succ_self _))
 have ha := h.at_ (by omega) S.size S'.size
 refine (typG hS hS' S.size S'.size n (d + 1) l.tail l'.tail h1 (by omega) (by omega)).then fun t t' l2 l2' ht h2 z2 => ?_
 obtain ⟨rfl, hty⟩ := ht
 exact (A.castL d _ _ l2 l2' (Tr.node ha.1 ha.2 (fun h => absurd h (by decide)) (TrL.one hx) (TyL.one hty)) h2 (by omega) (by omega)).mono (by omega)
theorem operand_g {S S' : ByteArray} {n : Nat} (hS : S.size <= 65536) (hS' : S'.size <= 65536) (A : AllG S S' n) (d : Int) (op : Bool) (l l' : List S35) (h : Sim S S' l l') (hn : 16 * l.length + 4 <= n + 1) (hl : l.length <= 65536) : GR S S' (Tr S S') l.length (operandP S.size (n + 1) d op l) (operandP S'.size (n + 1) d op l') := by
 have ha := fun hp => h.at_ hp S.size S'.size
 simp only [operandP]
 refine GR.ite (by rw [h.kind, h.one]) (fun _ => GR.bad _ _ _) (fun _ => ?_)
 refine GR.ite Iff.rfl (fun _ => GR.bad _ _ _) (fun _ => ?_)
 refine GR.isP h (fun _ h1 z1 => (A.operand (d + 1) op _ _ h1 (by omega) (by omega)).then fun x y l2 l2' hx h2 z2 => GR.ok (Tr.node (ha (by omega)).1 (ha (by omega)).2 (fun h => absurd h (by decide)) (TrL.one hx)) h2 (by omega)) (fun _ => ?_)
 refine GR.isP h (fun _ h1 z1 => (A.operand (d + 1) op _ _ h1 (by omega) (by omega)).then fun x y l2 l2' hx h2 z2 => GR.ok (Tr.node (ha (by omega)).1 (ha (by omega)).2 (fun h => absurd h (by decide)) (TrL.one hx)) h2 (by omega)) (fun _ => ?_)
 refine GR.isP h (fun _ h1 z1 => (A.operand (d + 1) op _ _ h1 (by omega) (by omega)).then fun x y l2 l2' hx h2 z2 => GR.ok (Tr.node (ha (by omega)).1 (ha (by omega)).2 (fun h => absurd h (by decide)) (TrL.one hx)) h2 (by omega)) (fun _ => ?_)
 refine GR.isP h (fun _ h1 z1 => ?_) (fun _ => ?_)
 ·refine GR.isP h1 (fun _ h3 z3 => ?_) (fun _ => ?_)
  ·exact (A.operand (d + 1) op _ _ h3 (by omega) (by omega)).then fun x y l2 l2' hx h2 z2 => GR.ok (Tr.node (ha (by omega)).1 (ha (by omega)).2 (fun h => absurd h (by decide)) (TrL.one hx)) h2 (by omega)
  ·exact (A.operand (d + 1) op _ _ h1 (by omega) (by omega)).then fun x y l2 l2' hx h2 z2 => GR.ok (Tr.node (ha (by omega)).1 (ha (by omega)).2 (fun h => absurd h (by decide)) (TrL.one hx)) h2 (by omega)
 ·refine (A.primary d op l l' h (by omega) hl).then fun x y l2 l2' hx h2 z2 => ?_
  exact (A.behind d x y l2 l2' hx h2 (by omega) (by omega)).mono (by omega)
theorem behind_g {S S' : ByteArray} {n : Nat} (hS : S.size <= 65536) (hS' : S'.size <= 65536) (A : AllG S S' n) (d : Int) (x y : S27) (l l' : List S35) (hx : Tr S S' x y) (h : Sim S S' l l') (hn : 16 * l.length + 1 <= n + 1) (hl : l.length <= 65536) : GR S S' (Tr S S') (l.length + 1) (behindP S.size (n + 1) d x l) (behindP S'.size (n + 1) d y l') := by
 have ha := fun hp => h.at_ hp S.size S'.size
 simp only [behindP]
 refine GR.isP h (fun _ h1 z1 => ?_) (fun _ => ?_)
 ·refine (nameG hS h1 S.size S'.size).then fun s s' l2 l2' hs h2 z2 => ?_
  obtain ⟨rfl, -⟩ := hs
  exact (A.behind d _ _ l2 l2' (Tr.node (ha (by omega)).1 (ha (by omega)).2 (fun h => absurd h (by decide)) (TrL.one hx)) h2 (by omega) (by omega)).mono (by omega)
 refine GR.isP h (fun _ h1 z1 => ?_) (fun _ => GR.ok hx h (Nat.lt_succ_self _))
 refine (A.climb (d + 1) true 1 _ _ h1 (by omega) (by omega) (by omega)).then fun p p' l2 l2' hp h2 z2 => ?_
 refine (needG h2 S.size S'.size sRbra).then fun _ _ l3 l3' _ h3 z3 => ?_
 exact (A.behind d _ _ l3 l3' (Tr.node (ha (by omega)).1 (ha (by omega)).2 (fun h => absurd h (by decide)) (TrL.two hx hp)) h3 (by omega) (by omega)).mono (by omega)
theorem trees_g {S S' : ByteArray} {n : Nat} (hS : S.size <= 65536) (hS' : S'.size <= 65536) (A : AllG S S' n) (d : Int) (stop : ByteArray) (l l' : List S35) (h : Sim S S' l l') (hn : 16 * l.length + 7 <= n + 1) (hl : l.length <= 65536) : GR S S' (TrZ S S') l.length (treesP S.size (n + 1) d stop l) (treesP S'.size (n + 1) d stop l') := by
 simp only [treesP]
 refine listG l.length (fun xs ys m m' hx hz hm hL => ?_) n [] [] l l' TrL.nil h (by omega) (Nat.le_refl _) (by simp; omega)
 rw [if_neg (by omega), if_neg (by rw [<- hx.1]; omega)]
 refine (A.climb (d + 1) true 1 m m' hm (by omega) (by omega) (by omega)).then fun x y l2 l2' hp h2 z2 => ?_
 exact GR.ok ⟨hx.snoc hp hz, by simp⟩ h2 z2
theorem primary_g {S S' : ByteArray} {n : Nat} (hS : S.size <= 65536) (hS' : S'.size <= 65536) (A : AllG S S' n) (d : Int) (op : Bool) (l l' : List S35) (h : Sim S S' l l') (hn : 16 * l.length + 3 <= n + 1) (hl : l.length <= 65536) : GR S S' (Tr S S') l.length (primaryP S.size (n + 1) d op l) (primaryP S'.size (n + 1) d op l') := by
 have ha := fun hp => h.at_ hp S.size S'.size
 simp only [primaryP]
 refine GR.ite (by rw [h.kind]) (fun _ => ?_) (fun _ => ?_)
 ·refine (numberG hS h S.size S'.size).then fun v v' l2 l2' hv h2 z2 => ?_
  subst hv
  exact GR.ok (Tr.node (ha (by omega)).1 (ha (by omega)).2 (fun h => absurd h (by decide)) TrL.nil) h2 (by omega)
 refine GR.isP h (fun _ h1 z1 => GR.ok (Tr.node (ha (by omega)).1 (ha (by omega)).2 (fun h => absurd h (by decide)) TrL.nil) h1 (by omega)) (fun _ => ?_)
 refine GR.isP h (fun _ h1 z1 => GR.ok (Tr.node (ha (by omega)).1 (ha (by omega)).2 (fun h => absurd h (by decide)) TrL.nil) h1 (by omega)) (fun _ => ?_)
 refine GR.isP h (fun _ h1 z1 => ?_) (fun _ => ?_)
 ·refine GR.isP h1 (fun _ h2 z2 => GR.ok (Tr.node (ha (by omega)).1 (ha (by omega)).2 (fun h => absurd h (by decide)) TrL.nil) h2 (by omega)) (fun _ => ?_)
  refine (A.climb (d + 1) true 1 _ _ h1 (by omega) (by omega) (by omega)).then fun x y l2 l2' hp h2 z2 => ?_
  exact GR.isP h2 (fun _ h3 z3 => GR.ok hp h3 (by omega)) (fun _ => GR.bad _ _ _)
 refine GR.isP h (fun _ h1 z1 => ?_) (fun _ => ?_)
 ·exact (A.array d _ _ _ _ (ha (by omega)).1 (ha (by omega)).2 h1 (by omega) (by omega)).mono (by omega)
 refine GR.ite (by rw [h.one]) (fun _ => ?_) (fun _ => ?_)
 ·exact A.closed (d + 1) l l' h (by omega) hl
 ·exact A.named d op l l' h (by omega) hl
theorem named_g {S S' : ByteArray} {n : Nat} (hS : S.size <= 65536) (hS' : S'.size <= 65536) (A : AllG S S' n) (d : Int) (op : Bool) (l l' : List S35) (h : Sim S S' l l') (hn : 16 * l.length + 2 <= n + 1) (hl : l.length <= 65536) : GR S S' (Tr S S') l.length (namedP S.size (n + 1) d op l) (namedP S'.size (n + 1) d op l') := by
 simp only [namedP]
 refine (nameG hS h S.size S'.size).then fun s s' l1 l1' hs h1 z1 => ?_
 obtain ⟨rfl, s1, s2, hz⟩ := hs
 refine GR.isP h1 (fun _ h2 z2 => ?_) (fun _ => ?_)
 ·refine (A.trees d sRpar _ _ h2 (by omega) (by omega)).then fun ks ks' l3 l3' hk h3 z3 => ?_
  exact GR.ok (Tr.node s1.inT s2.inT (fun _ => ⟨s1, s2⟩) hk.1) h3 (by omega)
 refine GR.isP h1 (fun _ h2 z2 => ?_) (fun _ => ?_)
 ·refine (nameG hS h2 S.size S'.size).then fun t t' l3 l3' ht h3 z3 => ?_
  obtain ⟨rfl, -, -, hz2⟩ := ht
  have hzz : ¬ s.size + t.size >= 4611686018427387904 := by omega
  rw [if_neg hzz, if_neg hzz]
  refine GR.isP h3 (fun _ h4 z4 => ?_) (fun _ => GR.ok (Tr.node s1.inT s2.inT (fun h => absurd h (by decide)) TrL.nil) h3 (by omega))
  refine (A.trees d sRpar _ _ h4 (by omega) (by omega)).then fun ks ks' l5 l5' hk h5 z5 => ?_
  exact GR.ok (Tr.node s1.inT s2.inT (fun h => absurd h (by decide)) hk.1) h5 (by omega)
 refine GR.ite (by rw [h1.isP]) (fun hb => ?_) (fun _ => GR.ok (Tr.node s1.inT s2.inT (fun _ => ⟨s1, s2⟩) TrL.nil) h1 (by omega))
 have z2 := Sim.tail_lt hb.2
 refine (A.inits d _ _ h1.tl (by omega) (by omega)).then fun ks ks' l3 l3' hk h3 z3 => ?_
 exact GR.ok (Tr.node s1.inT s2.inT (fun _ => ⟨s1, s2⟩) hk.1) h3 (by omega)
theorem inits_g {S S' : ByteArray} {n : Nat} (hS : S.size <= 65536) (hS' : S'.size <= 65536) (A : AllG S S' n) (d : Int) (l l' : List S35) (h : Sim S S' l l') (hn : 16 * l.length + 7 <= n + 1) (hl : l.length <= 65536) : GR S S' (TrZ S S') l.length (initsP S.size (n + 1) d l) (initsP S'.size (n + 1) d l') := by
 simp only [initsP]
 refine listG l.length (fun xs ys m m' hx hz hm hL => ?_) n [] [] l l' TrL.nil h (by omega) (Nat.le_refl _) (by simp; omega)
 rw [if_neg (by omega), if_neg (by rw [<- hx.1]; omega)]
 refine (nameG hS hm S.size S'.size).then fun s s' l1 l1' hs h1 z1 => ?_
 obtain ⟨rfl, s1, s2, -⟩ := hs
 refine (needG h1 S.size S'.size sColon).then fun _ _ l2 l2' _ h2 z2 => ?_
 refine (A.climb (d + 1) true 1 l2 l2' h2 (by omega) (by omega) (by omega)).then fun x y l3 l3' hp h3 z3 => ?_
 exact GR.ok ⟨hx.snoc (Tr.node s1.inT s2.inT (fun _ => ⟨s1, s2⟩) (TrL.one hp)) hz, by simp⟩ h3 (by omega)
theorem array_g {S S' : ByteArray} {n : Nat} (hS : S.size <= 65536) (hS' : S'.size <= 65536) (A : AllG S S' n) (d a b : Int) (l l' : List S35) (ha : InT S a) (hb : InT S' b) (h : Sim S S' l l') (hn : 16 * l.length + 7 <= n + 1) (hl : l.length <= 65536) : GR S S' (Tr S S') l.length (arrayP S.size (n + 1) d a l) (arrayP S'.size (n + 1) d b l') := by
 simp only [arrayP]
 refine GR.isP h (fun _ h1 z1 => GR.ok (Tr.node ha hb (fun h => absurd h (by decide)) TrL.nil) h1 (by omega)) (fun _ => ?_)
 refine (A.climb (d + 1) true 1 l l' h (by omega) (by omega) (by omega)).then fun x y l1 l1' hx h1 z1 => ?_
 refine GR.isP h1 (fun _ h2 z2 => ?_) (fun _ => ?_)
 ·refine (countG hS h2 S.size S'.size).then fun v v' l3 l3' hv h3 z3 => ?_
  subst hv
  exact GR.isP h3 (fun _ h4 z4 => GR.ok (Tr.node ha hb (fun h => absurd h (by decide)) (TrL.one hx)) h4 (by omega)) (fun _ => GR.bad _ _ _)
 refine GR.isP h1 (fun _ h2 z2 => GR.ok (Tr.node ha hb (fun h => absurd h (by decide)) (TrL.one hx)) h2 (by omega)) (fun _ => ?_)
 refine GR.isP h1 (fun _ h2 z2 => ?_) (fun _ => GR.bad _ _ _)
 have HT := A.trees d sRbra _ _ h2 (by omega) (by omega)
 refine HT.then fun ks ks' l3 l3' hk h3 z3 => ?_
 have hk2 := hk.2
 rw [if_neg (by omega), if_neg (by rw [<- hk.1.1]; omega)]
 exact GR.ok (Tr.node ha hb (fun h => absurd h (by decide)) (hk.1.cons hx hk2)) h3 (by omega)
theorem closed_g {S S' : ByteArray} {n : Nat} (hS : S.size <= 65536) (hS' : S'.size <= 65536) (A : AllG S S' n) (d : Int) (l l' : List S35) (h : Sim S S' l l') (hn : 16 * l.length + 2 <= n + 1) (hl : l.length <= 65536) : GR S S' (Tr S S') l.length (closedP S.size (n + 1) d l) (closedP S'.size (n + 1) d l') := by
 have ha := fun hp => h.at_ hp S.size S'.size
 simp only [closedP]
 refine GR.isP h (fun _ h1 z1 => A.block d l l' h (by omega) hl) (fun _ => ?_)
 refine GR.ite Iff.rfl (fun _ => GR.bad _ _ _) (fun _ => ?_)
 refine GR.isP h (fun _ h1 z1 => ?_) (fun _ => ?_)
 ·refine (A.climb (d + 1) false 1 _ _ h1 (by omega) (by omega) (by omega)).then fun c c' l2 l2' hc h2 z2 => ?_
  refine (A.block (d + 1) l2 l2' h2 (by omega) (by omega)).then fun b b' l3 l3' hb h3 z3 => ?_
  refine GR.isP h3 (fun _ h4 z4 => ?_) (fun _ => GR.ok (Tr.node (ha (by omega)).1 (ha (by omega)).2 (fun h => absurd h (by decide)) (TrL.two hc hb)) h3 (by omega))
  refine GR.ite (by rw [h4.one]) (fun _ => GR.bad _ _ _) (fun _ => ?_)
  refine (A.closed (d + 1) _ _ h4 (by omega) (by omega)).then fun z z' l5 l5' hz h5 z5 => ?_
  exact GR.ok (Tr.node (ha (by omega)).1 (ha (by omega)).2 (fun h => absurd h (by decide)) (TrL.three hc hb hz)) h5 (by omega)
 refine GR.isP h (fun _ h1 z1 => ?_) (fun _ => GR.bad _ _ _)
 refine (A.climb (d + 1) false 1 _ _ h1 (by omega) (by omega) (by omega)).then fun c c' l2 l2' hc h2 z2 => ?_
 refine (needG h2 S.size S'.size sLbrace).then fun _ _ l3 l3' _ h3 z3 => ?_
 refine (A.arms d [c] [c'] l3 l3' (TrL.one hc) (by simp) h3 (by omega) (by omega)).then fun ks ks' l4 l4' hk h4 z4 => ?_
 exact GR.ok (Tr.node (ha (by omega)).1 (ha (by omega)).2 (fun h => absurd h (by decide)) hk.1) h4 (by omega)
theorem arms_g {S S' : ByteArray} {n : Nat} (hS : S.size <= 65536) (hS' : S'.size <= 65536) (A : AllG S S' n) (d : Int) (xs ys : List S27) (l l' : List S35) (hxs : TrL S S' xs ys) (hx1 : xs.length <= 1) (h : Sim S S' l l') (hn : 16 * l.length + 7 <= n + 1) (hl : l.length <= 65536) : GR S S' (TrZ S S') l.length (armsP S.size (n + 1) d xs l) (armsP S'.size (n + 1) d ys l') := by
 simp only [armsP]
 refine listG l.length (fun xs ys m m' hx hz hm hL => ?_) n xs ys l l' hxs h (by omega) (Nat.le_refl _) (by omega)
 rw [if_neg (by omega), if_neg (by rw [<- hx.1]; omega)]
 refine (patG hS S.size S'.size n hm (by omega) (by omega)).then fun p p' l1 l1' hp h1 z1 => ?_
 have ha := hm.at_ (by omega) S.size S'.size
 refine (needG h1 S.size S'.size sArrow).then fun _ _ l2 l2' _ h2 z2 => ?_
 refine (A.climb (d + 1) true 1 l2 l2' h2 (by omega) (by omega) (by omega)).then fun x y l3 l3' hy h3 z3 => ?_
 exact GR.ok ⟨hx.snoc (Tr.node ha.1 ha.2 (fun h => absurd h (by decide)) (TrL.two hp hy)) hz, by simp⟩ h3 (by omega)
theorem block_g {S S' : ByteArray} {n : Nat} (hS : S.size <= 65536) (hS' : S'.size <= 65536) (A : AllG S S' n) (d : Int) (l l' : List S35) (h : Sim S S' l l') (hn : 16 * l.length + 1 <= n + 1) (hl : l.length <= 65536) : GR S S' (Tr S S') l.length (blockP S.size (n + 1) d l) (blockP S'.size (n + 1) d l') := by
 have ha := fun hp => h.at_ hp S.size S'.size
 simp only [blockP]
 refine GR.ite (by rw [h.isP]) (fun _ => GR.bad _ _ _) (fun hi => ?_)
 have z1 := Sim.tail_lt (show isP sLbrace l = true by simpa using hi)
 refine GR.ite Iff.rfl (fun _ => GR.bad _ _ _) (fun _ => ?_)
 exact (A.blockL d _ _ [] [] _ _ (ha (by omega)).1 (ha (by omega)).2 TrL.nil h.tl (by omega) (by omega) (by simp; omega)).mono (by omega)
theorem blockL_g {S S' : ByteArray} {n : Nat} (hS : S.size <= 65536) (hS' : S'.size <= 65536) (A : AllG S S' n) (d a b : Int) (xs ys : List S27) (l l' : List S35) (ha : InT S a) (hb : InT S' b) (hx : TrL S S' xs ys) (h : Sim S S' l l') (hn : 16 * l.length + 9 <= n + 1) (hl : l.length <= 65536) (hz : xs.length + l.length < 1000000) : GR S S' (Tr S S') l.length (blockL S.size (n + 1) d a xs l) (blockL S'.size (n + 1) d b ys l') := by
 simp only [blockL]
 refine GR.isP h (fun _ h1 z1 => GR.ok (Tr.node ha hb (fun h => absurd h (by decide)) hx) h1 (by omega)) (fun _ => ?_)
 rw [if_neg (by omega), if_neg (by rw [<- hx.1]; omega)]
 refine (A.stmt d l l' h (by omega) hl).then fun x y l1 l1' hxy h1 z1 => ?_
 obtain ⟨hxy, hv⟩ := hxy
 refine GR.ite (by rw [hv]) (fun _ => ?_) (fun _ => ?_)
 ·exact GR.isP h1 (fun _ h2 z2 => GR.ok (Tr.node ha hb (fun h => absurd h (by decide)) (hx.snoc hxy (by omega))) h2 (by omega)) (fun _ => GR.bad _ _ _)
 ·exact (A.blockL d a b _ _ l1 l1' ha hb (hx.snoc hxy (by omega)) h1 (by omega) (by omega) (by simp; omega)).mono (by omega)
theorem stmt_g {S S' : ByteArray} {n : Nat} (hS : S.size <= 65536) (hS' : S'.size <= 65536) (A : AllG S S' n) (d : Int) (l l' : List S35) (h : Sim S S' l l') (hn : 16 * l.length + 8 <= n + 1) (hl : l.length <= 65536) : GR S S' (fun x y => Tr S S' x.1 y.1 /\ x.2 = y.2) l.length (stmtP S.size (n + 1) d l) (stmtP S'.size (n + 1) d l') := by
 have ha := fun hp => h.at_ hp S.size S'.size
 simp only [stmtP]
 refine GR.isP h (fun _ h1 z1 => ?_) (fun _ => ?_)
 ·refine (A.lets d _ _ _ _ (ha (by omega)).1 (ha (by omega)).2 h1 (by omega) (by omega)).then fun x y l2 l2' hx h2 z2 => ?_
  exact (needG h2 S.size S'.size sSemi).then fun _ _ l3 l3' _ h3 z3 => GR.ok ⟨hx, rfl⟩ h3 (by omega)
 refine GR.isP h (fun _ h1 z1 => ?_) (fun _ => ?_)
 ·refine (A.climb (d + 1) false 1 _ _ h1 (by omega) (by omega) (by omega)).then fun c c' l2 l2' hc h2 z2 => ?_
  refine (A.block (d + 1) l2 l2' h2 (by omega) (by omega)).then fun b b' l3 l3' hb h3 z3 => ?_
  exact GR.ok ⟨Tr.node (ha (by omega)).1 (ha (by omega)).2 (fun h => absurd h (by decide)) (TrL.two hc hb), rfl⟩ h3 (by omega)
 refine GR.isP h (fun _ h1 z1 => ?_) (fun _ => ?_)
 ·refine (A.block (d + 1) _ _ h1 (by omega) (by omega)).then fun b b' l3 l3' hb h3 z3 => ?_
  exact GR.ok ⟨Tr.node (ha (by omega)).1 (ha (by omega)).2 (fun h => absurd h (by decide)) (TrL.one hb), rfl⟩ h3 (by omega)
 refine GR.isP h (fun _ h1 z1 => ?_) (fun _ => ?_)
 ·exact (needG h1 S.size S'.size sSemi).then fun _ _ l3 l3' _ h3 z3 => GR.ok ⟨Tr.node (ha (by omega)).1 (ha (by omega)).2 (fun h => absurd h (by decide)) TrL.nil, rfl⟩ h3 (by omega)
 refine GR.isP h (fun _ h1 z1 => ?_) (fun _ => ?_)
 ·exact (needG h1 S.size S'.size sSemi).then fun _ _ l3 l3' _ h3 z3 => GR.ok ⟨Tr.node (ha (by omega)).1 (ha (by omega)).2 (fun h => absurd h (by decide)) TrL.nil, rfl⟩ h3 (by omega)
 refine GR.isP h (fun _ h1 z1 => ?_) (fun _ => ?_)
 ·refine GR.isP h1 (fun _ h2 z2 => GR.ok ⟨Tr.node (ha (by omega)).1 (ha (by omega)).2 (fun h => absurd h (by decide)) TrL.nil, rfl⟩ h2 (by omega)) (fun _ => ?_)
  refine (A.climb (d + 1) true 1 _ _ h1 (by omega) (by omega) (by omega)).then fun x y l2 l2' hx h2 z2 => ?_
  exact (needG h2 S.size S'.size sSemi).then fun _ _ l3 l3' _ h3 z3 => GR.ok ⟨Tr.node (ha (by omega)).1 (ha (by omega)).2 (fun h => absurd h (by decide)) (TrL.one hx), rfl⟩ h3 (by omega)
 refine GR.ite (by rw [h.one]) (fun _ => ?_) (fun _ => ?_)
 ·refine (A.closed (d + 1) l l' h (by omega) hl).then fun y y' l1 l1' hy h1 z1 => ?_
  refine GR.isP h1 (fun _ h2 z2 => GR.ok ⟨hy, rfl⟩ h1 z1) (fun _ => ?_)
  have hN : Tr S S' (mkE 35 (atP S.size l) 0 ⟨#[]⟩ [y] []) (mkE 35 (atP S'.size l') 0 ⟨#[]⟩ [y'] []) := Tr.node (ha (by omega)).1 (ha (by omega)).2 (fun h => absurd h (by decide)) (TrL.one hy)
  rw [h1.isP]
  cases hs : isP sSemi l1 with
  | true =>
   rw [if_pos rfl, if_pos rfl]
   have := Sim.tail_lt hs
   exact GR.ok ⟨hN, rfl⟩ h1.tl (by omega)
  | false =>
   rw [if_neg (by decide), if_neg (by decide)]
   exact GR.ok ⟨hN, rfl⟩ h1 z1
 ·exact A.plainly d l l' h (by omega) hl
theorem lets_g {S S' : ByteArray} {n : Nat} (hS : S.size <= 65536) (hS' : S'.size <= 65536) (A : AllG S S' n) (d a b : Int) (l l' : List S35) (ha : InT S a) (hb : InT S' b) (h : Sim S S' l l') (hn : 16 * l.length + 7 <= n + 1) (hl : l.length <= 65536) : GR S S' (Tr S S') l.length (letP S.size (n + 1) d a l) (letP S'.size (n + 1) d b l') := by
 have key : ∀ (m m' : List S35) (v : Int), Sim S S' m m' -> m.length <= l.length -> GR S S' (Tr S S') l.length
   ((nameP S.size m).andThen fun s l1 => if isP sColon l1 = true then (typP S.size n (d + 1) l1.tail).andThen fun t l2 => (needP S.size sEq l2).andThen fun _ l3 => (climbP S.size n (d + 1) true 1 l3).andThen fun x l4 => .ok (mkE 33 a v s [x] [t]) l4
    else (needP S.size sEq l1).andThen fun _ l3 => (climbP S.size n (d + 1) true 1 l3).andThen fun x l4 => .ok (mkE 33 a v s [x] []) l4)
   ((nameP S'.size m').andThen fun s l1 => if isP sColon l1 = true then (typP S'.size n (d + 1) l1.tail).andThen fun t l2 => (needP S'.size sEq l2).andThen fun _ l3 => (climbP S'.size n (d + 1) true 1 l3).andThen fun x l4 => .ok (mkE 33 b v s [x] [t]) l4
    else (needP S'.size sEq l1).andThen fun _ l3 => (climbP S'.size n (d + 1) true 1 l3).andThen fun x l4 => .ok (mkE 33 b v s [x] []) l4) := by
  intro m m' v hm hml
  refine (nameG hS hm S.size S'.size).then fun s s' l1 l1' hs h1 z1 => ?_
  obtain ⟨rfl, -⟩ := hs
  refine GR.isP h1 (fun _ h2 z2 => ?_) (fun _ => ?_)
  ·refine (typG hS hS' S.size S'.size n (d + 1) _ _ h2 (by omega) (by omega)).then fun t t' l3 l3' ht h3 z3 => ?_
   obtain ⟨rfl, hty⟩ := ht
   refine (needG h3 S.size S'.size sEq).then fun _ _ l4 l4' _ h4 z4 => ?_
   refine (A.climb (d + 1) true 1 l4 l4' h4 (by omega) (by omega) (by omega)).then fun x y l5 l5' hx h5 z5 => ?_
   exact GR.ok (Tr.node ha hb (fun h => absurd h (by decide)) (TrL.one hx) (TyL.one hty)) h5 (by omega)
  ·refine (needG h1 S.size S'.size sEq).then fun _ _ l4 l4' _ h4 z4 => ?_
   refine (A.climb (d + 1) true 1 l4 l4' h4 (by omega) (by omega) (by omega)).then fun x y l5 l5' hx h5 z5 => ?_
   exact GR.ok (Tr.node ha hb (fun h => absurd h (by decide)) (TrL.one hx)) h5 (by omega)
 simp only [letP]
 rw [h.isP]
 cases hm : isP sMut l with
 | true =>
  have := Sim.tail_lt hm
  simp only [if_true]
  exact key l.tail l'.tail 1 h.tl (by omega)
 | false =>
  simp only [Bool.false_eq_true, if_false]
  exact key l l' 0 h (Nat.le_refl _)
theorem plainly_g {S S' : ByteArray} {n : Nat} (hS : S.size <= 65536) (hS' : S'.size <= 65536) (A : AllG S S' n) (d : Int) (l l' : List S35) (h : Sim S S' l l') (hn : 16 * l.length + 7 <= n + 1) (hl : l.length <= 65536) : GR S S' (fun x y => Tr S S' x.1 y.1 /\ x.2 = y.2) l.length (plainlyP S.size (n + 1) d l) (plainlyP S'.size (n + 1) d l') := by
 simp only [plainlyP]
 refine (A.climb (d + 1) true 1 l l' h (by omega) (by omega) (by omega)).then fun x y l1 l1' hx h1 z1 => ?_
 have ha := h.at_ (by omega) S.size S'.size
 refine GR.isP h1 (fun _ h2 z2 => ?_) (fun _ => ?_)
 ·have hb := h1.at_ (by omega) S.size S'.size
  refine (A.climb (d + 1) true 1 _ _ h2 (by omega) (by omega) (by omega)).then fun p p' l3 l3' hp h3 z3 => ?_
  exact (needG h3 S.size S'.size sSemi).then fun _ _ l4 l4' _ h4 z4 => GR.ok ⟨Tr.node hb.1 hb.2 (fun h => absurd h (by decide)) (TrL.two hx hp), rfl⟩ h4 (by omega)
 refine GR.isP h1 (fun _ h2 z2 => GR.ok ⟨hx, rfl⟩ h1 z1) (fun _ => ?_)
 exact (needG h1 S.size S'.size sSemi).then fun _ _ l4 l4' _ h4 z4 => GR.ok ⟨Tr.node ha.1 ha.2 (fun h => absurd h (by decide)) (TrL.one hx), rfl⟩ h4 (by omega)
theorem all_g (S S' : ByteArray) (hS : S.size <= 65536) (hS' : S'.size <= 65536) : ∀ n : Nat, AllG S S' n
 | 0 => ⟨by intros; omega, by intros; omega, by intros; omega, by intros; omega, by intros; omega, by intros; omega, by intros; omega, by intros; omega, by intros; omega, by intros; omega, by intros; omega, by intros; omega, by intros; omega, by intros; omega, by intros; omega, by intros; omega, by intros; omega, by intros; omega⟩
 | n + 1 => have A := all_g S S' hS hS' n; ⟨climb_g hS hS' A, climbL_g hS hS' A, cast_g hS hS' A, castL_g hS hS' A, operand_g hS hS' A, behind_g hS hS' A, trees_g hS hS' A, primary_g hS hS' A, named_g hS hS' A, inits_g hS hS' A, array_g hS hS' A, closed_g hS hS' A, arms_g hS hS' A, block_g hS hS' A, blockL_g hS hS' A, stmt_g hS hS' A, lets_g hS hS' A, plainly_g hS hS' A⟩
theorem tree_g {S S' : ByteArray} (hS : S.size <= 65536) (hS' : S'.size <= 65536) {l l' : List S35} (h : Sim S S' l l') (hl : l.length <= 65536) {n : Nat} (hn : 16 * l.length + 6 <= n) : GR S S' (Tr S S') l.length (treeP S.size n l) (treeP S'.size n l') := by
 unfold treeP
 refine ((all_g S S' hS hS' n).climb 0 true 1 l l' h (by omega) hn hl).then fun x y l1 l1' hx h1 z1 => ?_
 exact GR.ite (by rw [h1.kind]) (fun _ => GR.ok hx h1 z1) (fun _ => GR.bad _ _ _)
end Go.Proofs.YtngpgdmafmkddaaDoor.Par
end
section
namespace Go.Proofs.YtngpgdmafmkddaaDoor.Lex
open Go.Proofs.YtngpgdmafmkddaaDoor.Calm Go.Proofs.YtngpgdmafmkddaaDoor.Par Go.RowKit Go.Proofs.YtngpgdmafmkddaaDoorW.PrintWords Go.Proofs.YtngpgdmafmkddaaDoorW.PrintLast Go.Proofs.YtngpgdmafmkddaaDoorW.PrintMore
open Go.Proofs.YtngpgdmafmkddaaDoor.PParseBlanks (S35 S25 S27 k35 k25 k27 rd_T35 rd_T25 rd_T27 at_T35 at_T25 at_T27)
set_option linter.unusedVariables false
set_option linter.unusedSimpArgs false
open Go.Proofs.YtngpgdmafmkddaaDoor.Par
theorem skipN_le : ∀ (k : Nat) (l : List UInt8), skipN k l <= l.length
 | 0, l => by simp [skipN]
 | k + 1, l => by
  unfold skipN
  have h1 := spanL_le (p := isBlank) l
  have h2 := spanL_le (p := notNl) (l.drop (spanL isBlank l))
  have h3 := skipN_le k (l.drop (spanL isBlank l + spanL notNl (l.drop (spanL isBlank l))))
  have h4 := skipN_le k (l.drop (spanL isBlank l))
  simp only [List.length_drop] at h2 h3 h4
  split
  ·omega
  ·split <;> omega
theorem nextN_le (l : List UInt8) : (nextN l).2.1 <= l.length := by
 unfold nextN
 have h1 := spanL_le (p := isPartB) l
 have h2 := sign_le l
 split
 ·split <;> simp <;> omega
 ·split
  ·split <;> simp <;> omega
  ·split
   ·simp
   ·split <;> simp <;> omega
theorem lexN_stands {S : ByteArray} : ∀ (k a : Nat) (l : List UInt8) (p : List UInt8) (ts : List S35), S.data.toList = p ++ l -> p.length = a -> lexN k a l = .ok ts -> (∀ t ∈ ts, Stands S t.f2 t.f1) /\ (ts.map fun t => t.f1.size).sum <= l.length /\ ts.length <= l.length
 | 0, _, _, _, _, _, _, h => by cases h
 | k + 1, a, [], _, ts, _, _, h => by
  simp only [lexN] at h
  injection h with h
  subst h
  simp
 | k + 1, a, b :: r, p, ts, hp, ha, h => by
  simp only [lexN] at h
  split at h
  ·cases h
  ·rename_i hm
   obtain ⟨m, hm2⟩ : ∃ m, (nextN (b :: r)).2.1 = m := ⟨_, rfl⟩
   have hle := nextN_le (b :: r)
   rw [hm2] at h hm hle
   obtain ⟨sk, hsk⟩ : ∃ sk, skipN (((b :: r).drop m).length + 1) ((b :: r).drop m) = sk := ⟨_, rfl⟩
   have hsl := skipN_le (((b :: r).drop m).length + 1) ((b :: r).drop m)
   rw [hsk] at h hsl
   simp only [List.length_drop] at hsl
   cases e : lexN k (a + m + sk) (((b :: r).drop m).drop sk) with
   | error x => rw [e] at h; cases h
   | ok us =>
    rw [e] at h
    injection h with h
    subst h
    have hsplit : S.data.toList = (p ++ (b :: r).take m ++ ((b :: r).drop m).take sk) ++ ((b :: r).drop m).drop sk := by
     rw [hp, List.append_assoc, List.append_assoc, List.take_append_drop, List.take_append_drop]
    have hpl : (p ++ (b :: r).take m ++ ((b :: r).drop m).take sk).length = a + m + sk := by
     simp only [List.length_append, List.length_take, List.length_drop, ha]
     omega
    obtain ⟨h1, h2, h3⟩ := lexN_stands k (a + m + sk) _ _ us hsplit hpl e
    simp only [List.length_drop] at h2 h3
    have hsz : (⟨((b :: r).take m).toArray⟩ : ByteArray).size = m := by
     show ((b :: r).take m).toArray.size = m
     simp only [List.size_toArray, List.length_take]
     omega
    refine ⟨fun t ht => ?_, ?_, ?_⟩
    ·rcases List.mem_cons.1 ht with rfl | ht
     ·refine ⟨p, (b :: r).drop m, ?_, by simp [ha], ?_⟩
      ·rw [hp]; simp
      ·intro hn
       have := congrArg List.length hn
       simp only [List.length_take, List.length_nil] at this
       simp only [List.length_cons] at hle this
       omega
     ·exact h1 t ht
    ·simp only [List.map_cons, List.sum_cons, hsz]
     omega
    ·simp only [List.length_cons] at hle ⊢
     simp only [List.length_cons] at h3
     omega
theorem sim_self {S : ByteArray} : ∀ ts : List S35, (∀ t ∈ ts, Stands S t.f2 t.f1) -> Sim S S ts ts
 | [], _ => .nil
 | t :: r, h => .cons t t r r rfl rfl (h t (List.mem_cons_self ..)) (h t (List.mem_cons_self ..)) (sim_self r fun u hu => h u (List.mem_cons_of_mem _ hu))
theorem lexP_stands {s : ByteArray} {ts : List S35} (h : lexP s = .ok ts) : s.size <= 65536 /\ (∀ t ∈ ts, Stands s t.f2 t.f1) /\ (ts.map fun t => t.f1.size).sum <= s.size /\ ts.length <= s.size := by
 unfold lexP at h
 split at h
 ·cases h
 ·rename_i hz
  have hle := skipN_le (s.size + 1) s.data.toList
  obtain ⟨h1, h2, h3⟩ := lexN_stands (S := s) _ _ _ (s.data.toList.take (skipN (s.size + 1) s.data.toList)) ts (by rw [List.take_append_drop]) (by simp only [List.length_take]; omega) h
  have e : s.data.toList.length = s.size := Array.length_toList
  simp only [List.length_drop] at h2 h3
  exact ⟨by omega, h1, by omega, by omega⟩
theorem lexN_err : ∀ (k a : Nat) (l : List UInt8) (e : Nat × Int), l.length < k -> lexN k a l = .error e -> e.2 ≠ 0
 | 0, _, _, _, hl, _ => by omega
 | k + 1, a, [], _, _, h => by simp only [lexN] at h; cases h
 | k + 1, a, b :: r, e, hl, h => by
  simp only [lexN] at h
  split at h
  ·rename_i hm
   injection h with h
   subst h
   show (nextN (b :: r)).2.2 ≠ 0
   unfold nextN at hm ⊢
   split at hm
   ·rename_i c1
    rw [if_pos c1]
    split at hm
    ·rename_i c2; rw [if_pos c2]; decide
    ·rename_i c2; exact absurd hm c2
   ·rename_i c1
    rw [if_neg c1]
    split at hm
    ·rename_i c2
     rw [if_pos c2]
     split at hm
     ·exact absurd hm c1
     ·rename_i c3; rw [if_neg c3]; exact c3
    ·rename_i c2
     rw [if_neg c2]
     split at hm
     ·rename_i c3; rw [if_pos c3]; decide
     ·split at hm <;> exact absurd hm c1
  ·rename_i hm
   have hl2 : (((b :: r).drop (nextN (b :: r)).2.1).drop (skipN (((b :: r).drop (nextN (b :: r)).2.1).length + 1) ((b :: r).drop (nextN (b :: r)).2.1))).length < k := by
    simp only [List.length_drop, List.length_cons] at hl ⊢
    omega
   split at h
   ·rename_i e' he
    injection h with h
    subst h
    exact lexN_err k _ _ _ hl2 he
   ·cases h
theorem lexP_err {s : ByteArray} {e : Nat × Int} (h : lexP s = .error e) : e.2 ≠ 0 := by
 unfold lexP at h
 split at h
 ·injection h with h
  subst h
  decide
 ·have el : s.data.toList.length = s.size := Array.length_toList
  exact lexN_err _ _ _ _ (by simp only [List.length_drop]; omega) h
end Go.Proofs.YtngpgdmafmkddaaDoor.Lex
end
section
namespace Go.Proofs.YtngpgdmafmkddaaDoor.Lex
open Go.Proofs.YtngpgdmafmkddaaDoor.Calm Go.Proofs.YtngpgdmafmkddaaDoor.Par Go.RowKit Go.Proofs.YtngpgdmafmkddaaDoorW.PrintWords Go.Proofs.YtngpgdmafmkddaaDoorW.PrintLast Go.Proofs.YtngpgdmafmkddaaDoorW.PrintMore
open Go.Proofs.YtngpgdmafmkddaaDoor.PParseBlanks (S35 S25 S27 k35 k25 k27 rd_T35 rd_T25 rd_T27 at_T35 at_T25 at_T27)
set_option linter.unusedVariables false
set_option linter.unusedSimpArgs false
open Go.Proofs.YtngpgdmafmkddaaDoor.PParseBlanks (rd_T27 z27 at_T27)
theorem rd27 {xs : List S27} {i : Nat} (h : i < xs.length) : xs[i]? = some (rd_T27 xs (i : Int)) := by
 unfold rd_T27
 rw [List.getD_eq_getElem?_getD]
 simp only [Int.toNat_natCast]
 rw [List.getElem?_eq_getElem h]
 rfl
theorem stands_ext {S x : ByteArray} {a : Int} (h : Stands S a x) : S.extract a.toNat (a + (x.size : Int)).toNat = x := by
 have hs := h.size
 obtain ⟨p, q, h1, h2, h3⟩ := h
 have e : (a + (x.size : Int)).toNat = a.toNat + x.size := by omega
 rw [e, ext_take S a.toNat x.size (by omega)]
 have hp : a.toNat = p.length := by omega
 have hf : fromN S a.toNat = x.data.toList ++ q := by
  show S.data.toList.drop a.toNat = _
  rw [h1, hp, List.drop_left]
 rw [hf]
 have hl : x.size = x.data.toList.length := Array.length_toList.symm
 rw [hl, List.take_left]
set_option maxRecDepth 100000 in
set_option maxHeartbeats 4000000 in
theorem spots_said {S S' : ByteArray} (hS : S.size <= 65536) {x y : S27} (h : Tr S S' x y) : ∀ (w : World) (A4 A5 A9 : Option Addr) (c4 c5 c9 : Nat), Kd.C k27 w A4 x.f4.length x.f4 -> x.f4.length <= c4 ->
  Calls Tryd.prog 12 #[.string S, .agg #[.int .i64 x.f0, .int .i64 x.f1, .int .i64 x.f2, .string x.f3, .slice A4 x.f4.length c4, .slice A5 x.f5.length c5, .int .i64 x.f6.f0, .string x.f6.f1, .int .i64 x.f6.f2, .slice A9 x.f6.f3.length c9]] w fun e w' => e = .returned (.int .i64 0) /\ Below w.heap.size w w' := by
 induction h with
 | mk x y h0 h2 h3 h5 h6 ha hb hn hl hz hy h7 hk ih =>
  intro w A4 A5 A9 c4 c5 c9 hC hc4
  have IH := am ih
  have HL := am hl
  have HZ := am hz
  have HC := am hC
  have hu27 := Tryd.underlying27
  have hNM := am hn
  have B0 := am (below_alloc (Below.refl w.heap.size w) (Obj.cells #[.int .i64 x.f0, .int .i64 x.f1, .int .i64 x.f2, .string x.f3, .slice A4 x.f4.length c4, .slice A5 x.f5.length c5, .int .i64 x.f6.f0, .string x.f6.f1, .int .i64 x.f6.f2, .slice A9 x.f6.f3.length c9] 27))
  have HX := am (Has.new w #[.int .i64 x.f0, .int .i64 x.f1, .int .i64 x.f2, .string x.f3, .slice A4 x.f4.length c4, .slice A5 x.f5.length c5, .int .i64 x.f6.f0, .string x.f6.f1, .int .i64 x.f6.f2, .slice A9 x.f6.f3.length c9] 27)
  have p0 := HX.out.cell 0
  have p1 := HX.out.cell 1
  have p3 := HX.out.cell 3
  have p4 := HX.out.cell 4
  simp only [List.getElem?_toArray, List.getElem?_cons_zero, List.getElem?_cons_succ] at p0 p1 p3 p4
  have a1 : ¬ x.f1 < 0 := by have := ha.1; omega
  have a2 : ¬ x.f1 >= (S.size : Int) := by have := ha.2; omega
  have d1 : decide (x.f1 < 0) = false := decide_eq_false a1
  have d2 : decide (x.f1 >= (S.size : Int)) = false := decide_eq_false a2
  clear ih hl hz hC h0 h2 h3 h5 h6 ha hb hn hk hy h7
  go_enter Tryd.func12, Tryd.ntmps12
  go_upto_region 3 with fail
  go_cut [64] (fun v64 wc => v64 = .bool false /\ Aside0 (Below w.heap.size w wc) /\ Aside0 (Has wc w.heap.size #[.int .i64 x.f0, .int .i64 x.f1, .int .i64 x.f2, .string x.f3, .slice A4 x.f4.length c4, .slice A5 x.f5.length c5, .int .i64 x.f6.f0, .string x.f6.f1, .int .i64 x.f6.f2, .slice A9 x.f6.f3.length c9] 27))
  case first =>
   have hD := below_drew (Below.refl (w.alloc (Obj.cells #[.int .i64 x.f0, .int .i64 x.f1, .int .i64 x.f2, .string x.f3, .slice A4 x.f4.length c4, .slice A5 x.f5.length c5, .int .i64 x.f6.f0, .string x.f6.f1, .int .i64 x.f6.f2, .slice A9 x.f6.f3.length c9] 27)).heap.size (w.alloc (Obj.cells #[.int .i64 x.f0, .int .i64 x.f1, .int .i64 x.f2, .string x.f3, .slice A4 x.f4.length c4, .slice A5 x.f5.length c5, .int .i64 x.f6.f0, .string x.f6.f1, .int .i64 x.f6.f2, .slice A9 x.f6.f3.length c9] 27)))
   have HXD := am (HX.out.belowS hD)
   have hbd := am (below_then B0.out B0.out.size hD)
   cases hnm : nam x.f0 with
   | true =>
    have hs := hNM.out hnm
    have hs1 := hs.1.size
    have hw : wrap64 (x.f1 + (x.f3.size : Int)) = x.f1 + (x.f3.size : Int) := by unfold wrap64; omega
    have c1 : ¬ x.f1 + (x.f3.size : Int) > (S.size : Int) := by omega
    have c2 : 0 <= x.f1 := hs1.1
    have c3 : x.f1 <= x.f1 + (x.f3.size : Int) := by omega
    have c4' : x.f1 + (x.f3.size : Int) <= (S.size : Int) := by omega
    have e1 : decide (x.f1 + (x.f3.size : Int) > (S.size : Int)) = false := decide_eq_false c1
    have e2 : ((S.extract x.f1.toNat (x.f1 + (x.f3.size : Int)).toNat).toList != x.f3.toList) = false := by rw [stands_ext hs.1]; simp
    have e3 : ((S.extract x.f1.toNat (x.f1 + (x.f3.size : Int)).toNat).toList == x.f3.toList) = true := by rw [stands_ext hs.1]; simp
    have hx5 : x.f0 = 4 \/ x.f0 = 11 \/ x.f0 = 15 \/ x.f0 = 14 \/ x.f0 = 9 := by
     simp only [nam, Bool.or_eq_true, beq_iff_eq] at hnm
     omega
    clear hs hnm
    rcases hx5 with hk | hk | hk | hk | hk
    ·have hk4 : (x.f0 == 4) = true := by rw [hk]; rfl
     have hk11 : (x.f0 == 11) = false := by rw [hk]; rfl
     have hk15 : (x.f0 == 15) = false := by rw [hk]; rfl
     have hk14 : (x.f0 == 14) = false := by rw [hk]; rfl
     have hk9 : (x.f0 == 9) = false := by rw [hk]; rfl
     clear hk
     go_quiet (fail)
     have hNX := am ((Has.new w #[.int .i64 x.f0, .int .i64 x.f1, .int .i64 x.f2, .string x.f3, .slice A4 x.f4.length c4, .slice A5 x.f5.length c5, .int .i64 x.f6.f0, .string x.f6.f1, .int .i64 x.f6.f2, .slice A9 x.f6.f3.length c9] 27).drewN nq)
     have hNB : Aside0 (Below w.heap.size w ((w.alloc (Obj.cells #[.int .i64 x.f0, .int .i64 x.f1, .int .i64 x.f2, .string x.f3, .slice A4 x.f4.length c4, .slice A5 x.f5.length c5, .int .i64 x.f6.f0, .string x.f6.f1, .int .i64 x.f6.f2, .slice A9 x.f6.f3.length c9] 27)).drewN nq)) := ⟨(below_alloc (Below.refl w.heap.size w) (Obj.cells #[.int .i64 x.f0, .int .i64 x.f1, .int .i64 x.f2, .string x.f3, .slice A4 x.f4.length c4, .slice A5 x.f5.length c5, .int .i64 x.f6.f0, .string x.f6.f1, .int .i64 x.f6.f2, .slice A9 x.f6.f3.length c9] 27)).trans ⟨rfl, rfl, rfl, Nat.le_refl _, fun _ _ => rfl⟩⟩
     go_wp2
     go_meet
     case rel => exact ⟨by first | rfl | (rw [e3]; rfl), hNB, hNX⟩
    ·have hk4 : (x.f0 == 4) = false := by rw [hk]; rfl
     have hk11 : (x.f0 == 11) = true := by rw [hk]; rfl
     have hk15 : (x.f0 == 15) = false := by rw [hk]; rfl
     have hk14 : (x.f0 == 14) = false := by rw [hk]; rfl
     have hk9 : (x.f0 == 9) = false := by rw [hk]; rfl
     clear hk
     go_quiet (fail)
     have hNX := am ((Has.new w #[.int .i64 x.f0, .int .i64 x.f1, .int .i64 x.f2, .string x.f3, .slice A4 x.f4.length c4, .slice A5 x.f5.length c5, .int .i64 x.f6.f0, .string x.f6.f1, .int .i64 x.f6.f2, .slice A9 x.f6.f3.length c9] 27).drewN nq)
     have hNB : Aside0 (Below w.heap.size w ((w.alloc (Obj.cells #[.int .i64 x.f0, .int .i64 x.f1, .int .i64 x.f2, .string x.f3, .slice A4 x.f4.length c4, .slice A5 x.f5.length c5, .int .i64 x.f6.f0, .string x.f6.f1, .int .i64 x.f6.f2, .slice A9 x.f6.f3.length c9] 27)).drewN nq)) := ⟨(below_alloc (Below.refl w.heap.size w) (Obj.cells #[.int .i64 x.f0, .int .i64 x.f1, .int .i64 x.f2, .string x.f3, .slice A4 x.f4.length c4, .slice A5 x.f5.length c5, .int .i64 x.f6.f0, .string x.f6.f1, .int .i64 x.f6.f2, .slice A9 x.f6.f3.length c9] 27)).trans ⟨rfl, rfl, rfl, Nat.le_refl _, fun _ _ => rfl⟩⟩
     go_wp2
     go_meet
     case rel => exact ⟨by first | rfl | (rw [e3]; rfl), hNB, hNX⟩
    ·have hk4 : (x.f0 == 4) = false := by rw [hk]; rfl
     have hk11 : (x.f0 == 11) = false := by rw [hk]; rfl
     have hk15 : (x.f0 == 15) = true := by rw [hk]; rfl
     have hk14 : (x.f0 == 14) = false := by rw [hk]; rfl
     have hk9 : (x.f0 == 9) = false := by rw [hk]; rfl
     clear hk
     go_quiet (fail)
     have hNX := am ((Has.new w #[.int .i64 x.f0, .int .i64 x.f1, .int .i64 x.f2, .string x.f3, .slice A4 x.f4.length c4, .slice A5 x.f5.length c5, .int .i64 x.f6.f0, .string x.f6.f1, .int .i64 x.f6.f2, .slice A9 x.f6.f3.length c9] 27).drewN nq)
     have hNB : Aside0 (Below w.heap.size w ((w.alloc (Obj.cells #[.int .i64 x.f0, .int .i64 x.f1, .int .i64 x.f2, .string x.f3, .slice A4 x.f4.length c4, .slice A5 x.f5.length c5, .int .i64 x.f6.f0, .string x.f6.f1, .int .i64 x.f6.f2, .slice A9 x.f6.f3.length c9] 27)).drewN nq)) := ⟨(below_alloc (Below.refl w.heap.size w) (Obj.cells #[.int .i64 x.f0, .int .i64 x.f1, .int .i64 x.f2, .string x.f3, .slice A4 x.f4.length c4, .slice A5 x.f5.length c5, .int .i64 x.f6.f0, .string x.f6.f1, .int .i64 x.f6.f2, .slice A9 x.f6.f3.length c9] 27)).trans ⟨rfl, rfl, rfl, Nat.le_refl _, fun _ _ => rfl⟩⟩
     go_wp2
     go_meet
     case rel => exact ⟨by first | rfl | (rw [e3]; rfl), hNB, hNX⟩
    ·have hk4 : (x.f0 == 4) = false := by rw [hk]; rfl
     have hk11 : (x.f0 == 11) = false := by rw [hk]; rfl
     have hk15 : (x.f0 == 15) = false := by rw [hk]; rfl
     have hk14 : (x.f0 == 14) = true := by rw [hk]; rfl
     have hk9 : (x.f0 == 9) = false := by rw [hk]; rfl
     clear hk
     go_quiet (fail)
     have hNX := am ((Has.new w #[.int .i64 x.f0, .int .i64 x.f1, .int .i64 x.f2, .string x.f3, .slice A4 x.f4.length c4, .slice A5 x.f5.length c5, .int .i64 x.f6.f0, .string x.f6.f1, .int .i64 x.f6.f2, .slice A9 x.f6.f3.length c9] 27).drewN nq)
     have hNB : Aside0 (Below w.heap.size w ((w.alloc (Obj.cells #[.int .i64 x.f0, .int .i64 x.f1, .int .i64 x.f2, .string x.f3, .slice A4 x.f4.length c4, .slice A5 x.f5.length c5, .int .i64 x.f6.f0, .string x.f6.f1, .int .i64 x.f6.f2, .slice A9 x.f6.f3.length c9] 27)).drewN nq)) := ⟨(below_alloc (Below.refl w.heap.size w) (Obj.cells #[.int .i64 x.f0, .int .i64 x.f1, .int .i64 x.f2, .string x.f3, .slice A4 x.f4.length c4, .slice A5 x.f5.length c5, .int .i64 x.f6.f0, .string x.f6.f1, .int .i64 x.f6.f2, .slice A9 x.f6.f3.length c9] 27)).trans ⟨rfl, rfl, rfl, Nat.le_refl _, fun _ _ => rfl⟩⟩
     go_wp2
     go_meet
     case rel => exact ⟨by first | rfl | (rw [e3]; rfl), hNB, hNX⟩
    ·have hk4 : (x.f0 == 4) = false := by rw [hk]; rfl
     have hk11 : (x.f0 == 11) = false := by rw [hk]; rfl
     have hk15 : (x.f0 == 15) = false := by rw [hk]; rfl
     have hk14 : (x.f0 == 14) = false := by rw [hk]; rfl
     have hk9 : (x.f0 == 9) = true := by rw [hk]; rfl
     clear hk
     go_quiet (fail)
     have hNX := am ((Has.new w #[.int .i64 x.f0, .int .i64 x.f1, .int .i64 x.f2, .string x.f3, .slice A4 x.f4.length c4, .slice A5 x.f5.length c5, .int .i64 x.f6.f0, .string x.f6.f1, .int .i64 x.f6.f2, .slice A9 x.f6.f3.length c9] 27).drewN nq)
     have hNB : Aside0 (Below w.heap.size w ((w.alloc (Obj.cells #[.int .i64 x.f0, .int .i64 x.f1, .int .i64 x.f2, .string x.f3, .slice A4 x.f4.length c4, .slice A5 x.f5.length c5, .int .i64 x.f6.f0, .string x.f6.f1, .int .i64 x.f6.f2, .slice A9 x.f6.f3.length c9] 27)).drewN nq)) := ⟨(below_alloc (Below.refl w.heap.size w) (Obj.cells #[.int .i64 x.f0, .int .i64 x.f1, .int .i64 x.f2, .string x.f3, .slice A4 x.f4.length c4, .slice A5 x.f5.length c5, .int .i64 x.f6.f0, .string x.f6.f1, .int .i64 x.f6.f2, .slice A9 x.f6.f3.length c9] 27)).trans ⟨rfl, rfl, rfl, Nat.le_refl _, fun _ _ => rfl⟩⟩
     go_wp2
     go_meet
     case rel => exact ⟨by first | rfl | (rw [e3]; rfl), hNB, hNX⟩
   | false =>
    have hx5 : ¬ x.f0 = 4 /\ ¬ x.f0 = 11 /\ ¬ x.f0 = 15 /\ ¬ x.f0 = 14 /\ ¬ x.f0 = 9 := by
     simp only [nam, Bool.or_eq_false_iff, beq_eq_false_iff_ne, ne_eq] at hnm
     omega
    have hk4 : (x.f0 == 4) = false := by simpa using hx5.1
    have hk11 : (x.f0 == 11) = false := by simpa using hx5.2.1
    have hk15 : (x.f0 == 15) = false := by simpa using hx5.2.2.1
    have hk14 : (x.f0 == 14) = false := by simpa using hx5.2.2.2.1
    have hk9 : (x.f0 == 9) = false := by simpa using hx5.2.2.2.2
    clear hx5 hnm
    go_quiet (fail)
    have hNX := am ((Has.new w #[.int .i64 x.f0, .int .i64 x.f1, .int .i64 x.f2, .string x.f3, .slice A4 x.f4.length c4, .slice A5 x.f5.length c5, .int .i64 x.f6.f0, .string x.f6.f1, .int .i64 x.f6.f2, .slice A9 x.f6.f3.length c9] 27).drewN nq)
    have hNB : Aside0 (Below w.heap.size w ((w.alloc (Obj.cells #[.int .i64 x.f0, .int .i64 x.f1, .int .i64 x.f2, .string x.f3, .slice A4 x.f4.length c4, .slice A5 x.f5.length c5, .int .i64 x.f6.f0, .string x.f6.f1, .int .i64 x.f6.f2, .slice A9 x.f6.f3.length c9] 27)).drewN nq)) := ⟨(below_alloc (Below.refl w.heap.size w) (Obj.cells #[.int .i64 x.f0, .int .i64 x.f1, .int .i64 x.f2, .string x.f3, .slice A4 x.f4.length c4, .slice A5 x.f5.length c5, .int .i64 x.f6.f0, .string x.f6.f1, .int .i64 x.f6.f2, .slice A9 x.f6.f3.length c9] 27)).trans ⟨rfl, rfl, rfl, Nat.le_refl _, fun _ _ => rfl⟩⟩
    go_wp2
    go_meet
    case rel => exact ⟨by first | rfl | (rw [e3]; rfl), hNB, hNX⟩
  case rest =>
   clear B0 HX p0 p1 p3 p4
   obtain ⟨rfl, HB, HX⟩ := hcut
   go_wp2_with fail
   go_loopw [5] (fun v5 wr => ∃ i : Nat, v5 = .int .i64 (i : Int) /\ i <= x.f4.length /\ Aside0 (Below w.heap.size w wr) /\ Aside0 (Has wr w.heap.size #[.int .i64 x.f0, .int .i64 x.f1, .int .i64 x.f2, .string x.f3, .slice A4 x.f4.length c4, .slice A5 x.f5.length c5, .int .i64 x.f6.f0, .string x.f6.f1, .int .i64 x.f6.f2, .slice A9 x.f6.f3.length c9] 27)) (fun v5 _ => x.f4.length - (intOf v5).toNat)
   case atStart => exact ⟨0, rfl, Nat.zero_le _, HB, HX⟩
   case round =>
    clear HB HX
    obtain ⟨i, rfl, hi, HB, HX⟩ := hrel
    have p4 := hci HX.out 4 rfl
    by_cases hlt : i < x.f4.length
    ·have hz9 := HZ.out
     have hlt2 : (i : Int) < (x.f4.length : Int) := by omega
     have k1 : decide ((i : Int) < (x.f4.length : Int)) = true := decide_eq_true hlt2
     have hi0 : (0 : Int) <= (i : Int) := by omega
     have hwr : IntKind.i64.wrap ((i : Int) + 1) = ((i + 1 : Nat) : Int) := by rw [IntWalk.i64_in _ (by omega)]; omega
     have hCb := Kd.C_below HC.out HB.out
     obtain ⟨ad, B4, d4, B5, d5, B9, d9, eA, q0, q1, q2, q3, q4, q5, q6, q7, q8, q9, l4, g4, -⟩ := at_T27 hCb (i : Int) hi0 hlt2
     obtain ⟨v, hv⟩ : ∃ v, y.f4[i]? = some v := ⟨y.f4[i]'(by have := HL.out; omega), List.getElem?_eq_getElem _⟩
     have IHi := am (IH.out i _ v (rd27 hlt) hv wr B4 B5 B9 d4 d5 d9 g4 l4)
     subst eA
     simp only [Int.toNat_natCast] at q0 q1 q2 q3 q4 q5 q6 q7 q8 q9
     clear hCb hv g4 l4
     go_wp2_with (
      go_at_call 12
      (with_reducible refine Calls.mono IHi.out ?_)
      go_must (
       rintro en w2 ⟨rfl, hb2⟩
       replace HX := am (HX.out.belowS hb2)
       replace HB := am (below_then HB.out HB.out.size hb2)))
     go_roundw
     case rel => exact ⟨i + 1, by simp, by omega, HB, HX⟩
     case measure => first | omega | (simp; omega) | (simp only [intOf]; omega) | (simp [intOf]; omega)
    ·have k1 : decide ((i : Int) < (x.f4.length : Int)) = false := decide_eq_false (by omega)
     have k2 : ¬ (i : Int) < (x.f4.length : Int) := by omega
     go_wp2
     go_ret
     exact ⟨rfl, HB.out⟩
end Go.Proofs.YtngpgdmafmkddaaDoor.Lex
end
section
namespace Go.Proofs.YtngpgdmafmkddaaDoor.Tre
open Go.Proofs.YtngpgdmafmkddaaDoor.Lex Go.Proofs.YtngpgdmafmkddaaDoor.Calm Go.Proofs.YtngpgdmafmkddaaDoor.Par Go.RowKit Go.Proofs.YtngpgdmafmkddaaDoorW.PrintWords Go.Proofs.YtngpgdmafmkddaaDoorW.PrintLast Go.Proofs.YtngpgdmafmkddaaDoorW.PrintMore
open Go.Proofs.YtngpgdmafmkddaaDoor.PParseBlanks (S35 S25 S27 k35 k25 k27 rd_T35 rd_T25 rd_T27 at_T35 at_T25 at_T27)
set_option linter.unusedVariables false
set_option linter.unusedSimpArgs false
open Go.Proofs.YtngpgdmafmkddaaDoor.PParseBlanks (rd_T27 at_T27)
theorem tree_knownL {s : ByteArray} {n : Nat} {x : S27} {a e : Int} (hx : treeX s n = some (x, a, e)) (w : World) (HT : Tab w) : Calls Tryd.prog 8 #[.string s] w fun en w' => ∃ a4 ac4 a5 ac5 a9 ac9, en = .returned (.tuple #[.agg #[.int .i64 x.f0, .int .i64 x.f1, .int .i64 x.f2, .string x.f3, .slice a4 x.f4.length ac4, .slice a5 x.f5.length ac5, .int .i64 x.f6.f0, .string x.f6.f1, .int .i64 x.f6.f2, .slice a9 x.f6.f3.length ac9], .int .i64 a, .int .i64 e]) /\ Below w.heap.size w w' /\ VE w.heap.size w' (.agg #[.int .i64 x.f0, .int .i64 x.f1, .int .i64 x.f2, .string x.f3, .slice a4 x.f4.length ac4, .slice a5 x.f5.length ac5, .int .i64 x.f6.f0, .string x.f6.f1, .int .i64 x.f6.f2, .slice a9 x.f6.f3.length ac9]) x := by
 refine (tree_said s n w HT (by rw [hx]; intro h; cases h)).mono ?_
 rintro en w' ⟨hb, v, x', a', e', hx', rfl, hv⟩
 rw [hx] at hx'
 injection hx' with hx'
 simp only [Prod.mk.injEq] at hx'
 obtain ⟨rfl, rfl, rfl⟩ := hx'
 obtain ⟨a4, ac4, a5, ac5, a9, ac9, rfl⟩ := hv.form
 exact ⟨a4, ac4, a5, ac5, a9, ac9, rfl, hb, hv⟩
theorem treeX_any (s : ByteArray) : ∃ n x a er, treeX s n = some (x, a, er) /\ (er = 0 -> s.size <= 65536 /\ Tr s s x x) /\ (er ≠ 0 -> x.f0 = 0) := by
 cases hl : lexP s with
 | error e => exact ⟨0, Z0, e.1, e.2, by unfold treeX; rw [hl], fun h => absurd h (lexP_err hl), fun _ => rfl⟩
 | ok ts =>
  obtain ⟨hS, hst, -, hlen⟩ := lexP_stands hl
  have hg := tree_g hS hS (sim_self ts hst) (by omega) (n := 16 * ts.length + 6) (Nat.le_refl _)
  cases ht : treeP s.size (16 * ts.length + 6) ts with
  | out => rw [ht] at hg; exact hg.elim
  | bad a er =>
   rw [ht] at hg
   exact ⟨16 * ts.length + 6, Z0, a, er, by unfold treeX; rw [hl]; dsimp only; rw [ht], fun h => absurd h hg.2, fun _ => rfl⟩
  | ok x l =>
   rw [ht] at hg
   exact ⟨16 * ts.length + 6, x, 0, 0, by unfold treeX; rw [hl]; dsimp only; rw [ht], fun _ => ⟨hS, hg.1⟩, fun h => absurd rfl h⟩
theorem first_tree : ∃ x, treeX ⟨#[102, 40, 120, 41]⟩ 100 = some (x, 0, 0) /\ x.f4.length = 1 /\ (rd_T27 x.f4 0).f1 = 2 := ⟨mkE 11 0 0 ⟨#[102]⟩ [mkE 4 2 0 ⟨#[120]⟩ [] []] [], by kernel_rfl, rfl, rfl⟩
theorem VE.C4 {w : World} {B : Nat} {x : S27} {k a n k9 n9 : Int} {s s9 : ByteArray} {A4 A5 A9 : Option Addr} {m4 m5 m9 c4 c5 c9 : Nat} (h : VE B w (.agg #[.int .i64 k, .int .i64 a, .int .i64 n, .string s, .slice A4 m4 c4, .slice A5 m5 c5, .int .i64 k9, .string s9, .int .i64 n9, .slice A9 m9 c9]) x) :
  (x.f4.length <= c4 /\ Kd.C k27 w A4 x.f4.length x.f4) /\ (x.f5.length <= c5 /\ Kd.C k25 w A5 x.f5.length x.f5) /\ (x.f6.f3.length <= c9 /\ Kd.C k25 w A9 x.f6.f3.length x.f6.f3) := by
 obtain ⟨v4, v5, v9, e, r4, r5, r9⟩ := h
 injection e with e
 simp only [Array.mk.injEq, List.cons.injEq, Value.int.injEq, Value.string.injEq, true_and, and_true] at e
 obtain ⟨-, -, -, -, e4, e5, -, -, -, e9⟩ := e
 subst e4 e5 e9
 obtain ⟨B4, d4, q4⟩ := Kd.R_slice r4
 obtain ⟨B5, d5, q5⟩ := Kd.R_slice r5
 obtain ⟨B9, d9, q9⟩ := Kd.R_slice r9
 injection q4 with p1 p2 p3
 subst p1 p2 p3
 injection q5 with p1 p2 p3
 subst p1 p2 p3
 injection q9 with p1 p2 p3
 subst p1 p2 p3
 have u4 := Kd.V_reads' (Kd.R_V (base' := 0) r4)
 have u5 := Kd.V_reads' (Kd.R_V (base' := 0) r5)
 have u9 := Kd.V_reads' (Kd.R_V (base' := 0) r9)
 exact ⟨⟨u4.2.1, u4.2.2⟩, ⟨u5.2.1, u5.2.2⟩, ⟨u9.2.1, u9.2.2⟩⟩
set_option maxRecDepth 100000 in
set_option maxHeartbeats 4000000 in
theorem spots_walk (s : ByteArray) (w : World) (HT : Tab w) : Calls Tryd.prog 6 #[.string s] w fun e w' => e = .returned (.bool true) /\ Below w.heap.size w w' := by
 obtain ⟨n, y, a, er, hy, h0, h1⟩ := treeX_any s
 obtain ⟨x, hx, hxl, hxa⟩ := first_tree
 have HX := am hx
 have HY := am hy
 have HTT := am HT
 have HB := am (Below.refl w.heap.size w)
 have hn1 : ((x.f4.length : Int) != 1) = false := by rw [hxl]; rfl
 have hn0 : (0 : Int) < (x.f4.length : Int) := by omega
 have hu27 := Tryd.underlying27
 clear hx hy HT hxl
 go_enter Tryd.func6, Tryd.ntmps6
 go_wp2_with (
  go_at_call 8
  (with_reducible refine Calls.mono (tree_knownL HX.out _ (HTT.out.below HB.out)) ?_)
  go_must (
   rintro en w2 ⟨a4, ac4, a5, ac5, a9, ac9, rfl, hb2, hv⟩
   replace HB := am (below_then HB.out HB.out.size hb2)
   have ba := below_alloc (Below.refl w2.heap.size w2) (Obj.cells #[.int .i64 x.f0, .int .i64 x.f1, .int .i64 x.f2, .string x.f3, .slice a4 x.f4.length ac4, .slice a5 x.f5.length ac5, .int .i64 x.f6.f0, .string x.f6.f1, .int .i64 x.f6.f2, .slice a9 x.f6.f3.length ac9] 27)
   replace HB := am (below_then HB.out HB.out.size ba)
   have HZ := Has.new w2 #[.int .i64 x.f0, .int .i64 x.f1, .int .i64 x.f2, .string x.f3, .slice a4 x.f4.length ac4, .slice a5 x.f5.length ac5, .int .i64 x.f6.f0, .string x.f6.f1, .int .i64 x.f6.f2, .slice a9 x.f6.f3.length ac9] 27
   have c4 := hci HZ 4 rfl
   have hv2 := hv.below ba
   have hC4 := (VE.C4 hv2).1.2
   obtain ⟨ad, B4, d4, B5, d5, B9, d9, rfl, q0, q1, -⟩ := at_T27 hC4 0 (Int.le_refl 0) hn0
   rw [hxa, show ad.add ((0 : Int).toNat * 10) = ad by simp [Addr.add]] at q1
   clear q0))
 by_cases her : er = 0
 ·obtain ⟨hS, hk⟩ := h0 her
  have e1 : (er != 0) = false := by rw [her]; rfl
  have e2 : (er == 0) = true := by rw [her]; rfl
  have HK := am hk
  clear h0 h1 hk her
  go_wp2_with (first
   | (
    go_at_call 8
    (with_reducible refine Calls.mono (tree_knownL HY.out _ (HTT.out.below HB.out)) ?_)
    go_must (
     rintro en w3 ⟨b4, bc4, b5, bc5, b9, bc9, rfl, hb3, hvy⟩
     replace HB := am (below_then HB.out HB.out.size hb3)
     have bb := below_alloc (Below.refl w3.heap.size w3) (Obj.cells #[.int .i64 y.f0, .int .i64 y.f1, .int .i64 y.f2, .string y.f3, .slice b4 y.f4.length bc4, .slice b5 y.f5.length bc5, .int .i64 y.f6.f0, .string y.f6.f1, .int .i64 y.f6.f2, .slice b9 y.f6.f3.length bc9] 27)
     replace HB := am (below_then HB.out HB.out.size bb)
     have HZY := Has.new w3 #[.int .i64 y.f0, .int .i64 y.f1, .int .i64 y.f2, .string y.f3, .slice b4 y.f4.length bc4, .slice b5 y.f5.length bc5, .int .i64 y.f6.f0, .string y.f6.f1, .int .i64 y.f6.f2, .slice b9 y.f6.f3.length bc9] 27
     have hvy2 := VE.C4 (hvy.below bb)
     have cy0 := HZY.cell 0
     have cy1 := HZY.cell 1
     have cy2 := HZY.cell 2
     have cy3 := HZY.cell 3
     have cy4 := HZY.cell 4
     have cy5 := HZY.cell 5
     have cy6 := HZY.cell 6
     have cy7 := HZY.cell 7
     have cy8 := HZY.cell 8
     have cy9 := HZY.cell 9
     simp only [List.getElem?_toArray, List.getElem?_cons_zero, List.getElem?_cons_succ] at cy0 cy1 cy2 cy3 cy4 cy5 cy6 cy7 cy8 cy9))
   | (
    go_at_call 12
    go_must (
     refine Calls.mono (spots_said hS HK.out _ b4 b5 b9 bc4 bc5 bc9 hvy2.1.2 hvy2.1.1) ?_
     rintro en w4 ⟨rfl, hb4⟩
     replace HB := am (below_then HB.out HB.out.size hb4))))
  go_ret
  exact ⟨rfl, HB.out⟩
 ·have e1 : (er != 0) = true := by simpa using her
  have e3 := h1 her
  have e2 : (y.f0 == 0) = true := by rw [e3]; rfl
  clear h0 h1 her e3
  go_wp2_with (
   go_at_call 8
   (with_reducible refine Calls.mono (tree_knownL HY.out _ (HTT.out.below HB.out)) ?_)
   go_must (
    rintro en w3 ⟨b4, bc4, b5, bc5, b9, bc9, rfl, hb3, hvy⟩
    replace HB := am (below_then HB.out HB.out.size hb3)
    have bb := below_alloc (Below.refl w3.heap.size w3) (Obj.cells #[.int .i64 y.f0, .int .i64 y.f1, .int .i64 y.f2, .string y.f3, .slice b4 y.f4.length bc4, .slice b5 y.f5.length bc5, .int .i64 y.f6.f0, .string y.f6.f1, .int .i64 y.f6.f2, .slice b9 y.f6.f3.length bc9] 27)
    replace HB := am (below_then HB.out HB.out.size bb)
    have HZY := Has.new w3 #[.int .i64 y.f0, .int .i64 y.f1, .int .i64 y.f2, .string y.f3, .slice b4 y.f4.length bc4, .slice b5 y.f5.length bc5, .int .i64 y.f6.f0, .string y.f6.f1, .int .i64 y.f6.f2, .slice b9 y.f6.f3.length bc9] 27
    have cy := hci HZY 0 rfl))
  go_ret
  exact ⟨rfl, HB.out⟩
end Go.Proofs.YtngpgdmafmkddaaDoor.Tre
end
