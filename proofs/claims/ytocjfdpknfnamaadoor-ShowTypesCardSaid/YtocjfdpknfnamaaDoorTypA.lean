/- The text of a type: as a plain function; and the walk of show.Type, by the library's contracts. -/
import Derived.Test.YtocjfdpknfnamaaDoorPShowTypesx0
import Derived.Test.YtocjfdpknfnamaaDoorShelf
import Derived.Room.Shelf.Join48
import Derived.Lib.AppendIntMem
import Derived.Lib.ItoaLen
import Derived.WalkSpells
namespace Go.Proofs.YtocjfdpknfnamaaDoor.Typ
open Go.RowKit Go.Proofs.YtocjfdpknfnamaaDoor.PShowTypes Go.Proofs.YtocjfdpknfnamaaDoorW.PrintWords Go.Proofs.YtocjfdpknfnamaaDoorW.PrintLast Go.Proofs.YtocjfdpknfnamaaDoorW.PrintMore
set_option linter.unusedVariables false

def word (k : Int) : ByteArray := rdOf ByteArray.empty [(⟨#[]⟩ : ByteArray), (⟨#[40, 41]⟩ : ByteArray), (⟨#[98, 111, 111, 108]⟩ : ByteArray), (⟨#[105, 56]⟩ : ByteArray), (⟨#[105, 49, 54]⟩ : ByteArray), (⟨#[105, 51, 50]⟩ : ByteArray), (⟨#[117, 56]⟩ : ByteArray), (⟨#[117, 49, 54]⟩ : ByteArray), (⟨#[117, 51, 50]⟩ : ByteArray)] k
def itoa (n : Int) : ByteArray := ⟨(Lib.itoa n).toArray⟩
def text : Nat → S24 → ByteArray
  | 0, _ => ⟨#[]⟩
  | d + 1, x => if 1 ≤ x.f0 ∧ x.f0 ≤ 8 then word x.f0 else if x.f0 = 9 then x.f1 else if x.f3.length = 0 then ⟨#[63]⟩ else
    if x.f0 = 10 then ⟨#[91]⟩ ++ text d (rd_T24 x.f3 0) ++ ⟨#[59, 32]⟩ ++ itoa x.f2 ++ ⟨#[93]⟩ else
    if x.f0 = 11 then ⟨#[66, 111, 120, 60]⟩ ++ text d (rd_T24 x.f3 0) ++ ⟨#[62]⟩ else
    if x.f0 = 12 then ⟨#[38]⟩ ++ text d (rd_T24 x.f3 0) else
    if x.f0 = 13 then ⟨#[38, 109, 117, 116, 32]⟩ ++ text d (rd_T24 x.f3 0) else ⟨#[63]⟩

theorem cat (bk o c : Nat) (xs : List ByteArray) (w : World) (hcells : ∀ (j : Nat) x, xs[j]? = some x → w.cell? ⟨bk, o + j, none⟩ = some (.string x)) (hbk : bk < w.heap.size) (hN : xs.length ≤ 140737488355328) (hcap : xs.length ≤ c) (hlen : (Lib.join (xs.map (·.data.toList)) []).length ≤ 281474976710656) :
    Calls Tryd.prog 16 #[.slice (some ⟨bk, o, none⟩) xs.length c] w fun e w' => e = .returned (.string ⟨(Lib.join (xs.map (·.data.toList)) []).toArray⟩) ∧ Below w.heap.size w w' := by
  have H1 := Aside0.mk hcells
  have H2 := Aside0.mk hlen
  clear hcells hlen
  go_enter Tryd.func16, Tryd.ntmps16
  go_wp2_with (go_at_call 30; (refine (Any.strings_Join_48 Tryd.lays156 Tryd.Builder_Extra_156 bk o c xs ⟨#[]⟩ _ H1.out hbk hN hcap H2.out).mono ?_); rintro e w' ⟨rfl, hb⟩)
  go_ret
  exact ⟨rfl, hb⟩

theorem join_flat (xs : List (List UInt8)) : Lib.join xs [] = xs.flatten := by
  cases xs with
  | nil => rfl
  | cons x r =>
    rw [Lib.join_cons]
    simp [Lib.joinTail]
theorem alloc_cells (W : World) (cs : Array Value) (t : TypeId) (j : Nat) (v : Value) (h : cs[j]? = some v) : (W.alloc (.cells cs t)).cell? ⟨W.heap.size, 0 + j, none⟩ = some v := by
  rw [Nat.zero_add, World.cell?_alloc_new]; exact h
theorem blen (x : ByteArray) : x.data.toList.length = x.size := by simp
theorem cat3 (a b c : ByteArray) (W : World) (hs : a.size + b.size + c.size ≤ 281474976710656) :
    Calls Tryd.prog 16 #[.slice (some ⟨W.heap.size, 0, none⟩) 3 3] (W.alloc (.cells #[.string a, .string b, .string c] 9)) fun e w' => e = .returned (.string (a ++ b ++ c)) ∧ Below W.heap.size W w' := by
  refine (cat W.heap.size 0 3 [a, b, c] _ ?_ ?_ (by simp) (by simp) ?_).mono ?_
  · intro j x hj
    refine alloc_cells _ _ _ _ _ ?_
    rcases j with _ | _ | _ | j <;> simp at hj ⊢ <;> exact hj
  · rw [World.size_alloc]; omega
  · rw [join_flat]; simp only [List.map_cons, List.map_nil, List.flatten_cons, List.flatten_nil, List.length_append, List.length_nil, blen]; omega
  · rintro e w' ⟨rfl, hb⟩
    refine ⟨?_, ?_⟩
    · rw [join_flat]
      congr 2
      simp [ByteArray.ext_iff]
    · exact below_step (below_alloc (Below.refl _ _) _) hb
theorem cat5 (a b c d f : ByteArray) (W : World) (hs : a.size + b.size + c.size + d.size + f.size ≤ 281474976710656) :
    Calls Tryd.prog 16 #[.slice (some ⟨W.heap.size, 0, none⟩) 5 5] (W.alloc (.cells #[.string a, .string b, .string c, .string d, .string f] 9)) fun e w' => e = .returned (.string (a ++ b ++ c ++ d ++ f)) ∧ Below W.heap.size W w' := by
  refine (cat W.heap.size 0 5 [a, b, c, d, f] _ ?_ ?_ (by simp) (by simp) ?_).mono ?_
  · intro j x hj
    refine alloc_cells _ _ _ _ _ ?_
    rcases j with _ | _ | _ | _ | _ | j <;> simp at hj ⊢ <;> exact hj
  · rw [World.size_alloc]; omega
  · rw [join_flat]; simp only [List.map_cons, List.map_nil, List.flatten_cons, List.flatten_nil, List.length_append, List.length_nil, blen]; omega
  · rintro e w' ⟨rfl, hb⟩
    refine ⟨?_, ?_⟩
    · rw [join_flat]
      congr 2
      simp [ByteArray.ext_iff]
    · exact below_step (below_alloc (Below.refl _ _) _) hb
theorem itoa_size (n : Int) (h0 : -9223372036854775808 ≤ n) (h1 : n ≤ 9223372036854775807) : (itoa n).size ≤ 21 := by
  have := Lib.itoa_length_le n h0 h1
  simp [itoa, ByteArray.size]; exact this
theorem itoa_call (n : Int) (h0 : -9223372036854775808 ≤ n) (h1 : n ≤ 9223372036854775807) (w : World) (hT : Lib.TabBelow Tryd.prog w.heap.size w "internal/strconv.uint64pow10" .u64 Lib.pow10Tab) :
    Calls Tryd.prog 17 #[.int .i64 n] w fun e w' => e = .returned (.string (itoa n)) ∧ Below w.heap.size w w' := by
  refine (Tryd.strconv_Itoa n h0 h1 w hT.here).mono ?_
  rintro e w' ⟨rfl, k, os, rfl⟩
  exact ⟨rfl, rfl, rfl, rfl, by simp [Go.Sort.grow, World.drewN], fun i hi => by simp [Go.Sort.grow, World.drewN, Array.getElem?_append, hi]⟩
end Go.Proofs.YtocjfdpknfnamaaDoor.Typ
