/- The walks of MirSums and its closure: with what mir.Do tells of each pair of words, the law's call returns true and leaves memory alone. -/
import Derived.Test.YtocjfdpknfnamaaDoWalkB
import Derived.WalkLawsBesides
namespace Go.Proofs.Ytocjfdpknfnamaa.Sums
open Go.RowKit Go.Proofs.Ytocjfdpknfnamaa.PMirDoes Go.Proofs.YtocjfdpknfnamaaW.PrintWords Go.Proofs.YtocjfdpknfnamaaW.PrintLast Go.Proofs.YtocjfdpknfnamaaW.PrintMore
set_option linter.unusedVariables false

set_option maxHeartbeats 400000 in
theorem do_yes (op : ByteArray) (x y r : Int) (w : World) (h : Aside0 (mir_Do.f 3 op x y = some (r, true) ∧ -2147483648 ≤ r ∧ r ≤ 2147483647)) :
    Calls Try.prog 15 #[.string op, .int .i64 x, .int .i64 y] w fun e w' => e = .returned (.int .i64 r) ∧ Drawn0 w w' := by
  have h0 := h.out.2.1
  have h1 := h.out.2.2
  go_enter Try.func15, Try.ntmps15
  go_wp2_with (go_at_call 13; (with_reducible refine (mir_Do.calls 3 _ _ _ r true _ h.out.1).mono ?_); rintro e w' ⟨rfl, ⟨nd, rfl⟩⟩)
  go_ret
  exact ⟨rfl, by repeat (first | exact Drawn0.refl _ | apply Drawn0.step)⟩

/-- What the closure tells of an operation and two words. -/
structure Does (op : List UInt8) (x y r : Int) : Prop where
  out : mir_Do.f 3 ⟨op.toArray⟩ x y = some (r, true) ∧ -2147483648 ≤ r ∧ r ≤ 2147483647

set_option maxHeartbeats 1000000 in
set_option maxRecDepth 100000 in
theorem sums_any (a b A B s1 x1 n1 o1 mh ml q r u v qb ub p1 p2 sh l1 l2 : Int) (w : World)
    (hA : Aside0 (ferruleref12_Word.f a = some A)) (hB : Aside0 (ferruleref12_Word.f b = some B))
    (hA0 : -2147483648 ≤ A) (hA1 : A ≤ 2147483647) (hB0 : -2147483648 ≤ B) (hB1 : B ≤ 2147483647)
    (d1 : Does [97, 100, 100] A B s1) (d2 : Does [115, 117, 98] s1 B A)
    (d3 : Does [120, 111, 114] A B x1) (d4 : Does [120, 111, 114] x1 B A)
    (d5 : Does [97, 110, 100] A B n1) (d6 : Does [111, 114] A B o1) (d7 : Does [97, 100, 100] n1 o1 s1)
    (d8 : Does [109, 117, 108, 104] A B mh) (d9 : Does [109, 117, 108] A B ml)
    (d10 : Does [100, 105, 118] A B q) (d11 : Does [114, 101, 109] A B r)
    (d12 : Does [100, 105, 118, 117] A B u) (d13 : Does [114, 101, 109, 117] A B v)
    (d14 : Does [109, 117, 108] q B qb) (d15 : Does [97, 100, 100] qb r A)
    (d16 : Does [109, 117, 108] u B ub) (d17 : Does [97, 100, 100] ub v A)
    (d18 : Does [115, 108, 108] A sh p1) (d19 : Does [115, 114, 97] p1 sh p2)
    (d20 : Does [115, 108, 108] p2 sh p1)
    (d21 : Does [115, 108, 116] A B l1) (d22 : Does [115, 108, 116] B A l2)
    (d23 : Does [115, 108, 116, 117] A A 0) (d24 : Does [115, 114, 108] A 0 A)
    (hm0 : -2147483648 ≤ mh) (hm1 : mh ≤ 2147483647) (hl0 : -2147483648 ≤ ml) (hl1 : ml ≤ 2147483647)
    (hs : Go.bits .and .i64 B 31 = sh) (hm : (mh * 4294967296 + ml % 4294967296 != wrap64 (A * B)) = false) (e1 : l1 + l2 ≤ 1) (e2 : 0 ≤ l1) (e3 : 0 ≤ l2) :
    Calls Try.prog 7 #[.int .i64 a, .int .i64 b] w fun e w' => e = .returned (.bool true) ∧ Below w.heap.size w w' := by
  go_enter Try.func7, Try.ntmps7
  go_wp2_with (first
    | (go_at_call 16; (with_reducible refine (ferruleref12_Word.calls a A _ hA.out).mono ?_); rintro e w' ⟨rfl, ⟨nd, rfl⟩⟩)
    | (go_at_call 16; (with_reducible refine (ferruleref12_Word.calls b B _ hB.out).mono ?_); rintro e w' ⟨rfl, ⟨nd, rfl⟩⟩)
    | (go_at_call 15; (with_reducible refine (do_yes _ A B s1 _ ⟨d1.out⟩).mono ?_); rintro e w' ⟨rfl, ⟨nd, rfl⟩⟩)
    | (go_at_call 15; (with_reducible refine (do_yes _ s1 B A _ ⟨d2.out⟩).mono ?_); rintro e w' ⟨rfl, ⟨nd, rfl⟩⟩)
    | (go_at_call 15; (with_reducible refine (do_yes _ A B x1 _ ⟨d3.out⟩).mono ?_); rintro e w' ⟨rfl, ⟨nd, rfl⟩⟩)
    | (go_at_call 15; (with_reducible refine (do_yes _ x1 B A _ ⟨d4.out⟩).mono ?_); rintro e w' ⟨rfl, ⟨nd, rfl⟩⟩)
    | (go_at_call 15; (with_reducible refine (do_yes _ A B n1 _ ⟨d5.out⟩).mono ?_); rintro e w' ⟨rfl, ⟨nd, rfl⟩⟩)
    | (go_at_call 15; (with_reducible refine (do_yes _ A B o1 _ ⟨d6.out⟩).mono ?_); rintro e w' ⟨rfl, ⟨nd, rfl⟩⟩)
    | (go_at_call 15; (with_reducible refine (do_yes _ n1 o1 s1 _ ⟨d7.out⟩).mono ?_); rintro e w' ⟨rfl, ⟨nd, rfl⟩⟩)
    | (go_at_call 15; (with_reducible refine (do_yes _ A B mh _ ⟨d8.out⟩).mono ?_); rintro e w' ⟨rfl, ⟨nd, rfl⟩⟩)
    | (go_at_call 15; (with_reducible refine (do_yes _ A B ml _ ⟨d9.out⟩).mono ?_); rintro e w' ⟨rfl, ⟨nd, rfl⟩⟩)
    | (go_at_call 15; (with_reducible refine (do_yes _ A B q _ ⟨d10.out⟩).mono ?_); rintro e w' ⟨rfl, ⟨nd, rfl⟩⟩)
    | (go_at_call 15; (with_reducible refine (do_yes _ A B r _ ⟨d11.out⟩).mono ?_); rintro e w' ⟨rfl, ⟨nd, rfl⟩⟩)
    | (go_at_call 15; (with_reducible refine (do_yes _ A B u _ ⟨d12.out⟩).mono ?_); rintro e w' ⟨rfl, ⟨nd, rfl⟩⟩)
    | (go_at_call 15; (with_reducible refine (do_yes _ A B v _ ⟨d13.out⟩).mono ?_); rintro e w' ⟨rfl, ⟨nd, rfl⟩⟩)
    | (go_at_call 15; (with_reducible refine (do_yes _ q B qb _ ⟨d14.out⟩).mono ?_); rintro e w' ⟨rfl, ⟨nd, rfl⟩⟩)
    | (go_at_call 15; (with_reducible refine (do_yes _ qb r A _ ⟨d15.out⟩).mono ?_); rintro e w' ⟨rfl, ⟨nd, rfl⟩⟩)
    | (go_at_call 15; (with_reducible refine (do_yes _ u B ub _ ⟨d16.out⟩).mono ?_); rintro e w' ⟨rfl, ⟨nd, rfl⟩⟩)
    | (go_at_call 15; (with_reducible refine (do_yes _ ub v A _ ⟨d17.out⟩).mono ?_); rintro e w' ⟨rfl, ⟨nd, rfl⟩⟩)
    | (go_at_call 15; (with_reducible refine (do_yes _ A sh p1 _ ⟨d18.out⟩).mono ?_); rintro e w' ⟨rfl, ⟨nd, rfl⟩⟩)
    | (go_at_call 15; (with_reducible refine (do_yes _ p1 sh p2 _ ⟨d19.out⟩).mono ?_); rintro e w' ⟨rfl, ⟨nd, rfl⟩⟩)
    | (go_at_call 15; (with_reducible refine (do_yes _ p2 sh p1 _ ⟨d20.out⟩).mono ?_); rintro e w' ⟨rfl, ⟨nd, rfl⟩⟩)
    | (go_at_call 15; (with_reducible refine (do_yes _ A B l1 _ ⟨d21.out⟩).mono ?_); rintro e w' ⟨rfl, ⟨nd, rfl⟩⟩)
    | (go_at_call 15; (with_reducible refine (do_yes _ B A l2 _ ⟨d22.out⟩).mono ?_); rintro e w' ⟨rfl, ⟨nd, rfl⟩⟩)
    | (go_at_call 15; (with_reducible refine (do_yes _ A A 0 _ ⟨d23.out⟩).mono ?_); rintro e w' ⟨rfl, ⟨nd, rfl⟩⟩)
    | (go_at_call 15; (with_reducible refine (do_yes _ A 0 A _ ⟨d24.out⟩).mono ?_); rintro e w' ⟨rfl, ⟨nd, rfl⟩⟩))
  go_ret
  exact ⟨rfl, by repeat (first | exact Below.refl _ _ | apply pw_below_drewN)⟩
end Go.Proofs.Ytocjfdpknfnamaa.Sums
