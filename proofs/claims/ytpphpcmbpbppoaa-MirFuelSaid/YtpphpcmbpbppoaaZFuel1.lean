/- Steps toward the law Fuel, merged from several texts (some of them began as the kit's print). No condition. -/
import Derived.Test.YtpphpcmbpbppoaaProg
import Derived.WalkSpells
import Derived.WalkKit
import Derived.StillTailTactics
import Derived.LoopN
import Derived.Deep.QuietTactic
import Derived.BigQuiet
import Derived.Test.YtpphpcmbpbppoaaZFuel0
section
namespace Go.Proofs.Ytpphpcmbpbppoaa.Mach
open Go.RowKit Go.Proofs.YtpphpcmbpbppoaaW.PrintWords Go.Proofs.YtpphpcmbpbppoaaW.PrintLast Go.Proofs.YtpphpcmbpbppoaaW.PrintMore
set_option linter.unusedVariables false
abbrev classes : Value := .agg #[.int .i64 4, .int .i64 64, .int .i64 262144, .int .i64 16, .int .i64 32, .int .i64 263168, .int .i64 64, .int .i64 16, .int .i64 265216, .int .i64 128, .int .i64 8, .int .i64 269312]
set_option maxHeartbeats 1000000 in
set_option maxRecDepth 100000 in
theorem all (w : World) :
  Calls Try.prog 54 #[] w fun e w' => e = .returned classes ∧ Below w.heap.size w w' := by
 go_enter Try.func54, Try.ntmps54
 go_wp2_with fail
 refine wp_loop_rounds 5 ?_
 rw [rounds_succ]
 go_wp2
 go_quiet (fail)
 go_wp2
 rw [rounds_succ]
 go_wp2
 go_quiet (fail)
 go_wp2
 rw [rounds_succ]
 go_wp2
 go_quiet (fail)
 go_wp2
 rw [rounds_succ]
 go_wp2
 go_quiet (fail)
 go_wp2
 rw [rounds_succ]
 go_wp2
 refine bodyPost_ret (v := classes) ?_ rfl ⟨rfl, ?_⟩
 ·simp [results, Try.results54, go_sem]
 ·repeat (first | with_reducible exact Below.refl _ _ | with_reducible refine below_alloc ?_ _ | with_reducible refine pw_below_drewN ?_ _ | with_reducible refine Below.setCell ?_ (by simp) _)
end Go.Proofs.Ytpphpcmbpbppoaa.Mach
end
