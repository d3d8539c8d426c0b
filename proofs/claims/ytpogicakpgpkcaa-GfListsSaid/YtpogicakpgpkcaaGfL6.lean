/- The walk of GfLists: the law itself. -/
import Derived.Test.YtpogicakpgpkcaaGfL5
namespace Go.Proofs.Ytpogicakpgpkcaa.GfL
open Go.RowKit Go.Proofs.YtpogicakpgpkcaaW.PrintWords Go.Proofs.YtpogicakpgpkcaaW.PrintLast Go.Proofs.Ytpogicakpgpkcaa.Gf Go.Proofs.Ytpogicakpgpkcaa.PureL

def Range (n : Nat) : Nat := if n ≤ 2000 then 0 else if n ≤ 65536 then 1 else if n ≤ 70000 then 2 else 3
theorem range_cases (n : Nat) : (n ≤ 2000) ∨ (2000 < n ∧ n ≤ 65536) ∨ (65536 < n ∧ n ≤ 70000) ∨ 70000 < n := by omega

set_option maxHeartbeats 1000000 in
set_option maxRecDepth 100000 in
theorem Lists_out (A0 : Option Addr) (n0 c0 : Nat) (A1 : Option Addr) (n1 c1 : Nat) (a : Int) (w : World) (h : (2000 < n0 ∧ n0 ≤ 65536) ∨ (2000 < n1 ∧ n1 ≤ 65536) ∨ 70000 < n0 ∨ 70000 < n1) :
    Calls Try.prog 4 #[.slice A0 n0 c0, .slice A1 n1 c1, .int .u8 a] w fun e w' => e = .returned (.bool true) ∧ w = w' := by
  rcases range_cases n0 with k0 | ⟨k0, m0⟩ | ⟨k0, m0⟩ | k0 <;> rcases range_cases n1 with k1 | ⟨k1, m1⟩ | ⟨k1, m1⟩ | k1 <;> first | (exfalso; omega; done) | (clear h; go_enter Try.func4, Try.ntmps4; go_wp2_with fail; go_ret; exact ⟨rfl, rfl⟩)
end Go.Proofs.Ytpogicakpgpkcaa.GfL
