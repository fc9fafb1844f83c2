/-
  may and May, of every command; Check.
-/
import Derived.Test.YthlfcinjmljbjaaS2
import Derived.Test.YthlfcinjmljbjaaS3
import Derived.Test.YthlfcinjmljbjaaS4
import Derived.Test.YthlfcinjmljbjaaS5
namespace Go.Proofs.Ythlfcinjmljbjaa.A
open Go.RowKit Go.Proofs.Ythlfcinjmljbjaa.U
set_option linter.unusedVariables false
set_option linter.unusedSimpArgs false
set_option maxRecDepth 100000

theorem kinds (k : Int) : (k < 0 ∨ 12 < k) ∨ k = 0 ∨ k = 1 ∨ k = 2 ∨ k = 3 ∨ k = 4 ∨ k = 5 ∨ k = 6 ∨ k = 7 ∨ k = 8 ∨ k = 9 ∨ k = 10 ∨ k = 11 ∨ k = 12 := by omega
theorem may_calls (w : World) (c : Cmd) : Calls Try.prog 30 #[c.val] w (maySpec c w) := by
  obtain ⟨k, s, q, nm, n⟩ := c
  rcases kinds k with h | rfl | rfl | rfl | rfl | rfl | rfl | rfl | rfl | rfl | rfl | rfl | rfl | rfl
  · exact may_other w k s q n nm h
  · exact may_0 w s q n nm
  · exact may_1 w s q n nm
  · exact may_2 w s q n nm
  · exact may_3 w s q n nm
  · exact may_4 w s q n nm
  · exact may_5 w s q n nm
  · exact may_6 w s q n nm
  · exact may_7 w s q n nm
  · exact may_8 w s q n nm
  · exact may_9 w s q n nm
  · exact may_10 w s q n nm
  · exact may_11 w s q n nm
  · exact may_12 w s q n nm
def okE (b : Bool) : Int := if b then 0 else 1
theorem check_calls (w : World) (c : Cmd) : Calls Try.prog 19 #[c.val] w (fun e w' => e = .returned (.int .i64 (okE (mayB c))) ∧ Keep Nothing w w') := by
  have hu := Try.underlying31
  have HM := Lib.hid (fun w => may_calls w c)
  unfold maySpec at HM
  cases hm : mayB c with
  | true =>
    rw [hm] at HM
    unfold Cmd.val Cmd.cs at HM ⊢
    go_enter Try.func19, Try.ntmps19
    go_wp2_with fail
    refine (HM.out _).mono ?_
    rintro e w' ⟨rfl, hk⟩
    have K := Lib.hid hk
    clear hk
    go_wp2_with fail
    go_ret
    exact ⟨rfl, Keep.then (by repeat (first | exact Keep.same _ _ | apply Keep.alloc)) K.out⟩
  | false =>
    rw [hm] at HM
    unfold Cmd.val Cmd.cs at HM ⊢
    go_enter Try.func19, Try.ntmps19
    go_wp2_with fail
    refine (HM.out _).mono ?_
    rintro e w' ⟨rfl, hk⟩
    have K := Lib.hid hk
    clear hk
    go_wp2_with fail
    go_ret
    exact ⟨rfl, Keep.then (by repeat (first | exact Keep.same _ _ | apply Keep.alloc)) K.out⟩
end Go.Proofs.Ythlfcinjmljbjaa.A
