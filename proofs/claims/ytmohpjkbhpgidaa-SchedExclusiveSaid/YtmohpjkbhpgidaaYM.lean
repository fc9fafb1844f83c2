/-
  The scheduler: the examples.
-/
import Derived.Test.YtmohpjkbhpgidaaYL
import Derived.Laws.StructEq
namespace Go.Proofs.Ytmohpjkbhpgidaa.A
open Go.RowKit Go.Proofs.Ytmohpjkbhpgidaa.U
set_option linter.unusedVariables false
set_option linter.unusedSimpArgs false
set_option maxRecDepth 100000
set_option maxHeartbeats 800000

theorem one_results97 {fn : Func} {p : Tmp} {tmps : Array Value} {w : World} {g : Nat} {cs : Array Value} (h : fn.results = #[.cell p 97]) (hp : tmps.getD p undef = .pointer (some ⟨g, 0, none⟩)) (hg : Blk w g 97 cs) (hi : (Try.prog.info? 97).map (·.size) = some cs.size) :
    (results fn tmps).run Try.prog w = .ok (.agg cs) w := by
  have hl := run_loadVar_row (P := Try.prog) w g 97 97 cs (0, 0) _ hg Try.underlying97 rfl hi
  have hp' : tmps[p]?.getD undef = .pointer (some ⟨g, 0, none⟩) := by simpa using hp
  simp [results, h, hp', asAddr, hl]
def lockO (n : Int) : Op3 := ⟨1, n, 0⟩
def unlockO (n : Int) : Op3 := ⟨2, n, 0⟩
theorem lock58 (w : World) (n : Int) : Calls Try.prog 58 #[.int .i64 n] w (fun e w' => e = .returned (lockO n).val ∧ Keep Nothing w w') := by
  have hu := Try.underlying97
  have Z := Lib.hid (Blk.fresh w 97 #[.int .i64 1, .int .i64 n, .int .i64 0])
  have hi : (Try.prog.info? 97).map (·.size) = some 3 := by kernel_rfl
  go_enter Try.func58, Try.ntmps58
  go_wp2_with fail
  refine bodyPost_ret (v := (lockO n).val) (one_results97 (p := 2) (by rfl) (by rfl) Z.out hi) rfl ?_
  exact ⟨rfl, ((Keep.same Nothing w).alloc _)⟩
theorem unlock59 (w : World) (n : Int) : Calls Try.prog 59 #[.int .i64 n] w (fun e w' => e = .returned (unlockO n).val ∧ Keep Nothing w w') := by
  have hu := Try.underlying97
  have Z := Lib.hid (Blk.fresh w 97 #[.int .i64 2, .int .i64 n, .int .i64 0])
  have hi : (Try.prog.info? 97).map (·.size) = some 3 := by kernel_rfl
  go_enter Try.func59, Try.ntmps59
  go_wp2_with fail
  refine bodyPost_ret (v := (unlockO n).val) (one_results97 (p := 2) (by rfl) (by rfl) Z.out hi) rfl ?_
  exact ⟨rfl, ((Keep.same Nothing w).alloc _)⟩
theorem eql103 (w : World) (a b c a' b' c' : Int) : (binOp .eql 103 (.agg #[.int .i64 a, .int .i64 b, .int .i64 c]) (.agg #[.int .i64 a', .int .i64 b', .int .i64 c'])).run Try.prog w = .ok (.bool (decide (a = a' ∧ b = b' ∧ c = c'))) w := by
  have hu := Try.underlying103
  have hu3 := Try.underlying3
  have hu32 := Try.underlying32
  have hf : Try.prog.underlying 103 = some (.struct (Try.prog.fieldsOf 103)) := by kernel_rfl
  have hh : Try.prog.stoodInHeld 103 = false := by kernel_rfl
  rw [run_eql_struct, show (10000 : Nat) = 9998 + 2 from rfl]
  rw [run_equalIn_agg w (9998 + 1) 103 _ _ hf hh]
  have hfl : (Try.prog.fieldsOf 103).toList = (match Try.prog.underlying 103 with | some (.struct fs) => fs.toList | _ => []) := by kernel_rfl
  rw [hfl, hu]
  have p0 : ∀ (a b c : Value) (W : World), (part 3 #[a, b, c] 0).run Try.prog W = .ok a W := fun a b c W => by rfl
  have p1 : ∀ (a b c : Value) (W : World), (part 3 #[a, b, c] 1).run Try.prog W = .ok b W := fun a b c W => by rfl
  have p2 : ∀ (a b c : Value) (W : World), (part 32 #[a, b, c] 2).run Try.prog W = .ok c W := fun a b c W => by rfl
  have q3 := fun x y => run_equalIn_int (P := Try.prog) w 9998 3 .i64 .i64 x y hu3
  have q32 := fun x y => run_equalIn_int (P := Try.prog) w 9998 32 .i64 .i64 x y hu32
  simp [Op.eqFields, p0, p1, p2, q3, q32, Result.andThen]
  by_cases h0 : a = a' <;> by_cases h1 : b = b' <;> by_cases h2 : c = c' <;> simp [h0, h1, h2, p0, p1, p2, q3, q32, Result.andThen]
def exA : List (List Op3) := [[lockO 1, unlockO 1], [lockO 1, unlockO 1]]
def exB : List (List Op3) := [[lockO 1, lockO 2], [lockO 2, lockO 1]]
theorem run_A : (runX [0, 1] 10000 0 (newS exA) []).1 = [⟨0, 0, 0⟩, ⟨1, 0, 0⟩, ⟨0, 1, 0⟩, ⟨1, 1, 0⟩] := by kernel_rfl
theorem run_A2 : (pickT Tk.open_ (runX [0, 1] 10000 0 (newS exA) []).2.T (runX [0, 1] 10000 0 (newS exA) []).2.T.length).isEmpty = true := by kernel_rfl
theorem run_B : (runX [0, 1, 0, 0] 10000 0 (newS exB) []).1.length = 4 := by kernel_rfl
theorem run_B2 : (pickT Tk.open_ (runX [0, 1, 0, 0] 10000 0 (newS exB) []).2.T (runX [0, 1, 0, 0] 10000 0 (newS exB) []).2.T.length).isEmpty = false := by kernel_rfl
theorem new_good (TS : List (List Op3)) (h : ∀ l ∈ TS, l.length ≤ 1000000 ∧ ∀ x ∈ l, -9223372036854775808 ≤ x.n ∧ x.n ≤ 9223372036854775807) (hl : TS.length ≤ 1000000) : GoodS (newS TS) 0 := by
  refine ⟨fun l hl' => ?_, by unfold newS; simpa using hl, fun t ht => ?_, fun m hm => by cases hm⟩
  · unfold newS at hl'
    simp only [List.map_map] at hl'
    obtain ⟨l', h', rfl⟩ := List.mem_map.1 hl'
    exact h l' h'
  · unfold newS at ht
    obtain ⟨l', h', rfl⟩ := List.mem_map.1 ht
    exact ⟨Nat.zero_le _, Nat.zero_le _⟩
theorem good_A : GoodS (newS exA) 0 := new_good _ (by intro l hl; simp [exA] at hl; subst hl; exact ⟨by simp, by intro x hx; simp [lockO, unlockO] at hx; rcases hx with rfl | rfl <;> simp⟩) (by simp [exA])
theorem good_B : GoodS (newS exB) 0 := new_good _ (by intro l hl; simp [exB] at hl; rcases hl with rfl | rfl <;> exact ⟨by simp, by intro x hx; simp [lockO, unlockO] at hx; rcases hx with rfl | rfl <;> simp⟩) (by simp [exB])
abbrev ops2 (a b : Op3) : Array Value := #[.int .i64 a.k, .int .i64 a.obj, .int .i64 a.n, .int .i64 b.k, .int .i64 b.obj, .int .i64 b.n]
abbrev W3 (w4 w2 : World) (c d : Op3) (ps : List Int) : World := ((w4.alloc (.cells (ops2 c d) 97)).alloc (.cells #[.slice (some ⟨w2.heap.size, 0, none⟩) 2 2, .slice (some ⟨w4.heap.size, 0, none⟩) 2 2] 99)).alloc (.cells (ints ps).toArray 3)
theorem ops_two (w2 w4 : World) (a b c d : Op3) (ps : List Int) (hk : Keep Nothing (w2.alloc (.cells (ops2 a b) 97)) w4) :
    ArgOps (W3 w4 w2 c d ps) (some ⟨w4.heap.size + 1, 0, none⟩) [[a, b], [c, d]] ∧ U.Src (W3 w4 w2 c d ps) (some ⟨w4.heap.size + 1 + 1, 0, none⟩) 1 ps.length (ints ps) := by
  have K0 : Keep Nothing w4 (W3 w4 w2 c d ps) := (((Keep.same Nothing w4).alloc _).alloc _).alloc _
  have s1 : U.Src (W3 w4 w2 c d ps) (some ⟨w2.heap.size, 0, none⟩) 3 2 (opsV [a, b]) := src_keep (U.Src.fresh w2 (ops2 a b) 97 3 2 rfl) (hk.then K0)
  have s2 : U.Src (W3 w4 w2 c d ps) (some ⟨w4.heap.size, 0, none⟩) 3 2 (opsV [c, d]) := src_keep (U.Src.fresh w4 (ops2 c d) 97 3 2 rfl) (((Keep.same Nothing _).alloc _).alloc _)
  have B : Blk (W3 w4 w2 c d ps) (w4.heap.size + 1) 99 #[.slice (some ⟨w2.heap.size, 0, none⟩) 2 2, .slice (some ⟨w4.heap.size, 0, none⟩) 2 2] := by
    have := (Blk.fresh (w4.alloc (.cells (ops2 c d) 97)) 99 #[.slice (some ⟨w2.heap.size, 0, none⟩) 2 2, .slice (some ⟨w4.heap.size, 0, none⟩) 2 2]).alloc (.cells (ints ps).toArray 3)
    rw [size_alloc] at this
    exact this
  have s3 := U.Src.fresh ((w4.alloc (.cells (ops2 c d) 97)).alloc (.cells #[.slice (some ⟨w2.heap.size, 0, none⟩) 2 2, .slice (some ⟨w4.heap.size, 0, none⟩) 2 2] 99)) (ints ps).toArray 3 1 ps.length (by simp [ints])
  rw [size_alloc, size_alloc, List.toList_toArray] at s3
  refine ⟨fun k L hL => ?_, s3⟩
  match k, hL with
  | 0, hL => simp at hL; subst hL; exact ⟨_, _, _, rfl, B.cell 0, s1, by simp⟩
  | 1, hL => simp at hL; subst hL; exact ⟨_, _, _, rfl, B.cell 1, s2, by simp⟩
  | k + 2, hL => simp at hL
theorem awake54 (w : World) : Calls Try.prog 54 #[] w (fun e w' => e = .returned (.bool true) ∧ Keep Nothing w w') := by
  have hu26 := Try.underlying26
  have hu89 := Try.underlying89
  have hu99 := Try.underlying99
  have he := eql103
  go_enter Try.func54, Try.ntmps54
  go_wp2_with fail
  refine (lock58 _ 1).mono ?_
  rintro e wa1 ⟨rfl, hk0⟩
  have Ka1 := Lib.hid hk0
  clear hk0
  go_wp2_with fail
  refine (unlock59 _ 1).mono ?_
  rintro e wa2 ⟨rfl, hk1⟩
  have Ka2 := Lib.hid hk1
  clear hk1
  go_wp2_with fail
  refine (lock58 _ 1).mono ?_
  rintro e wa3 ⟨rfl, hk2⟩
  have Ka3 := Lib.hid hk2
  clear hk2
  go_wp2_with fail
  refine (unlock59 _ 1).mono ?_
  rintro e wa4 ⟨rfl, hk3⟩
  have Ka4 := Lib.hid hk3
  clear hk3
  go_wp2_with fail
  obtain ⟨AA, AP⟩ := ops_two wa2 wa4 (lockO 1) (unlockO 1) (lockO 1) (unlockO 1) [0, 1] (Ka3.out.then Ka4.out)
  refine (run_calls _ _ _ 2 2 2 exA [0, 1] AA (by simp [exA]) AP good_A).mono ?_
  rintro e wa5 ⟨A, ca, rfl, hr, hk⟩
  have KA := Lib.hid (show Keep Nothing w wa5 from (Keep.then (Ka1.out.then (Ka2.out.then ((Keep.same Nothing _).alloc _))) (Ka3.out.then (Ka4.out.then ((((Keep.same Nothing _).alloc _).alloc _).alloc _)))).then hk)
  rw [run_A] at hr
  rw [run_A, run_A2]
  have RA := Lib.hid hr
  clear hr hk AA AP
  go_wp2_with fail
  refine (lock58 _ 1).mono ?_
  rintro e wb1 ⟨rfl, hk0⟩
  have Kb1 := Lib.hid hk0
  clear hk0
  go_wp2_with fail
  refine (lock58 _ 2).mono ?_
  rintro e wb2 ⟨rfl, hk1⟩
  have Kb2 := Lib.hid hk1
  clear hk1
  go_wp2_with fail
  refine (lock58 _ 2).mono ?_
  rintro e wb3 ⟨rfl, hk2⟩
  have Kb3 := Lib.hid hk2
  clear hk2
  go_wp2_with fail
  refine (lock58 _ 1).mono ?_
  rintro e wb4 ⟨rfl, hk3⟩
  have Kb4 := Lib.hid hk3
  clear hk3
  go_wp2_with fail
  obtain ⟨AB, BP⟩ := ops_two wb2 wb4 (lockO 1) (lockO 2) (lockO 2) (lockO 1) [0, 1, 0, 0] (Kb3.out.then Kb4.out)
  refine (run_calls _ _ _ 2 4 4 exB [0, 1, 0, 0] AB (by simp [exB]) BP good_B).mono ?_
  rintro e wb5 ⟨A', cb, rfl, hr, hk⟩
  have KB := Lib.hid (show Keep Nothing wa5 wb5 from (Keep.then (Kb1.out.then (Kb2.out.then ((Keep.same Nothing _).alloc _))) (Kb3.out.then (Kb4.out.then ((((Keep.same Nothing _).alloc _).alloc _).alloc _)))).then hk)
  rw [run_B, run_B2]
  clear hr hk AB BP
  obtain ⟨ad, rfl, hc⟩ := RA.out.src.2 (by simp)
  have c3 : wb5.cell? ⟨ad.block, ad.off + 3, none⟩ = some (.int .i64 1) := KB.out.cell (hc 3 (.int .i64 1) rfl) (fun h => h)
  have c4 : wb5.cell? ⟨ad.block, ad.off + 3 + 1, none⟩ = some (.int .i64 0) := KB.out.cell (hc 4 (.int .i64 0) rfl) (fun h => h)
  have c5 : wb5.cell? ⟨ad.block, ad.off + 3 + 2, none⟩ = some (.int .i64 0) := KB.out.cell (hc 5 (.int .i64 0) rfl) (fun h => h)
  have c6 : wb5.cell? ⟨ad.block, ad.off + 6, none⟩ = some (.int .i64 0) := KB.out.cell (hc 6 (.int .i64 0) rfl) (fun h => h)
  have c7 : wb5.cell? ⟨ad.block, ad.off + 6 + 1, none⟩ = some (.int .i64 1) := KB.out.cell (hc 7 (.int .i64 1) rfl) (fun h => h)
  have c8 : wb5.cell? ⟨ad.block, ad.off + 6 + 2, none⟩ = some (.int .i64 0) := KB.out.cell (hc 8 (.int .i64 0) rfl) (fun h => h)
  have RK := Lib.hid (KA.out.then KB.out)
  clear hc
  go_wp2_with fail
  go_ret
  exact ⟨by simp, RK.out⟩
end Go.Proofs.Ytmohpjkbhpgidaa.A
