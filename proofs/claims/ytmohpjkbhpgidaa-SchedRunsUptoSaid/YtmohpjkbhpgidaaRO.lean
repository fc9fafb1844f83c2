/-
  Waits; what holds of an rwlock all along.
-/
import Derived.Test.YtmohpjkbhpgidaaRN
namespace Go.Proofs.Ytmohpjkbhpgidaa.A
open Go.RowKit Go.Proofs.Ytmohpjkbhpgidaa.U
set_option linter.unusedVariables false
set_option linter.unusedSimpArgs false
set_option maxRecDepth 100000

theorem neq119 (w : World) (x : Int) (r d : Bool) : (binOp .neq 119 (.agg #[.int .i64 x, .bool r, .bool d]) (.agg #[.int .i64 x, .bool r, .bool d])).run Try.prog w = .ok (.bool false) w := by
  have hu119 := Try.underlying119
  have hu3 := Try.underlying3
  have hu4 := Try.underlying4
  have hf : Try.prog.underlying 119 = some (.struct (Try.prog.fieldsOf 119)) := by kernel_rfl
  have hh : Try.prog.stoodInHeld 119 = false := by kernel_rfl
  rw [run_neq_struct, run_equalIn_agg w 9999 119 _ _ hf hh]
  have hfl : (Try.prog.fieldsOf 119).toList = (match Try.prog.underlying 119 with | some (.struct fs) => fs.toList | _ => []) := by kernel_rfl
  rw [hfl, hu119]
  simp [Op.eqFields, run_equalIn_int, run_equalIn_bool', hu3, hu4]
  have p3 : ∀ (a : Value) (b c : Value) (W : World), (part 3 #[a, b, c] 0).run Try.prog W = .ok a W := fun a b c W => by rfl
  have p4 : ∀ (a : Value) (b c : Value) (W : World), (part 4 #[a, b, c] 1).run Try.prog W = .ok b W := fun a b c W => by rfl
  have p5 : ∀ (a : Value) (b c : Value) (W : World), (part 4 #[a, b, c] 2).run Try.prog W = .ok c W := fun a b c W => by rfl
  have q3 := run_equalIn_int (P := Try.prog) w 9998 3 .i64 .i64 x x hu3
  have q4 := run_equalIn_bool' (P := Try.prog) w 9998 4 r r hu4
  have q5 := run_equalIn_bool' (P := Try.prog) w 9998 4 d d hu4
  simp only [Nat.reduceAdd] at q3 q4 q5
  simp [p3, p4, p5, q3, q4, q5, Result.andThen]
theorem waits_calls (w : World) (A A' : Option Addr) (n n' c c' : Nat) (L : List Wt) (h : U.Src w A 3 n (wts L)) (h' : U.Src w A' 3 n' (wts L)) (hn : n ≤ 1000000) :
    Calls Try.prog 26 #[.slice A n c, .slice A' n' c'] w (Pure w (.bool true)) := by
  have hL := wsrc_len h
  have hL' := wsrc_len h'
  obtain rfl : n = n' := by omega
  have hu := Try.underlying119
  have H := Lib.hid h
  have H' := Lib.hid h'
  clear h h'
  go_enter Try.func26, Try.ntmps26
  go_wp2_with fail
  go_loopw [5] (fun v wr => Drew w wr ∧ ∃ k : Nat, k ≤ n ∧ v = .int .i64 k) (fun v _ => n - (intOf v).toNat)
  case atStart => exact ⟨Drew.same _, 0, by omega, by simp⟩
  case round =>
    obtain ⟨⟨nd, rfl⟩, k, hk, rfl⟩ := hrel
    by_cases hlt : k < n
    · obtain ⟨ad, y, rfl, hy, c0, c1, c2⟩ := wt_at H.out hlt
      obtain ⟨ad', y', rfl, hy', c0', c1', c2'⟩ := wt_at H'.out hlt
      rw [hy] at hy'
      injection hy' with hy'
      subst hy'
      have hq := fun w => neq119 w y.t y.r y.d
      clear hy
      go_wp2_with fail
      go_quiet (fail)
      go_wp2_with fail
      go_roundw
      case rel => exact ⟨(Drew.same _).more _, k + 1, by omega, by go_num⟩
      case measure => simp [intOf]; omega
    · go_wp2_with fail
      go_ret
      exact ⟨rfl, (Drew.same _).more _⟩
theorem drain_good : ∀ (L : List Wt) (W : List Int) (wb : Bool), Good W L → Good (drain W wb L).1 (drain W wb L).2.2.1
  | [], W, wb, h => h
  | y :: l, W, wb, h => by
    unfold drain
    split
    · exact drain_good l _ _ h.give
    · exact h
theorem drain_total : ∀ (L : List Wt) (W : List Int) (wb : Bool), (drain W wb L).1.length + (drain W wb L).2.2.1.length = W.length + L.length
  | [], W, wb => rfl
  | y :: l, W, wb => by
    unfold drain
    split
    · have := drain_total l (putI W y.t) (!y.r)
      rw [putI_len] at this
      simp only [List.length_cons]
      omega
    · rfl
theorem drain_got : ∀ (L : List Wt) (W : List Int) (wb : Bool), (drain W wb L).2.2.2.length ≤ L.length
  | [], W, wb => by simp [drain]
  | y :: l, W, wb => by
    unfold drain
    split
    · have := drain_got l (putI W y.t) (!y.r)
      simp only [List.length_cons]
      omega
    · simp
theorem good_unlock {W : List Int} {wb : Bool} {L : List Wt} (h : Good W L) (x : Int) (r : Bool) : Good (rwUnlock W wb L x r).2.2.1 (rwUnlock W wb L x r).2.2.2.2 := by
  unfold rwUnlock
  split
  · exact drain_good L _ wb h.dropped
  · exact h
theorem unlock_total (W : List Int) (wb : Bool) (L : List Wt) (x : Int) (r : Bool) : (rwUnlock W wb L x r).2.2.1.length + (rwUnlock W wb L x r).2.2.2.2.length ≤ W.length + L.length := by
  unfold rwUnlock
  split
  · have := drain_total L (dropI W x) wb
    have h2 : (dropI W x).length ≤ W.length := List.length_filter_le _ _
    show (drain (dropI W x) wb L).1.length + (drain (dropI W x) wb L).2.2.1.length ≤ _
    omega
  · exact Nat.le_refl _
theorem unlock_got (W : List Int) (wb : Bool) (L : List Wt) (x : Int) (r : Bool) : (rwUnlock W wb L x r).1.length ≤ L.length := by
  unfold rwUnlock
  split
  · exact drain_got L (dropI W x) wb
  · simp
theorem good_lock {W : List Int} {wb : Bool} {L : List Wt} (h : Good W L) (x : Int) (r : Bool) : Good (rwLock W wb L x r).2.2.1 (rwLock W wb L x r).2.2.2.2 := by
  unfold rwLock
  split
  · exact h
  · split
    · exact h
    · rename_i h1 h2
      simp only [Bool.or_eq_true, decide_eq_true_eq, not_or, Bool.not_eq_true] at h2
      split
      · exact h.join h2.1 h2.2
      · rename_i h3
        simp only [Bool.or_eq_true, Bool.not_eq_true', not_or, Bool.not_eq_false] at h3
        have : L = [] := List.isEmpty_iff.1 h3.1
        subst this
        exact ⟨rising_put h.1 h2.1, by simp [tasks], fun t ht => by simp [tasks] at ht⟩
theorem lock_total (W : List Int) (wb : Bool) (L : List Wt) (x : Int) (r : Bool) : (rwLock W wb L x r).2.2.1.length + (rwLock W wb L x r).2.2.2.2.length ≤ W.length + L.length + 1 := by
  unfold rwLock
  split
  · exact Nat.le_succ _
  · split
    · exact Nat.le_succ _
    · split
      · simp; omega
      · show (putI W x).length + L.length ≤ _
        rw [putI_len]; omega
/-- A writer holds it alone; nobody waits where nobody holds it. -/
def Fair (W : List Int) (wb : Bool) (L : List Wt) : Prop := (wb = true → W.length ≤ 1) ∧ (W = [] → L = [])
theorem open_writer {W : List Int} {wb : Bool} (h : openB W wb false = true) : W = [] := by
  unfold openB at h
  simpa using h
theorem put_ne (W : List Int) (x : Int) : putI W x ≠ [] := fun h => by have := putI_len W x; rw [h] at this; simp at this
theorem drain_fair : ∀ (L : List Wt) (W : List Int) (wb : Bool), (wb = true → W.length ≤ 1) → Fair (drain W wb L).1 (drain W wb L).2.1 (drain W wb L).2.2.1
  | [], W, wb, h => ⟨h, fun _ => rfl⟩
  | y :: l, W, wb, h => by
    unfold drain
    split
    · rename_i ho
      refine drain_fair l _ _ fun hr => ?_
      have hr' : y.r = false := by simpa using hr
      rw [hr'] at ho
      rw [open_writer ho]
      simp [putI]
    · rename_i ho
      exact ⟨h, fun hW => by
        exfalso
        apply ho
        have : W = [] := hW
        unfold openB
        rw [this]
        rfl⟩
theorem fair_unlock {W : List Int} {wb : Bool} {L : List Wt} (h : Fair W wb L) (x : Int) (r : Bool) : Fair (rwUnlock W wb L x r).2.2.1 (rwUnlock W wb L x r).2.2.2.1 (rwUnlock W wb L x r).2.2.2.2 := by
  unfold rwUnlock
  split
  · exact drain_fair L _ wb fun hw => Nat.le_trans (List.length_filter_le _ _) (h.1 hw)
  · exact h
theorem fair_lock {W : List Int} {wb : Bool} {L : List Wt} (h : Fair W wb L) (x : Int) (r : Bool) : Fair (rwLock W wb L x r).2.2.1 (rwLock W wb L x r).2.2.2.1 (rwLock W wb L x r).2.2.2.2 := by
  unfold rwLock
  split
  · exact h
  · split
    · exact h
    · split
      · rename_i h3
        refine ⟨h.1, fun hW => ?_⟩
        have hW' : W = [] := hW
        have := h.2 hW'
        subst hW' this
        simp [openB] at h3
      · rename_i h3
        simp only [Bool.or_eq_true, Bool.not_eq_true', not_or, Bool.not_eq_false] at h3
        refine ⟨fun hr => ?_, fun hW => absurd hW (put_ne W x)⟩
        have hr' : r = false := by simpa using hr
        have ho := h3.2
        rw [hr'] at ho
        show (putI W x).length ≤ 1
        rw [open_writer ho]
        simp [putI]
/-- Who asks while somebody waits does not have it. -/
theorem lock_waits {W : List Int} {wb : Bool} {L : List Wt} (h : L ≠ []) (x : Int) (r : Bool) : (rwLock W wb L x r).1 = false := by
  unfold rwLock
  split
  · rfl
  · split
    · rfl
    · split
      · rfl
      · rename_i h3
        exfalso
        simp only [Bool.or_eq_true, Bool.not_eq_true', not_or, Bool.not_eq_false] at h3
        exact h (List.isEmpty_iff.1 h3.1)
theorem Holds.newRR {B : Nat} {w0 w : World} {Q : SP} (h : Holds B w0 w Q) (hQ : Stable Q) : Holds B w0 (w.alloc (.cells #[.slice none 0 0, .bool false, .slice none 0 0] 29)) (star (rrP w.heap.size [] false []) Q) :=
  h.more hQ (rrP_new w) ((Keep.same _ _).alloc _) (fun k hk => by omega)
end Go.Proofs.Ytmohpjkbhpgidaa.A
