/-
  The scheduler: what a run makes, in plain Lean; Ready, Ended and Step by it; what stays good.
-/
import Derived.Test.YtmohpjkbhpgidaaYB
import Derived.Test.YtmohpjkbhpgidaaYC
import Derived.Test.YtmohpjkbhpgidaaYF
namespace Go.Proofs.Ytmohpjkbhpgidaa.A
open Go.RowKit Go.Proofs.Ytmohpjkbhpgidaa.U
set_option linter.unusedVariables false
set_option linter.unusedSimpArgs false
set_option maxRecDepth 100000
set_option maxHeartbeats 800000

/-- What an object makes of an operation: whether it waits, who goes on, the error, itself, the task. -/
structure Ans where
  wait : Bool
  wk : List Int
  er : Int
  st : OS
  tk : Tk
def doS (s : OS) (x : Op3) (id : Int) (T : Tk) : Ans :=
  match s with
  | .m h who L =>
    if x.k = 1 then ⟨!(mLock h who L id).1, [], (mLock h who L id).2.1, .m (mLock h who L id).2.2.1 (mLock h who L id).2.2.2.1 (mLock h who L id).2.2.2.2, T⟩
    else ⟨false, wakeL (mUnlock h who L id).1 (mUnlock h who L id).2.1, (mUnlock h who L id).2.1, .m (mUnlock h who L id).2.2.1 (mUnlock h who L id).2.2.2.1 (mUnlock h who L id).2.2.2.2, T⟩
  | .r W wr L =>
    if x.k = 1 ∨ x.k = 3 then ⟨!(rwLock W wr L id (x.k == 3)).1, [], (rwLock W wr L id (x.k == 3)).2.1, .r (rwLock W wr L id (x.k == 3)).2.2.1 (rwLock W wr L id (x.k == 3)).2.2.2.1 (rwLock W wr L id (x.k == 3)).2.2.2.2, T⟩
    else ⟨false, (rwUnlock W wr L id (x.k == 4)).1, (rwUnlock W wr L id (x.k == 4)).2.1, .r (rwUnlock W wr L id (x.k == 4)).2.2.1 (rwUnlock W wr L id (x.k == 4)).2.2.2.1 (rwUnlock W wr L id (x.k == 4)).2.2.2.2, T⟩
  | .g n L =>
    if x.k = 5 then ⟨false, gR n x.n L, gE n x.n, .g (gN n x.n) (gL n x.n L), T⟩
    else ⟨!(wB n L id), [], wE L id, .g n (wL n L id), T⟩
  | .o W ov L =>
    if x.k = 8 then (if onceOk T x then ⟨false, fR W id L, fE W id, .o (fW W id) (fO W id ov) (fL W id L), T.pop⟩ else ⟨false, [], 1, .o W ov L, T⟩)
    else ⟨dWait W ov L id, [], dE W L id, .o (dW W ov L id) ov (dL W ov L id), if dE W L id ≠ 0 then T else if dRun W ov L id then T.push x.obj else T.past⟩
theorem doS_kd (s : OS) (x : Op3) (id : Int) (T : Tk) : (doS s x id T).st.kd = s.kd := by
  cases s <;> unfold doS
  · dsimp only; split <;> rfl
  · dsimp only; split <;> rfl
  · dsimp only; split <;> rfl
  · dsimp only
    split
    · split <;> rfl
    · rfl
/-- How much of an object there is at most; who waits is a task. -/
def OS.ok (k n : Nat) : OS → Prop
  | .m h who L => L.length ≤ k ∧ ∀ y ∈ L, 0 ≤ y.t ∧ y.t < n
  | .r W wr L => W.length + L.length ≤ k ∧ Good W L ∧ ∀ y ∈ L, 0 ≤ y.t ∧ y.t < n
  | .g c L => 0 ≤ c ∧ c ≤ 1073741824 ∧ L.length ≤ k ∧ ∀ t ∈ L, 0 ≤ t ∧ t < n
  | .o W ov L => L.length ≤ k ∧ ∀ t ∈ L, 0 ≤ t ∧ t < n
theorem gd_nil : Good [] [] := ⟨fun i j x y _ hx _ => by simp at hx, by simp [tasks], fun t ht => by simp [tasks] at ht⟩
theorem fresh_ok (kd : Int) (k n : Nat) : (fresh kd).ok k n := by
  unfold fresh
  split
  · exact ⟨Nat.zero_le _, fun y hy => by cases hy⟩
  · split
    · exact ⟨Nat.zero_le _, gd_nil, fun y hy => by cases hy⟩
    · split
      · exact ⟨by omega, by omega, Nat.zero_le _, fun y hy => by cases hy⟩
      · exact ⟨Nat.zero_le _, fun y hy => by cases hy⟩
theorem OS.ok.more {k k' n : Nat} {s : OS} (h : s.ok k n) (hk : k ≤ k') : s.ok k' n := by
  cases s with
  | m h0 who L => exact ⟨Nat.le_trans h.1 hk, h.2⟩
  | r W wr L => exact ⟨Nat.le_trans h.1 hk, h.2⟩
  | g c L => exact ⟨h.1, h.2.1, Nat.le_trans h.2.2.1 hk, h.2.2.2⟩
  | o W ov L => exact ⟨Nat.le_trans h.1 hk, h.2⟩
theorem mLock_ok {h : Bool} {who : Int} {L : List Wt} {id : Int} {k n : Nat} (ho : OS.ok k n (.m h who L)) (hid : 0 ≤ id ∧ id < n) : OS.ok (k + 1) n (.m (mLock h who L id).2.2.1 (mLock h who L id).2.2.2.1 (mLock h who L id).2.2.2.2) := by
  have h0 : OS.ok (k + 1) n (.m h who L) := ho.more (by omega)
  unfold mLock
  split
  · exact h0
  · split
    · exact h0
    · split
      · refine ⟨by simp; have := ho.1; omega, fun y hy => ?_⟩
        rcases List.mem_append.1 hy with hy | hy
        · exact ho.2 y hy
        · rw [List.mem_singleton.1 hy]; exact hid
      · exact h0
theorem mUnlock_ok {h : Bool} {who : Int} {L : List Wt} {id : Int} {k n : Nat} (ho : OS.ok k n (.m h who L)) : OS.ok (k + 1) n (.m (mUnlock h who L id).2.2.1 (mUnlock h who L id).2.2.2.1 (mUnlock h who L id).2.2.2.2) ∧ ∀ u ∈ wakeL (mUnlock h who L id).1 (mUnlock h who L id).2.1, 0 ≤ u ∧ u < n := by
  have h0 : OS.ok (k + 1) n (.m h who L) := ho.more (by omega)
  unfold mUnlock
  split
  · exact ⟨h0, fun u hu => by simp [wakeL] at hu⟩
  · cases L with
    | nil => exact ⟨h0, fun u hu => by simp [wakeL] at hu⟩
    | cons y l =>
      refine ⟨⟨by have := ho.1; simp at this ⊢; omega, fun z hz => ho.2 z (List.mem_cons_of_mem _ hz)⟩, fun u hu => ?_⟩
      have hy := ho.2 y List.mem_cons_self
      unfold wakeL at hu
      rw [if_pos ⟨rfl, hy.1⟩] at hu
      rw [List.mem_singleton.1 hu]
      exact hy
theorem rwLock_ok {W : List Int} {wr : Bool} {L : List Wt} {id : Int} {r : Bool} {k n : Nat} (ho : OS.ok k n (.r W wr L)) (hid : 0 ≤ id ∧ id < n) : OS.ok (k + 1) n (.r (rwLock W wr L id r).2.2.1 (rwLock W wr L id r).2.2.2.1 (rwLock W wr L id r).2.2.2.2) := by
  have h0 : OS.ok (k + 1) n (.r W wr L) := ho.more (by omega)
  unfold rwLock
  split
  · exact h0
  · split
    · exact h0
    · rename_i hc
      simp only [Bool.or_eq_true, decide_eq_true_eq, not_or, Bool.not_eq_true] at hc
      have hl := ho.1
      split
      · refine ⟨by show W.length + (L ++ [_]).length ≤ _; simp; omega, ho.2.1.join hc.1 hc.2, fun y hy => ?_⟩
        rcases List.mem_append.1 hy with hy | hy
        · exact ho.2.2 y hy
        · rw [List.mem_singleton.1 hy]; exact hid
      · rename_i hc2
        simp only [Bool.or_eq_true, Bool.not_eq_true', not_or, Bool.not_eq_false] at hc2
        have hLn : L = [] := List.isEmpty_iff.1 hc2.1
        subst hLn
        exact ⟨by show (putI W id).length + 0 ≤ _; rw [putI_len]; simp at hl; omega, ⟨rising_put ho.2.1.1 hc.1, by simp [tasks], fun t ht => by simp [tasks] at ht⟩, fun y hy => by cases hy⟩
theorem drain_ok {k n : Nat} : ∀ (L : List Wt) (W : List Int) (wr : Bool), OS.ok k n (.r W wr L) → OS.ok k n (.r (drain W wr L).1 (drain W wr L).2.1 (drain W wr L).2.2.1) ∧ (∀ u ∈ (drain W wr L).2.2.2, 0 ≤ u ∧ u < n)
  | [], W, wr, h => ⟨h, fun u hu => by cases hu⟩
  | y :: l, W, wr, h => by
    unfold drain
    split
    · obtain ⟨g1, g2⟩ := drain_ok (k := k) (n := n) l (putI W y.t) (!y.r) ⟨(by have := h.1; rw [putI_len]; simp at this; omega), h.2.1.give, fun z hz => h.2.2 z (List.mem_cons_of_mem _ hz)⟩
      refine ⟨g1, fun u hu => ?_⟩
      rcases List.mem_cons.1 hu with rfl | hu
      · exact h.2.2 y List.mem_cons_self
      · exact g2 u hu
    · exact ⟨h, fun u hu => by cases hu⟩
theorem rwUnlock_ok {W : List Int} {wr : Bool} {L : List Wt} {id : Int} {r : Bool} {k n : Nat} (ho : OS.ok k n (.r W wr L)) : OS.ok (k + 1) n (.r (rwUnlock W wr L id r).2.2.1 (rwUnlock W wr L id r).2.2.2.1 (rwUnlock W wr L id r).2.2.2.2) ∧ (∀ u ∈ (rwUnlock W wr L id r).1, 0 ≤ u ∧ u < n) ∧ (rwUnlock W wr L id r).1.length ≤ k := by
  have h0 : OS.ok (k + 1) n (.r W wr L) := ho.more (by omega)
  have hl : (dropI W id).length ≤ W.length := List.length_filter_le _ _
  unfold rwUnlock
  split
  · have h1 : OS.ok (k + 1) n (.r (dropI W id) wr L) := ⟨by have := ho.1; omega, ho.2.1.dropped, ho.2.2⟩
    obtain ⟨g1, g2⟩ := drain_ok L _ wr h1
    refine ⟨g1, g2, ?_⟩
    have := drain_len (dropI W id) wr L
    have := ho.1
    show (drain (dropI W id) wr L).2.2.2.length ≤ k
    omega
  · exact ⟨h0, fun u hu => (by cases hu), Nat.zero_le _⟩
theorem gN_ok {c d : Int} (h1 : 0 ≤ c) (h2 : c ≤ 1073741824) : 0 ≤ gN c d ∧ gN c d ≤ 1073741824 := by
  unfold gN
  by_cases he : gE c d = 0
  · rw [if_pos he]
    unfold gE at he
    by_cases ha : 1073741824 - c < d ∨ d < -1073741824
    · rw [if_pos ha] at he; exact absurd he (by decide)
    · rw [if_neg ha] at he
      by_cases hb : d < -c
      · rw [if_pos hb] at he; exact absurd he (by decide)
      · omega
  · rw [if_neg he]; exact ⟨h1, h2⟩
theorem doS_ok {s : OS} {x : Op3} {id : Int} {T : Tk} {k n : Nat} (ho : s.ok k n) (hid : 0 ≤ id ∧ id < n) : (doS s x id T).st.ok (k + 1) n ∧ (∀ u ∈ (doS s x id T).wk, 0 ≤ u ∧ u < n) ∧ (doS s x id T).wk.length ≤ k + 1 := by
  cases s with
  | m h who L =>
    unfold doS
    dsimp only
    split
    · exact ⟨mLock_ok ho hid, fun u hu => (by cases hu), Nat.zero_le _⟩
    · refine ⟨(mUnlock_ok ho).1, (mUnlock_ok ho).2, ?_⟩
      show (wakeL _ _).length ≤ k + 1
      unfold wakeL
      split <;> simp
  | r W wr L =>
    unfold doS
    dsimp only
    split
    · exact ⟨rwLock_ok ho hid, fun u hu => (by cases hu), Nat.zero_le _⟩
    · obtain ⟨g1, g2, g3⟩ := rwUnlock_ok (id := id) (r := x.k == 4) ho
      exact ⟨g1, g2, by show (rwUnlock W wr L id (x.k == 4)).1.length ≤ k + 1; omega⟩
  | g c L =>
    obtain ⟨h1, h2, h3, h4⟩ := ho
    unfold doS
    dsimp only
    split
    · refine ⟨⟨?_, ?_, ?_, ?_⟩, ?_, ?_⟩
      · exact (gN_ok h1 h2).1
      · exact (gN_ok h1 h2).2
      · unfold gL; split
        · exact Nat.zero_le _
        · omega
      · unfold gL; split
        · intro t ht; cases ht
        · exact h4
      · show ∀ u ∈ gR c x.n L, _
        unfold gR; split
        · exact h4
        · intro t ht; cases ht
      · show (gR c x.n L).length ≤ _
        unfold gR; split
        · omega
        · exact Nat.zero_le _
    · refine ⟨⟨h1, h2, ?_, ?_⟩, fun u hu => (by cases hu), Nat.zero_le _⟩
      · unfold wL; split
        · omega
        · simp; omega
      · unfold wL; split
        · exact h4
        · intro t ht
          rcases List.mem_append.1 ht with ht | ht
          · exact h4 t ht
          · rw [List.mem_singleton.1 ht]; exact hid
  | o W ov L =>
    obtain ⟨h1, h2⟩ := ho
    unfold doS
    dsimp only
    split
    · split
      · refine ⟨⟨?_, ?_⟩, ?_, ?_⟩
        · unfold fL; split
          · exact Nat.zero_le _
          · omega
        · unfold fL; split
          · intro t ht; cases ht
          · exact h2
        · show ∀ u ∈ fR W id L, _
          unfold fR; split
          · exact h2
          · intro t ht; cases ht
        · show (fR W id L).length ≤ _
          unfold fR; split
          · omega
          · exact Nat.zero_le _
      · exact ⟨⟨by omega, h2⟩, fun u hu => (by cases hu), Nat.zero_le _⟩
    · refine ⟨⟨?_, ?_⟩, fun u hu => (by cases hu), Nat.zero_le _⟩
      · unfold dL; split
        · simp; omega
        · omega
      · unfold dL; split
        · intro t ht
          rcases List.mem_append.1 ht with ht | ht
          · exact h2 t ht
          · rw [List.mem_singleton.1 ht]; exact hid
        · exact h2
def fnOf (kd : Int) : Nat := if kd = 109 then 134 else if kd = 119 then 135 else if kd = 103 then 136 else 137
theorem do_method (s : OS) (v : Value) (w : World) : (method 302 (tyOf s.kd) v "latchkey/sched.do").run Try.prog w = .ok (fnOf s.kd, v) w := by
  cases s
  · show (method 302 172 v "latchkey/sched.do").run Try.prog w = .ok (134, v) w; kernel_rfl
  · show (method 302 174 v "latchkey/sched.do").run Try.prog w = .ok (135, v) w; kernel_rfl
  · show (method 302 176 v "latchkey/sched.do").run Try.prog w = .ok (136, v) w; kernel_rfl
  · show (method 302 178 v "latchkey/sched.do").run Try.prog w = .ok (137, v) w; kernel_rfl
theorem kind_cases {k n : Int} {s : OS} (h : kindO k n = some s.kd) : match s with
    | .m .. => (k = 1 ∨ k = 2) ∧ n = 0
    | .r .. => (k = 1 ∨ k = 2 ∨ k = 3 ∨ k = 4) ∧ ((k = 1 ∨ k = 2) → n = 1)
    | .g .. => k = 5 ∨ k = 6
    | .o .. => k = 7 ∨ k = 8 := by
  unfold kindO at h
  cases s <;> simp only [OS.kd] at h ⊢ <;> (repeat' split at h) <;> first | (simp at h; done) | omega
section
variable {B : Nat} {w0 w : World} {Q : SP} {b bm : Nat} {X : List (Nat × Tk)} {O : List Ob}
theorem x_find (h : Holds B w0 w (star (schP b X bm O) Q)) (hQ : Stable Q) (x : Op3) (kd : Int) (hk : kindO x.k x.n = some kd) :
    Calls Try.prog 91 #[.pointer (some ⟨b, 0, none⟩), x.val] w (FindPost B w0 b X bm O (kd, x.obj) Q) := by
  have hc : ((x.k = 1 ∧ x.n = 0) ∨ (x.k = 2 ∧ x.n = 0)) ∧ kd = 109 ∨ ((x.k = 1 ∧ x.n = 1) ∨ (x.k = 2 ∧ x.n = 1) ∨ x.k = 3 ∨ x.k = 4) ∧ kd = 119 ∨ (x.k = 5 ∨ x.k = 6) ∧ kd = 103 ∨ (x.k = 7 ∨ x.k = 8) ∧ kd = 111 := by
    unfold kindO at hk
    (repeat' split at hk) <;> first | (simp at hk; done) | (injection hk with hk; subst hk; omega)
  rcases look_ob O (kd, x.obj) with ⟨h1, h2⟩ | ⟨i, o, h1, h2, h3, h4⟩
  · rcases hc with ⟨⟨hx, hn⟩ | ⟨hx, hn⟩, rfl⟩ | ⟨⟨hx, hn⟩ | ⟨hx, hn⟩ | hx | hx, rfl⟩ | ⟨hx | hx, rfl⟩ | ⟨hx | hx, rfl⟩
    · exact find_new1_0 h hQ x hx hn h1 h2
    · exact find_new2_0 h hQ x hx hn h1 h2
    · exact find_new1_1 h hQ x hx hn h1 h2
    · exact find_new2_1 h hQ x hx hn h1 h2
    · exact find_new3 h hQ x hx h1 h2
    · exact find_new4 h hQ x hx h1 h2
    · exact find_new5 h hQ x hx h1 h2
    · exact find_new6 h hQ x hx h1 h2
    · exact find_new7 h hQ x hx h1 h2
    · exact find_new8 h hQ x hx h1 h2
  · rcases hc with ⟨⟨hx, hn⟩ | ⟨hx, hn⟩, rfl⟩ | ⟨⟨hx, hn⟩ | ⟨hx, hn⟩ | hx | hx, rfl⟩ | ⟨hx | hx, rfl⟩ | ⟨hx | hx, rfl⟩
    · exact find_old1_0 h hQ x hx hn i o h1 h2 h3 h4
    · exact find_old2_0 h hQ x hx hn i o h1 h2 h3 h4
    · exact find_old1_1 h hQ x hx hn i o h1 h2 h3 h4
    · exact find_old2_1 h hQ x hx hn i o h1 h2 h3 h4
    · exact find_old3 h hQ x hx i o h1 h2 h3 h4
    · exact find_old4 h hQ x hx i o h1 h2 h3 h4
    · exact find_old5 h hQ x hx i o h1 h2 h3 h4
    · exact find_old6 h hQ x hx i o h1 h2 h3 h4
    · exact find_old7 h hQ x hx i o h1 h2 h3 h4
    · exact find_old8 h hQ x hx i o h1 h2 h3 h4
/-- What a task is at most. -/
structure Tk.small (T : Tk) : Prop where
  ops : T.ops.length ≤ 1000000
  at_ : T.at_ ≤ T.ops.length
  runs : T.runs.length ≤ 1000000
theorem ans_perm {wait : Bool} {wk : List Int} {er : Int} {P P' : SP} {e : Ending} {w' : World} (h : AnsPost B w0 wait wk er P e w') (hp : P = P') : AnsPost B w0 wait wk er P' e w' := by rw [← hp]; exact h
theorem o_do {s : OS} {g bt : Nat} {T : Tk} {x : Op3} {id : Int} (h : Holds B w0 w (star (OS.P g s) (star (taskP bt T) Q))) (hQ : Stable Q) {k n : Nat} (ho : s.ok k n) (hk : k ≤ 500000) (hT : T.small) (hx : kindO x.k x.n = some s.kd) (hd : -9223372036854775808 ≤ x.n) (hd' : x.n ≤ 9223372036854775807) :
    Calls Try.prog (fnOf s.kd) #[.agg #[.pointer (some ⟨g, 0, none⟩)], .pointer (some ⟨bt, 0, none⟩), .int .i64 id, x.val] w (AnsPost B w0 (doS s x id T).wait (doS s x id T).wk (doS s x id T).er (star (OS.P g (doS s x id T).st) (star (taskP bt (doS s x id T).tk) Q))) := by
  have hTQ : Stable (star (taskP bt T) Q) := (taskP_stable _ _).star hQ
  have hc := kind_cases hx
  cases s with
  | m h0 who L =>
    obtain ⟨hk1 | hk1, hn⟩ := hc
    · unfold doS
      dsimp only
      rw [if_pos hk1]
      exact do_lock h hTQ (by have := ho.1; omega) hk1
    · unfold doS
      dsimp only
      rw [if_neg (by omega)]
      exact do_unlock h hTQ (by have := ho.1; omega) hk1
  | r W wr L =>
    have hl := ho.1
    rcases hc.1 with hk1 | hk1 | hk1 | hk1
    · have := do_rlock1 (tv := .pointer (some ⟨bt, 0, none⟩)) (id := id) h hTQ (by omega) (by omega) ho.2.1.1 hk1
      unfold doS
      dsimp only
      rw [if_pos (.inl hk1), show (x.k == 3) = false by simp [hk1]]
      exact this
    · have := do_runlock2 (tv := .pointer (some ⟨bt, 0, none⟩)) (id := id) h hTQ (by omega) (by omega) ho.2.1 hk1
      unfold doS
      dsimp only
      rw [if_neg (by omega), show (x.k == 4) = false by simp [hk1]]
      exact this
    · have := do_rlock3 (tv := .pointer (some ⟨bt, 0, none⟩)) (id := id) h hTQ (by omega) (by omega) ho.2.1.1 hk1
      unfold doS
      dsimp only
      rw [if_pos (.inr hk1), show (x.k == 3) = true by simp [hk1]]
      exact this
    · have := do_runlock4 (tv := .pointer (some ⟨bt, 0, none⟩)) (id := id) h hTQ (by omega) (by omega) ho.2.1 hk1
      unfold doS
      dsimp only
      rw [if_neg (by omega), show (x.k == 4) = true by simp [hk1]]
      exact this
  | g c L =>
    obtain ⟨h1, h2, h3, h4⟩ := ho
    rcases hc with hk1 | hk1
    · unfold doS
      dsimp only
      rw [if_pos hk1]
      exact do_gadd h hTQ h1 h2 hd hd' hk1
    · unfold doS
      dsimp only
      rw [if_neg (by omega)]
      exact do_gwait h hTQ (by omega) hk1
  | o W ov L =>
    obtain ⟨h1, h2⟩ := ho
    rcases hc with hk1 | hk1
    · have hL : L.length ≤ 1000000 := by omega
      unfold doS
      dsimp only
      rw [if_neg (by omega)]
      by_cases he : dE W L id = 0
      · rw [if_neg (by simp [he])]
        cases hr : dRun W ov L id with
        | true =>
          refine (do_dor h hQ hL hk1 he hr hT.runs).mono fun e w' hp => ?_
          exact ans_perm hp (by rw [if_pos rfl]; dsimp only [OS.P]; ac_rfl)
        | false =>
          refine (do_dos h hQ hL hk1 he hr hT.ops hT.at_).mono fun e w' hp => ?_
          exact ans_perm hp (by rw [if_neg (by simp)]; dsimp only [OS.P]; ac_rfl)
      · rw [if_pos he]
        exact (do_doe h hQ hL hk1 he).mono fun e w' hp => ans_perm hp (by dsimp only [OS.P]; ac_rfl)
    · unfold doS
      dsimp only
      rw [if_pos hk1]
      cases hon : onceOk T x with
      | true =>
        rw [if_pos rfl]
        exact (do_endy h hQ hk1 hT.runs hon).mono fun e w' hp => ans_perm hp (by dsimp only [OS.P]; ac_rfl)
      | false =>
        rw [if_neg (by simp)]
        rcases Nat.eq_zero_or_pos T.runs.length with h0 | h0
        · exact (do_end0 h hQ hk1 h0).mono fun e w' hp => ans_perm hp (by dsimp only [OS.P]; ac_rfl)
        · exact (do_endn h hQ hk1 h0 hT.runs hon).mono fun e w' hp => ans_perm hp (by dsimp only [OS.P]; ac_rfl)
theorem obM_set {i : Nat} {o o' : Ob} (h : O[i]? = some o) (hn : o'.num = o.num) (hg : o'.g = o.g) (hkd : o'.st.kd = o.st.kd) : obM (O.set i o') = obM O := by
  unfold obM
  apply List.ext_getElem?
  intro j
  rw [List.getElem?_map, List.getElem?_map, List.getElem?_set]
  by_cases hj : i = j
  · subst hj
    have hl := (List.getElem?_eq_some_iff.1 h).1
    rw [if_pos rfl, if_pos hl, h]
    show some (o'.key, o'.v) = some (o.key, o.v)
    unfold Ob.v Ob.key
    rw [hn, hg, hkd]
  · rw [if_neg hj]
/-- An object taken out of the scheduler, and put back otherwise. -/
theorem sch_ob {i : Nat} {o : Ob} (h : Holds B w0 w (star (schP b X bm O) Q)) (hQ : Stable Q) (ho : O[i]? = some o) :
    ∃ R, Stable R ∧ Holds B w0 w (star o.P (star R (star (coreP b X bm) (star (mapP bm (obM O)) Q)))) ∧
      ∀ (w' : World) (o' : Ob) (X' : List (Nat × Tk)) (Q' : SP), o'.num = o.num → o'.g = o.g → o'.st.kd = o.st.kd → Holds B w0 w' (star o'.P (star R (star (coreP b X' bm) (star (mapP bm (obM O)) Q')))) → Holds B w0 w' (star (schP b X' bm (O.set i o')) Q') := by
  obtain ⟨R, hR, e1, e2⟩ := obsP_take O i o ho
  refine ⟨R, hR, ?_, fun w' o' X' Q' hn hg hkd h' => ?_⟩
  · have g : Holds B w0 w (star (star (coreP b X bm) (star (mapP bm (obM O)) (star o.P R))) Q) := by rw [← e1]; exact h
    exact g.perm (by ac_rfl)
  · show Holds B w0 w' (star (star (coreP b X' bm) (star (mapP bm (obM (O.set i o'))) (obsP (O.set i o')))) Q')
    rw [obM_set ho hn hg hkd, e2]
    exact h'.perm (by ac_rfl)
end
end Go.Proofs.Ytmohpjkbhpgidaa.A
namespace Go.Proofs.Ytmohpjkbhpgidaa.A
open Go.RowKit Go.Proofs.Ytmohpjkbhpgidaa.U
set_option linter.unusedVariables false
set_option linter.unusedSimpArgs false
set_option maxRecDepth 100000
set_option maxHeartbeats 1600000

theorem ptrs_set {X : List (Nat × Tk)} {i : Nat} {x : Nat × Tk} (h : X[i]? = some x) (T : Tk) : ptrs (X.set i (x.1, T)) = ptrs X := by
  unfold ptrs
  apply List.ext_getElem?
  intro j
  rw [List.getElem?_map, List.getElem?_map, List.getElem?_set]
  by_cases hj : i = j
  · subst hj
    have hl := (List.getElem?_eq_some_iff.1 h).1
    rw [if_pos rfl, if_pos hl, h]; rfl
  · rw [if_neg hj]
/-- A task taken out of the scheduler, and put back otherwise. -/
theorem core_task {B : Nat} {w0 w : World} {Q : SP} {b bm i : Nat} {X : List (Nat × Tk)} {x : Nat × Tk} (h : Holds B w0 w (star (coreP b X bm) Q)) (hQ : Stable Q) (hx : X[i]? = some x) :
    ∃ (A A1 A2 : Option Addr) (c c1 c2 : Nat) (R : SP), Stable R ∧
      Holds B w0 w (star (blkP x.1 143 (x.2.cs A1 A2 c1 c2)) (star (orow x.2 A1 c1) (star (nrow x.2 A2 c2) (star (blkP b 139 #[.slice A X.length c, .map (some bm)]) (star (rowP 140 1 (.slice A X.length c) X.length (ptrs X)) (star R Q)))))) ∧
      ∀ (w' : World) (T : Tk) (Q' : SP), Holds B w0 w' (star (taskP x.1 T) (star (blkP b 139 #[.slice A X.length c, .map (some bm)]) (star (rowP 140 1 (.slice A X.length c) X.length (ptrs X)) (star R Q')))) → Holds B w0 w' (star (coreP b (X.set i (x.1, T)) bm) Q') := by
  obtain ⟨A, c, h1⟩ := core_open h
  obtain ⟨R, hR, e1, e2⟩ := allP_take X i x hx
  rw [e1] at h1
  have h2 : Holds B w0 w (star (taskP x.1 x.2) (star (blkP b 139 #[.slice A X.length c, .map (some bm)]) (star (rowP 140 1 (.slice A X.length c) X.length (ptrs X)) (star R Q)))) := h1.perm (by ac_rfl)
  obtain ⟨A1, A2, c1, c2, h3⟩ := task_open h2
  refine ⟨A, A1, A2, c, c1, c2, R, hR, h3, fun w' T Q' h4 => ?_⟩
  refine core_close (A := A) (c := c) ?_
  rw [List.length_set, ptrs_set hx, e2]
  exact h4.perm (by ac_rfl)
def Tk.next (T : Tk) : Tk := { T with at_ := T.at_ + 1 }
abbrev evCs (id : Int) (at_ : Nat) (e : Int) : Array Value := #[.int .i64 id, .int .i64 at_, .int .i64 e]
section
variable {B : Nat} {w0 w : World} {Q : SP} {b bm : Nat} {X : List (Nat × Tk)} {O : List Ob}
/-- A step of a task that is none, or not ready. -/
def StepNo (B : Nat) (w0 : World) (P : SP) (e : Ending) (w' : World) : Prop := e = .returned (.tuple #[.agg #[.int .i64 0, .int .i64 0, .int .i64 0], .int .i64 1]) ∧ Holds B w0 w' P
def StepOk (B : Nat) (w0 : World) (id : Int) (at_ : Nat) (er : Int) (P : SP) (e : Ending) (w' : World) : Prop := e = .returned (.tuple #[.agg (evCs id at_ er), .int .i64 0]) ∧ Holds B w0 w' P
theorem step_yield (h : Holds B w0 w (star (schP b X bm O) Q)) (hQ : Stable Q) (hl : X.length ≤ 1000000) (i : Nat) (t : Nat × Tk) (ht : X[i]? = some t) (hr : t.2.ready = true) (x : Op3) (hx : t.2.ops[t.2.at_]? = some x) (hk : x.k = 9) (hat : t.2.ops.length ≤ 1000000) :
    Calls Try.prog 62 #[.pointer (some ⟨b, 0, none⟩), .int .i64 i] w (StepOk B w0 i t.2.at_ 0 (star (schP b (X.set i (t.1, t.2.next)) bm O) Q)) := by
  have hu := Try.underlying139
  have hu2 := Try.underlying143
  have hu3 := Try.underlying103
  have hu4 := Try.underlying97
  have il := (List.getElem?_eq_some_iff.1 ht).1
  have HQ := Lib.hid hQ
  have S0 := Lib.hid (show Stable (star (schP b X bm O) Q) from schP_stable.star hQ)
  have h1 := h.newBlk S0.out 103 #[.int .i64 0, .int .i64 0, .int .i64 0]
  have SR := Lib.hid (show Stable (star (mapP bm (obM O)) (star (obsP O) (star (blkP w.heap.size 103 #[.int .i64 0, .int .i64 0, .int .i64 0]) Q))) from (mapP_stable _ _).star ((obsP_stable _).star ((blkP_stable _ _ _).star hQ)))
  have h2 : Holds B w0 (w.alloc (.cells #[.int .i64 0, .int .i64 0, .int .i64 0] 103)) (star (coreP b X bm) (star (mapP bm (obM O)) (star (obsP O) (star (blkP w.heap.size 103 #[.int .i64 0, .int .i64 0, .int .i64 0]) Q)))) := h1.perm (by unfold schP; ac_rfl)
  obtain ⟨A0, c0, TT⟩ := core_tasks h2 hl
  obtain ⟨ad, t', rfl, ht', hca, B1, B2, b1, b2, hbx⟩ := TT.at_ il
  obtain rfl : t' = t := by rw [ht] at ht'; injection ht' with e; exact e.symm
  have y0 := TT.blk.cell 0
  have RD := Lib.hid (ready90 _ t'.1 t'.2 B1 B2 b1 b2 hbx)
  rw [hr] at RD
  have H2 := Lib.hid h2
  have TK := Lib.hid TT
  have HT := Lib.hid ht
  have HR := Lib.hid hr
  have HX := Lib.hid hx
  have d9 : (x.k == 9) = true := by simp [hk]
  have HHAT := Lib.hid hat
  have HLX := Lib.hid hl
  clear h h1 h2 hQ ht ht' hr hx hk hbx TT hat
  go_enter Try.func62, Try.ntmps62
  go_wp2_with fail
  refine RD.out.mono ?_
  rintro e w1 ⟨rfl, hk1⟩
  have K1 := Lib.hid hk1
  have H3 := Lib.hid (H2.out.kept ((coreP_stable _ _ _).star SR.out) hk1)
  have y1 := hk1.cell y0 (fun h => h)
  have ca1 := hk1.cell hca (fun h => h)
  clear hk1 y0 hca
  obtain ⟨A9, A1, A2, c9, c1, c2, R, hR, h3, back⟩ := core_task H3.out SR.out HT.out
  have BK := Lib.hid back
  have RDY := HR.out
  unfold Tk.ready at RDY
  simp only [Bool.and_eq_true, Bool.not_eq_true', decide_eq_true_eq] at RDY
  have g3 : Holds B w0 w1 (star (orow t'.2 A1 c1) (star (blkP t'.1 143 (t'.2.cs A1 A2 c1 c2)) (star (nrow t'.2 A2 c2) (star (blkP b 139 #[.slice A9 X.length c9, .map (some bm)]) (star (rowP 140 1 (.slice A9 X.length c9) X.length (ptrs X)) (star R (star (mapP bm (obM O)) (star (obsP O) (star (blkP w.heap.size 103 #[.int .i64 0, .int .i64 0, .int .i64 0]) Q))))))))) := h3.perm (by ac_rfl)
  obtain ⟨ad2, x', rfl, hx', o0, o1, o2⟩ := op_at g3.row.src RDY.2
  obtain rfl : x' = x := by rw [HX.out] at hx'; injection hx' with e; exact e.symm
  have BT := blk_at' h3
  have t0 := BT.cell 0
  have t1 := BT.cell 1
  have SREST := Lib.hid (show Stable (star (orow t'.2 (some ad2) c1) (star (nrow t'.2 A2 c2) (star (blkP b 139 #[.slice A9 X.length c9, .map (some bm)]) (star (rowP 140 1 (.slice A9 X.length c9) X.length (ptrs X)) (star R (star (mapP bm (obM O)) (star (obsP O) (star (blkP w.heap.size 103 #[.int .i64 0, .int .i64 0, .int .i64 0]) Q)))))))) from (rowP_stable _ _ _ _ _).star ((rowP_stable _ _ _ _ _).star ((blkP_stable _ _ _).star ((rowP_stable _ _ _ _ _).star (hR.star SR.out)))))
  go_wp2_with fail
  have h4 := h3.newBlk ((blkP_stable _ _ _).star SREST.out) 97 x'.cs
  have h5 := h4.newBlk ((blkP_stable _ _ _).star ((blkP_stable _ _ _).star SREST.out)) 103 (evCs i t'.2.at_ 0)
  rw [size_alloc] at h5
  have h6 : Holds B w0 ((w1.alloc (.cells x'.cs 97)).alloc (.cells (evCs i t'.2.at_ 0) 103)) (star (blkP t'.1 143 (t'.2.cs (some ad2) A2 c1 c2)) (star (blkP (w1.heap.size + 1) 103 (evCs i t'.2.at_ 0)) (star (blkP w1.heap.size 97 x'.cs) (star (orow t'.2 (some ad2) c1) (star (nrow t'.2 A2 c2) (star (blkP b 139 #[.slice A9 X.length c9, .map (some bm)]) (star (rowP 140 1 (.slice A9 X.length c9) X.length (ptrs X)) (star R (star (mapP bm (obM O)) (star (obsP O) (star (blkP w.heap.size 103 #[.int .i64 0, .int .i64 0, .int .i64 0]) Q))))))))))) := h5.perm (by ac_rfl)
  have S6 := Lib.hid (show Stable (star (blkP (w1.heap.size + 1) 103 (evCs i t'.2.at_ 0)) (star (blkP w1.heap.size 97 x'.cs) (star (orow t'.2 (some ad2) c1) (star (nrow t'.2 A2 c2) (star (blkP b 139 #[.slice A9 X.length c9, .map (some bm)]) (star (rowP 140 1 (.slice A9 X.length c9) X.length (ptrs X)) (star R (star (mapP bm (obM O)) (star (obsP O) (star (blkP w.heap.size 103 #[.int .i64 0, .int .i64 0, .int .i64 0]) Q)))))))))) from (blkP_stable _ _ _).star ((blkP_stable _ _ _).star SREST.out))
  have B5 := (BT.alloc (.cells x'.cs 97))
  have v1 := B5.cell 1
  have B6 := blk_at' h6
  have s1 := B6.cell 1
  have f1 := B6.free 1
  have h7 := h6.setBlk S6.out 1 (.int .i64 ((t'.2.at_ : Int) + 1))
  have hw1 : IntKind.i64.wrap ((t'.2.at_ : Int) + 1) = (t'.2.at_ : Int) + 1 := by rw [IntKind.wrap_i64]; have := HHAT.out; omega
  have h8 : Holds B w0 (((w1.alloc (.cells x'.cs 97)).alloc (.cells (evCs i t'.2.at_ 0) 103)).setCell ⟨t'.1, 1, none⟩ (.int .i64 ((t'.2.at_ : Int) + 1))) (star (blkP w.heap.size 103 #[.int .i64 0, .int .i64 0, .int .i64 0]) (star (blkP t'.1 143 (t'.2.next.cs (some ad2) A2 c1 c2)) (star (blkP (w1.heap.size + 1) 103 (evCs i t'.2.at_ 0)) (star (blkP w1.heap.size 97 x'.cs) (star (orow t'.2 (some ad2) c1) (star (nrow t'.2 A2 c2) (star (blkP b 139 #[.slice A9 X.length c9, .map (some bm)]) (star (rowP 140 1 (.slice A9 X.length c9) X.length (ptrs X)) (star R (star (mapP bm (obM O)) (star (obsP O) Q))))))))))) := h7.perm (by
    show star (blkP t'.1 143 (t'.2.next.cs (some ad2) A2 c1 c2)) _ = _
    ac_rfl)
  have S8 : Stable (star (blkP t'.1 143 (t'.2.next.cs (some ad2) A2 c1 c2)) (star (blkP (w1.heap.size + 1) 103 (evCs i t'.2.at_ 0)) (star (blkP w1.heap.size 97 x'.cs) (star (orow t'.2 (some ad2) c1) (star (nrow t'.2 A2 c2) (star (blkP b 139 #[.slice A9 X.length c9, .map (some bm)]) (star (rowP 140 1 (.slice A9 X.length c9) X.length (ptrs X)) (star R (star (mapP bm (obM O)) (star (obsP O) Q)))))))))) := (blkP_stable _ _ _).star ((blkP_stable _ _ _).star ((blkP_stable _ _ _).star ((rowP_stable _ _ _ _ _).star ((rowP_stable _ _ _ _ _).star ((blkP_stable _ _ _).star ((rowP_stable _ _ _ _ _).star (hR.star ((mapP_stable _ _).star ((obsP_stable _).star HQ.out)))))))))
  have XO := blk_at' (show Holds B w0 _ (star (blkP w1.heap.size 97 x'.cs) _) from (h8.perm (show _ = star (blkP w1.heap.size 97 x'.cs) (star (blkP w.heap.size 103 #[.int .i64 0, .int .i64 0, .int .i64 0]) (star (blkP t'.1 143 (t'.2.next.cs (some ad2) A2 c1 c2)) (star (blkP (w1.heap.size + 1) 103 (evCs i t'.2.at_ 0)) (star (orow t'.2 (some ad2) c1) (star (nrow t'.2 A2 c2) (star (blkP b 139 #[.slice A9 X.length c9, .map (some bm)]) (star (rowP 140 1 (.slice A9 X.length c9) X.length (ptrs X)) (star R (star (mapP bm (obM O)) (star (obsP O) Q)))))))))) by ac_rfl)))
  have XE := blk_at' (show Holds B w0 _ (star (blkP (w1.heap.size + 1) 103 (evCs i t'.2.at_ 0)) _) from (h8.perm (show _ = star (blkP (w1.heap.size + 1) 103 (evCs i t'.2.at_ 0)) (star (blkP w.heap.size 103 #[.int .i64 0, .int .i64 0, .int .i64 0]) (star (blkP t'.1 143 (t'.2.next.cs (some ad2) A2 c1 c2)) (star (blkP w1.heap.size 97 x'.cs) (star (orow t'.2 (some ad2) c1) (star (nrow t'.2 A2 c2) (star (blkP b 139 #[.slice A9 X.length c9, .map (some bm)]) (star (rowP 140 1 (.slice A9 X.length c9) X.length (ptrs X)) (star R (star (mapP bm (obM O)) (star (obsP O) Q)))))))))) by ac_rfl)))
  have k0 := XO.cell 0
  have e0 := XE.cell 0
  have e1 := XE.cell 1
  have e2 := XE.cell 2
  obtain ⟨a0, n0, a1, n1, a2, n2, q0, q1, q2, p0, p1⟩ := store3 (blk_at' h8) (.int .i64 (i : Int)) (.int .i64 (t'.2.at_ : Int)) (.int .i64 0)
  have H9 := Lib.hid (held3 h8 S8 (.int .i64 (i : Int)) (.int .i64 (t'.2.at_ : Int)) (.int .i64 0))
  have HR9 := Lib.hid hR
  have RB := Lib.hid RDY.2
  have rb := RDY.2
  have tz0 := (BT.alloc (.cells #[.int .i64 0, .int .i64 0, .int .i64 0] 97)).cell 0
  have tz1 := (BT.alloc (.cells #[.int .i64 0, .int .i64 0, .int .i64 0] 97)).cell 1
  obtain ⟨oz0, oz1, oz2⟩ := OpAt.keep (x := x') ⟨o0, o1, o2⟩ ((Keep.same Nothing w1).alloc (.cells #[.int .i64 0, .int .i64 0, .int .i64 0] 97)) (fun h => h)
  clear h3 h4 h5 h6 h7 h8 S8 g3 BT B5 B6 XO XE hx' back hR RDY y1 ca1
  go_region
  all_goals
    go_wp2_with fail
    refine bodyPost_ret (v := .tuple #[.agg (evCs i t'.2.at_ 0), .int .i64 0]) (by simp [results, Try.results62, go_sem, hu3, q0, q1, q2]) rfl ?_
    refine ⟨rfl, ?_⟩
    have z1 := H9.out.drop
    have z2 : Holds B w0 _ (star (blkP (w1.heap.size + 1) 103 (evCs i t'.2.at_ 0)) (star (blkP w1.heap.size 97 x'.cs) (star (blkP t'.1 143 (t'.2.next.cs (some ad2) A2 c1 c2)) (star (orow t'.2.next (some ad2) c1) (star (nrow t'.2.next A2 c2) (star (blkP b 139 #[.slice A9 X.length c9, .map (some bm)]) (star (rowP 140 1 (.slice A9 X.length c9) X.length (ptrs X)) (star R (star (mapP bm (obM O)) (star (obsP O) Q)))))))))) := z1.perm (by
      show _ = star _ (star _ (star _ (star (orow t'.2 (some ad2) c1) (star (nrow t'.2 A2 c2) _))))
      ac_rfl)
    have z3 := BK.out _ t'.2.next (star (mapP bm (obM O)) (star (obsP O) Q)) (task_close z2.drop.drop)
    have z4 : Holds B w0 _ (star (schP b (X.set i (t'.1, t'.2.next)) bm O) Q) := z3.perm (by unfold schP; ac_rfl)
    exact z4.kept (schP_stable.star HQ.out) (by repeat (first | with_reducible (exact Keep.same _ _) | with_reducible (apply Keep.drew) | with_reducible (apply Keep.alloc)))
end
theorem step_none (w : World) (id : Int) : Calls Try.prog 62 #[.pointer none, .int .i64 id] w (fun e w' => e = .returned (.tuple #[.agg #[.int .i64 0, .int .i64 0, .int .i64 0], .int .i64 1]) ∧ Keep Nothing w w') := by
  have hu3 := Try.underlying103
  have Z := Blk.fresh w 103 #[.int .i64 0, .int .i64 0, .int .i64 0]
  obtain ⟨a0, n0, a1, n1, a2, n2, q0, q1, q2, p0, p1⟩ := store3 Z (.int .i64 0) (.int .i64 0) (.int .i64 0)
  clear Z
  go_enter Try.func62, Try.ntmps62
  go_wp2_with fail
  refine bodyPost_ret (v := .tuple #[.agg #[.int .i64 0, .int .i64 0, .int .i64 0], .int .i64 1]) (by simp [results, Try.results62, go_sem, hu3, q0, q1, q2]) rfl ?_
  exact ⟨rfl, by repeat (first | with_reducible (exact Keep.same _ _) | with_reducible (apply Keep.drew) | with_reducible (apply Keep.alloc) | refine Keep.set ?_ (.inr (Nat.le_refl _)) _)⟩
theorem ready61n (w : World) : Calls Try.prog 61 #[.pointer none] w (fun e w' => e = .returned (.slice none 0 0) ∧ Keep Nothing w w') := by
  have H := Lib.hid (show Calls Try.prog 89 #[.pointer none, .func (.func 90) #[] #[]] w (fun e w' => e = .returned (.slice none 0 0) ∧ Keep Nothing w w') by
    go_enter Try.func89, Try.ntmps89
    go_wp2_with fail
    go_ret
    exact ⟨rfl, Keep.same _ _⟩)
  go_enter Try.func61, Try.ntmps61
  go_wp2_with fail
  refine H.out.mono ?_
  rintro e w1 ⟨rfl, hk⟩
  have K := Lib.hid hk
  clear hk
  go_wp2_with fail
  go_ret
  exact ⟨rfl, K.out⟩
theorem blocked67n (w : World) : Calls Try.prog 67 #[.pointer none] w (fun e w' => e = .returned (.slice none 0 0) ∧ Keep Nothing w w') := by
  have H := Lib.hid (show Calls Try.prog 89 #[.pointer none, .func (.func 98) #[] #[]] w (fun e w' => e = .returned (.slice none 0 0) ∧ Keep Nothing w w') by
    go_enter Try.func89, Try.ntmps89
    go_wp2_with fail
    go_ret
    exact ⟨rfl, Keep.same _ _⟩)
  go_enter Try.func67, Try.ntmps67
  go_wp2_with fail
  refine H.out.mono ?_
  rintro e w1 ⟨rfl, hk⟩
  have K := Lib.hid hk
  clear hk
  go_wp2_with fail
  go_ret
  exact ⟨rfl, K.out⟩
theorem ended63n (w : World) : Calls Try.prog 63 #[.pointer none] w (fun e w' => e = .returned (.bool true) ∧ Keep Nothing w w') := by
  have H := Lib.hid (show Calls Try.prog 89 #[.pointer none, .func (.func 92) #[] #[]] w (fun e w' => e = .returned (.slice none 0 0) ∧ Keep Nothing w w') by
    go_enter Try.func89, Try.ntmps89
    go_wp2_with fail
    go_ret
    exact ⟨rfl, Keep.same _ _⟩)
  go_enter Try.func63, Try.ntmps63
  go_wp2_with fail
  refine H.out.mono ?_
  rintro e w1 ⟨rfl, hk⟩
  have K := Lib.hid hk
  clear hk
  go_wp2_with fail
  go_ret
  exact ⟨rfl, K.out⟩
def readyL (X : List (Nat × Tk)) : List Int := pickL Tk.ready X X.length
def openL (X : List (Nat × Tk)) : List Int := pickL Tk.open_ X X.length
theorem ready61 (w : World) (b : Nat) (X : List (Nat × Tk)) (A : Option Addr) (c : Nat) (m : Value) (h : Tasks w b X A c m) : Calls Try.prog 61 #[.pointer (some ⟨b, 0, none⟩)] w (PickPost (readyL X) w) := by
  have H := Lib.hid (pick_ready w b X A c m h)
  clear h
  go_enter Try.func61, Try.ntmps61
  go_wp2_with fail
  refine H.out.mono ?_
  rintro e w1 ⟨A1, c1, rfl, hr, hk, hf⟩
  have R := Lib.hid hr
  have K := Lib.hid hk
  have F := Lib.hid hf
  clear hr hk hf
  go_wp2_with fail
  go_ret
  exact ⟨A1, c1, rfl, R.out, K.out, F.out⟩
theorem ended63 (w : World) (b : Nat) (X : List (Nat × Tk)) (A : Option Addr) (c : Nat) (m : Value) (h : Tasks w b X A c m) : Calls Try.prog 63 #[.pointer (some ⟨b, 0, none⟩)] w (fun e w' => e = .returned (.bool (openL X).isEmpty) ∧ Keep Nothing w w') := by
  have H := Lib.hid (pick_open w b X A c m h)
  clear h
  go_enter Try.func63, Try.ntmps63
  go_wp2_with fail
  refine H.out.mono ?_
  rintro e w1 ⟨A1, c1, rfl, hr, hk, hf⟩
  have K := Lib.hid hk
  have E := Lib.hid (show (((pickL Tk.open_ X X.length).length : Int) == 0) = (openL X).isEmpty by
    unfold openL
    cases pickL Tk.open_ X X.length with
    | nil => rfl
    | cons a l => simp; omega)
  clear hr hk hf
  go_wp2_with fail
  go_ret
  exact ⟨by first | (rw [← E.out]; rfl) | (rw [← E.out]), K.out⟩
def blkL (X : List (Nat × Tk)) : List Int := pickL Tk.blk X X.length
theorem blocked67 (w : World) (b : Nat) (X : List (Nat × Tk)) (A : Option Addr) (c : Nat) (m : Value) (h : Tasks w b X A c m) : Calls Try.prog 67 #[.pointer (some ⟨b, 0, none⟩)] w (PickPost (blkL X) w) := by
  have H := Lib.hid (pick_blk w b X A c m h)
  clear h
  go_enter Try.func67, Try.ntmps67
  go_wp2_with fail
  refine H.out.mono ?_
  rintro e w1 ⟨A1, c1, rfl, hr, hk, hf⟩
  have R := Lib.hid hr
  have K := Lib.hid hk
  have F := Lib.hid hf
  clear hr hk hf
  go_wp2_with fail
  go_ret
  exact ⟨A1, c1, rfl, R.out, K.out, F.out⟩
end Go.Proofs.Ytmohpjkbhpgidaa.A
namespace Go.Proofs.Ytmohpjkbhpgidaa.A
open Go.RowKit Go.Proofs.Ytmohpjkbhpgidaa.U
set_option linter.unusedVariables false
set_option linter.unusedSimpArgs false
set_option maxRecDepth 100000
set_option maxHeartbeats 1600000

def wake1 (X : List (Nat × Tk)) (u : Int) : List (Nat × Tk) := match X[u.toNat]? with | some x => X.set u.toNat (x.1, { x.2 with blk := false }) | none => X
def wakeAll : List (Nat × Tk) → List Int → List (Nat × Tk)
  | X, [] => X
  | X, u :: l => wakeAll (wake1 X u) l
theorem wake1_len (X : List (Nat × Tk)) (u : Int) : (wake1 X u).length = X.length := by
  unfold wake1
  split
  · rw [List.length_set]
  · rfl
theorem wakeAll_len : ∀ (l : List Int) (X : List (Nat × Tk)), (wakeAll X l).length = X.length
  | [], X => rfl
  | u :: l, X => by
    show (wakeAll (wake1 X u) l).length = _
    rw [wakeAll_len l, wake1_len]
theorem wakeAll_push : ∀ (l : List Int) (X : List (Nat × Tk)) (u : Int), wakeAll X (l ++ [u]) = wake1 (wakeAll X l) u
  | [], X, u => rfl
  | v :: l, X, u => wakeAll_push l (wake1 X v) u
/-- The tasks out of the scheduler's block. -/
theorem core_out {B : Nat} {w0 w : World} {Q : SP} {b bm i : Nat} {X : List (Nat × Tk)} {x : Nat × Tk} (h : Holds B w0 w (star (coreP b X bm) Q)) (hQ : Stable Q) (hx : X[i]? = some x) :
    ∃ CR : SP, Stable CR ∧ Holds B w0 w (star (taskP x.1 x.2) (star CR Q)) ∧ ∀ (w' : World) (T : Tk) (Q' : SP), Holds B w0 w' (star (taskP x.1 T) (star CR Q')) → Holds B w0 w' (star (coreP b (X.set i (x.1, T)) bm) Q') := by
  obtain ⟨A, A1, A2, c, c1, c2, R, hR, h3, back⟩ := core_task h hQ hx
  refine ⟨star (blkP b 139 #[.slice A X.length c, .map (some bm)]) (star (rowP 140 1 (.slice A X.length c) X.length (ptrs X)) R), (blkP_stable _ _ _).star ((rowP_stable _ _ _ _ _).star hR), (task_close h3).perm (by ac_rfl), fun w' T Q' h => back w' T Q' (h.perm (by ac_rfl))⟩
theorem do_enter (s : OS) (args : Array Value) (w : World) : (callFunc (fnOf s.kd) args).run Try.prog w = .ok (.enter (fnOf s.kd) args) w := by
  cases s
  · show (callFunc 134 args).run Try.prog w = .ok (.enter 134 args) w; kernel_rfl
  · show (callFunc 135 args).run Try.prog w = .ok (.enter 135 args) w; kernel_rfl
  · show (callFunc 136 args).run Try.prog w = .ok (.enter 136 args) w; kernel_rfl
  · show (callFunc 137 args).run Try.prog w = .ok (.enter 137 args) w; kernel_rfl
section
variable {B : Nat} {w0 w : World} {Q : SP} {b bm : Nat} {X : List (Nat × Tk)} {O : List Ob}
/-- What a step of an object makes: O1 are the objects behind find, o the one meant. -/
def StepM (B : Nat) (w0 : World) (b : Nat) (X : List (Nat × Tk)) (bm : Nat) (O : List Ob) (kd : Int) (i : Nat) (t : Nat × Tk) (x : Op3) (Q : SP) (e : Ending) (w' : World) : Prop :=
  ∃ (O1 : List Ob) (j : Nat) (o : Ob), O1[j]? = some o ∧ o.key = (kd, x.obj) ∧ (∀ (j' : Nat) (o' : Ob), j' < j → O1[j']? = some o' → o'.key ≠ (kd, x.obj)) ∧ (O1 = O ∨ (O1 = O ++ [o] ∧ o.st = fresh kd ∧ ∀ o ∈ O, o.key ≠ (kd, x.obj))) ∧
    e = .returned (.tuple #[.agg (evCs i t.2.at_ (doS o.st x i t.2.next).er), .int .i64 0]) ∧
    Holds B w0 w' (star (schP b (wakeAll (X.set i (t.1, { (doS o.st x i t.2.next).tk with blk := (doS o.st x i t.2.next).wait && (doS o.st x i t.2.next).er == 0 })) (doS o.st x i t.2.next).wk) bm (O1.set j { o with st := (doS o.st x i t.2.next).st })) Q)
theorem step_obj (h : Holds B w0 w (star (schP b X bm O) Q)) (hQ : Stable Q) (hl : X.length ≤ 1000000) (i : Nat) (t : Nat × Tk) (ht : X[i]? = some t) (hr : t.2.ready = true) (x : Op3) (hx : t.2.ops[t.2.at_]? = some x) (hk9 : x.k ≠ 9) (kd : Int) (hk : kindO x.k x.n = some kd) (hat : t.2.ops.length ≤ 1000000) (hru : t.2.runs.length ≤ 1000000)
    (hd0 : -9223372036854775808 ≤ x.n) (hd1 : x.n ≤ 9223372036854775807) (k0 : Nat) (hk0 : k0 ≤ 500000) (hOK : ∀ o ∈ O, o.st.ok k0 X.length) :
    Calls Try.prog 62 #[.pointer (some ⟨b, 0, none⟩), .int .i64 i] w (StepM B w0 b X bm O kd i t x Q) := by
  have hu := Try.underlying139
  have hu2 := Try.underlying143
  have hu3 := Try.underlying103
  have hu4 := Try.underlying97
  have il := (List.getElem?_eq_some_iff.1 ht).1
  have HQ := Lib.hid hQ
  have S0 := Lib.hid (show Stable (star (schP b X bm O) Q) from schP_stable.star hQ)
  have h1 := h.newBlk S0.out 103 #[.int .i64 0, .int .i64 0, .int .i64 0]
  have SR := Lib.hid (show Stable (star (mapP bm (obM O)) (star (obsP O) (star (blkP w.heap.size 103 #[.int .i64 0, .int .i64 0, .int .i64 0]) Q))) from (mapP_stable _ _).star ((obsP_stable _).star ((blkP_stable _ _ _).star hQ)))
  have h2 : Holds B w0 (w.alloc (.cells #[.int .i64 0, .int .i64 0, .int .i64 0] 103)) (star (coreP b X bm) (star (mapP bm (obM O)) (star (obsP O) (star (blkP w.heap.size 103 #[.int .i64 0, .int .i64 0, .int .i64 0]) Q)))) := h1.perm (by unfold schP; ac_rfl)
  obtain ⟨A0, c0, TT⟩ := core_tasks h2 hl
  obtain ⟨ad, t', rfl, ht', hca, B1, B2, b1, b2, hbx⟩ := TT.at_ il
  obtain rfl : t' = t := by rw [ht] at ht'; injection ht' with e; exact e.symm
  have y0 := TT.blk.cell 0
  have RD := Lib.hid (ready90 _ t'.1 t'.2 B1 B2 b1 b2 hbx)
  rw [hr] at RD
  have H2 := Lib.hid h2
  have TK := Lib.hid TT
  have HT := Lib.hid ht
  have HR := Lib.hid hr
  have HX := Lib.hid hx
  have d9 : (x.k == 9) = false := by simp [hk9]
  have HKK := Lib.hid hk
  have HOK := Lib.hid hOK
  have HIL := Lib.hid il
  have HHAT := Lib.hid hat
  have HLX := Lib.hid hl
  have HRU := Lib.hid hru
  have HD0 := Lib.hid hd0
  have HD1 := Lib.hid hd1
  have HK0 := Lib.hid hk0
  clear h h1 h2 hQ ht ht' hr hx hk hk9 hbx TT hat hOK hru hd0 hd1 hk0
  go_enter Try.func62, Try.ntmps62
  go_wp2_with fail
  refine RD.out.mono ?_
  rintro e w1 ⟨rfl, hk1⟩
  have K1 := Lib.hid hk1
  have H3 := Lib.hid (H2.out.kept ((coreP_stable _ _ _).star SR.out) hk1)
  have y1 := hk1.cell y0 (fun h => h)
  have ca1 := hk1.cell hca (fun h => h)
  clear hk1 y0 hca
  obtain ⟨A9, A1, A2, c9, c1, c2, R, hR, h3, back⟩ := core_task H3.out SR.out HT.out
  have BK := Lib.hid back
  have RDY := HR.out
  unfold Tk.ready at RDY
  simp only [Bool.and_eq_true, Bool.not_eq_true', decide_eq_true_eq] at RDY
  have g3 : Holds B w0 w1 (star (orow t'.2 A1 c1) (star (blkP t'.1 143 (t'.2.cs A1 A2 c1 c2)) (star (nrow t'.2 A2 c2) (star (blkP b 139 #[.slice A9 X.length c9, .map (some bm)]) (star (rowP 140 1 (.slice A9 X.length c9) X.length (ptrs X)) (star R (star (mapP bm (obM O)) (star (obsP O) (star (blkP w.heap.size 103 #[.int .i64 0, .int .i64 0, .int .i64 0]) Q))))))))) := h3.perm (by ac_rfl)
  obtain ⟨ad2, x', rfl, hx', o0, o1, o2⟩ := op_at g3.row.src RDY.2
  obtain rfl : x' = x := by rw [HX.out] at hx'; injection hx' with e; exact e.symm
  have BT := blk_at' h3
  have t0 := BT.cell 0
  have t1 := BT.cell 1
  have SSTT := Lib.hid (show Stable (star (orow t'.2 (some ad2) c1) (star (nrow t'.2 A2 c2) (star (blkP b 139 #[.slice A9 X.length c9, .map (some bm)]) (star (rowP 140 1 (.slice A9 X.length c9) X.length (ptrs X)) (star R (star (mapP bm (obM O)) (star (obsP O) (star (blkP w.heap.size 103 #[.int .i64 0, .int .i64 0, .int .i64 0]) Q)))))))) from (rowP_stable _ _ _ _ _).star ((rowP_stable _ _ _ _ _).star ((blkP_stable _ _ _).star ((rowP_stable _ _ _ _ _).star (hR.star SR.out)))))
  go_wp2_with fail
  have h4 := h3.newBlk ((blkP_stable _ _ _).star SSTT.out) 97 x'.cs
  have h5 := h4.newBlk ((blkP_stable _ _ _).star ((blkP_stable _ _ _).star SSTT.out)) 103 (evCs i t'.2.at_ 0)
  rw [size_alloc] at h5
  have h6 : Holds B w0 ((w1.alloc (.cells x'.cs 97)).alloc (.cells (evCs i t'.2.at_ 0) 103)) (star (blkP t'.1 143 (t'.2.cs (some ad2) A2 c1 c2)) (star (blkP (w1.heap.size + 1) 103 (evCs i t'.2.at_ 0)) (star (blkP w1.heap.size 97 x'.cs) (star (orow t'.2 (some ad2) c1) (star (nrow t'.2 A2 c2) (star (blkP b 139 #[.slice A9 X.length c9, .map (some bm)]) (star (rowP 140 1 (.slice A9 X.length c9) X.length (ptrs X)) (star R (star (mapP bm (obM O)) (star (obsP O) (star (blkP w.heap.size 103 #[.int .i64 0, .int .i64 0, .int .i64 0]) Q))))))))))) := h5.perm (by ac_rfl)
  have S6 := Lib.hid (show Stable (star (blkP (w1.heap.size + 1) 103 (evCs i t'.2.at_ 0)) (star (blkP w1.heap.size 97 x'.cs) (star (orow t'.2 (some ad2) c1) (star (nrow t'.2 A2 c2) (star (blkP b 139 #[.slice A9 X.length c9, .map (some bm)]) (star (rowP 140 1 (.slice A9 X.length c9) X.length (ptrs X)) (star R (star (mapP bm (obM O)) (star (obsP O) (star (blkP w.heap.size 103 #[.int .i64 0, .int .i64 0, .int .i64 0]) Q)))))))))) from (blkP_stable _ _ _).star ((blkP_stable _ _ _).star SSTT.out))
  have B5 := (BT.alloc (.cells x'.cs 97))
  have v1 := B5.cell 1
  have B6 := blk_at' h6
  have s1 := B6.cell 1
  have f1 := B6.free 1
  have h7 := h6.setBlk S6.out 1 (.int .i64 ((t'.2.at_ : Int) + 1))
  have hw1 : IntKind.i64.wrap ((t'.2.at_ : Int) + 1) = (t'.2.at_ : Int) + 1 := by rw [IntKind.wrap_i64]; have := HHAT.out; omega
  have z2 : Holds B w0 (((w1.alloc (.cells x'.cs 97)).alloc (.cells (evCs i t'.2.at_ 0) 103)).setCell ⟨t'.1, 1, none⟩ (.int .i64 ((t'.2.at_ : Int) + 1))) (star (blkP t'.1 143 (t'.2.next.cs (some ad2) A2 c1 c2)) (star (orow t'.2.next (some ad2) c1) (star (nrow t'.2.next A2 c2) (star (blkP b 139 #[.slice A9 X.length c9, .map (some bm)]) (star (rowP 140 1 (.slice A9 X.length c9) X.length (ptrs X)) (star R (star (mapP bm (obM O)) (star (obsP O) (star (blkP (w1.heap.size + 1) 103 (evCs i t'.2.at_ 0)) (star (blkP w1.heap.size 97 x'.cs) (star (blkP w.heap.size 103 #[.int .i64 0, .int .i64 0, .int .i64 0]) Q))))))))))) := h7.perm (by
    show star (blkP t'.1 143 (t'.2.next.cs (some ad2) A2 c1 c2)) _ = star _ (star (orow t'.2 (some ad2) c1) (star (nrow t'.2 A2 c2) _))
    ac_rfl)
  have z3 := BK.out _ t'.2.next (star (mapP bm (obM O)) (star (obsP O) (star (blkP (w1.heap.size + 1) 103 (evCs i t'.2.at_ 0)) (star (blkP w1.heap.size 97 x'.cs) (star (blkP w.heap.size 103 #[.int .i64 0, .int .i64 0, .int .i64 0]) Q))))) (task_close z2)
  have z4 : Holds B w0 (((w1.alloc (.cells x'.cs 97)).alloc (.cells (evCs i t'.2.at_ 0) 103)).setCell ⟨t'.1, 1, none⟩ (.int .i64 ((t'.2.at_ : Int) + 1))) (star (schP b (X.set i (t'.1, t'.2.next)) bm O) (star (blkP (w1.heap.size + 1) 103 (evCs i t'.2.at_ 0)) (star (blkP w1.heap.size 97 x'.cs) (star (blkP w.heap.size 103 #[.int .i64 0, .int .i64 0, .int .i64 0]) Q)))) := z3.perm (by unfold schP; ac_rfl)
  have ST := Lib.hid (show Stable (star (blkP (w1.heap.size + 1) 103 (evCs i t'.2.at_ 0)) (star (blkP w1.heap.size 97 x'.cs) (star (blkP w.heap.size 103 #[.int .i64 0, .int .i64 0, .int .i64 0]) Q))) from (blkP_stable _ _ _).star ((blkP_stable _ _ _).star ((blkP_stable _ _ _).star HQ.out)))
  have z5 : Holds B w0 (((w1.alloc (.cells x'.cs 97)).alloc (.cells (evCs i t'.2.at_ 0) 103)).setCell ⟨t'.1, 1, none⟩ (.int .i64 ((t'.2.at_ : Int) + 1))) (star (blkP w1.heap.size 97 x'.cs) (star (schP b (X.set i (t'.1, t'.2.next)) bm O) (star (blkP (w1.heap.size + 1) 103 (evCs i t'.2.at_ 0)) (star (blkP w.heap.size 103 #[.int .i64 0, .int .i64 0, .int .i64 0]) Q)))) := z4.perm (by ac_rfl)
  have XO := blk_at' z5
  have k0' := XO.cell 0
  have k1 := XO.cell 1
  have k2 := XO.cell 2
  have FIND := Lib.hid (fun (X' : World) (hX : Keep Nothing (((w1.alloc (.cells x'.cs 97)).alloc (.cells (evCs i t'.2.at_ 0) 103)).setCell ⟨t'.1, 1, none⟩ (.int .i64 ((t'.2.at_ : Int) + 1))) X') => x_find (z4.kept (schP_stable.star ST.out) hX) ST.out x' kd HKK.out)
  have RB := Lib.hid (show t'.2.next.at_ ≤ t'.2.next.ops.length from RDY.2)
  have rb := RDY.2
  have tz0 := (BT.alloc (.cells #[.int .i64 0, .int .i64 0, .int .i64 0] 97)).cell 0
  have tz1 := (BT.alloc (.cells #[.int .i64 0, .int .i64 0, .int .i64 0] 97)).cell 1
  obtain ⟨oz0, oz1, oz2⟩ := OpAt.keep (x := x') ⟨o0, o1, o2⟩ ((Keep.same Nothing w1).alloc (.cells #[.int .i64 0, .int .i64 0, .int .i64 0] 97)) (fun h => h)
  clear h3 h4 h5 h6 h7 g3 BT B5 B6 XO hx' back hR RDY y1 ca1 z2 z3 z4 z5
  go_region
  all_goals
    go_wp2_with fail
    refine (FIND.out _ (by repeat (first | with_reducible (exact Keep.same _ _) | with_reducible (apply Keep.drew) | with_reducible (apply Keep.alloc)))).mono ?_
    rintro e w7 ⟨O1, j, o, rfl, ho, hon, hfst, hrel, h7⟩
    obtain ⟨R2, hR2, g1, back2⟩ := sch_ob h7 ST.out ho
    have BK2 := Lib.hid back2
    have HO := Lib.hid ho
    have HON := Lib.hid hon
    have HFS := Lib.hid hfst
    have HRL := Lib.hid hrel
    have hoK : o.st.ok k0 X.length := by
      rcases hrel with rfl | ⟨_, h3, _⟩
      · exact HOK.out o (List.mem_of_getElem? ho)
      · rw [h3]; exact fresh_ok _ _ _
    have hkd : o.st.kd = kd := (Prod.mk.inj hon).1
    have SD := Lib.hid (show Stable (star R2 (star (coreP b (X.set i (t'.1, t'.2.next)) bm) (star (mapP bm (obM O1)) (star (blkP (w1.heap.size + 1) 103 (evCs i t'.2.at_ 0)) (star (blkP w1.heap.size 97 x'.cs) (star (blkP w.heap.size 103 #[.int .i64 0, .int .i64 0, .int .i64 0]) Q)))))) from hR2.star ((coreP_stable _ _ _).star ((mapP_stable _ _).star ST.out)))
    have g2 : Holds B w0 w7 (star (blkP w1.heap.size 97 x'.cs) (star o.P (star R2 (star (coreP b (X.set i (t'.1, t'.2.next)) bm) (star (mapP bm (obM O1)) (star (blkP (w1.heap.size + 1) 103 (evCs i t'.2.at_ 0)) (star (blkP w.heap.size 103 #[.int .i64 0, .int .i64 0, .int .i64 0]) Q))))))) := g1.perm (by ac_rfl)
    have XO7 := blk_at' g2
    have m0 := XO7.cell 0
    have m1 := XO7.cell 1
    have m2 := XO7.cell 2
    have g4 : Holds B w0 w7 (star (coreP b (X.set i (t'.1, t'.2.next)) bm) (star o.P (star R2 (star (mapP bm (obM O1)) (star (blkP (w1.heap.size + 1) 103 (evCs i t'.2.at_ 0)) (star (blkP w1.heap.size 97 x'.cs) (star (blkP w.heap.size 103 #[.int .i64 0, .int .i64 0, .int .i64 0]) Q))))))) := g1.perm (by ac_rfl)
    obtain ⟨CR, hCR, g5, back4⟩ := core_out g4 (o.P_stable.star (hR2.star ((mapP_stable _ _).star ST.out))) (show (X.set i (t'.1, t'.2.next))[i]? = some (t'.1, t'.2.next) by rw [List.getElem?_set]; simp [HIL.out])
    have g6 : Holds B w0 w7 (star (OS.P o.g o.st) (star (taskP t'.1 t'.2.next) (star CR (star R2 (star (mapP bm (obM O1)) (star (blkP (w1.heap.size + 1) 103 (evCs i t'.2.at_ 0)) (star (blkP w1.heap.size 97 x'.cs) (star (blkP w.heap.size 103 #[.int .i64 0, .int .i64 0, .int .i64 0]) Q)))))))) := g5.perm (by
      show star _ (star _ (star (OS.P o.g o.st) _)) = _
      ac_rfl)
    have BK4 := Lib.hid back4
    have do0 := o_do (id := i) (x := x') g6 (hCR.star (hR2.star ((mapP_stable _ _).star ST.out))) hoK HK0.out ⟨HHAT.out, RB.out, HRU.out⟩ (by rw [hkd]; exact HKK.out) HD0.out HD1.out
    obtain ⟨hok1, hw0, hl0⟩ := doS_ok (x := x') (T := t'.2.next) hoK (show 0 ≤ (i : Int) ∧ (i : Int) < X.length by have := HIL.out; omega)
    have hs0 := doS_kd o.st x' i t'.2.next
    have hmth := fun v w => do_method o.st v w
    have hcf := fun a w => do_enter o.st a w
    rw [hkd] at hmth do0 hcf
    have HVV := Lib.hid (show o.v = .iface (tyOf kd) (.agg #[.pointer (some ⟨o.g, 0, none⟩)]) by unfold Ob.v; rw [hkd])
    rw [HVV.out]
    obtain ⟨wt, wk, er, st', tk', hd⟩ : ∃ wt wk er st' tk', doS o.st x' i t'.2.next = ⟨wt, wk, er, st', tk'⟩ := ⟨_, _, _, _, _, rfl⟩
    rw [hd] at do0 hw0 hs0 hl0
    dsimp only at do0 hw0 hs0 hl0
    have HWL := Lib.hid (show wk.length ≤ 1000000 by have := HK0.out; omega)
    have DO := Lib.hid do0
    have HW := Lib.hid hw0
    have HSM := Lib.hid hs0
    have HD := Lib.hid hd
    generalize tyOf kd = ty at *
    generalize fnOf kd = fn at *
    clear do0 hw0 hs0 hd hl0 hok1 hoK hkd
    clear ho hon hfst hrel h7 g1 g2 g4 g5 g6 XO7 back2 back4 k0' k1 k2
    go_wp2_with fail
    refine DO.out.mono ?_
    rintro e w8 ⟨A8, c8, rfl, h8a⟩
    obtain ⟨o', ho'⟩ : ∃ o' : Ob, o' = { o with st := st' } := ⟨_, rfl⟩
    have HOO := Lib.hid ho'
    have h8b := BK4.out w8 tk' (star (rowP 3 1 (.slice A8 wk.length c8) wk.length (ints wk)) (star (OS.P o.g st') (star R2 (star (mapP bm (obM O1)) (star (blkP (w1.heap.size + 1) 103 (evCs i t'.2.at_ 0)) (star (blkP w1.heap.size 97 x'.cs) (star (blkP w.heap.size 103 #[.int .i64 0, .int .i64 0, .int .i64 0]) Q))))))) (h8a.perm (by ac_rfl))
    rw [List.set_set] at h8b
    have h8 : Holds B w0 w8 (star (rowP 3 1 (.slice A8 wk.length c8) wk.length (ints wk)) (star o'.P (star R2 (star (coreP b (X.set i (t'.1, tk')) bm) (star (mapP bm (obM O1)) (star (blkP (w1.heap.size + 1) 103 (evCs i t'.2.at_ 0)) (star (blkP w1.heap.size 97 x'.cs) (star (blkP w.heap.size 103 #[.int .i64 0, .int .i64 0, .int .i64 0]) Q)))))))) := h8b.perm (by
      rw [ho']
      show _ = star _ (star (OS.P o.g st') _)
      ac_rfl)
    have SD := Lib.hid (show Stable (star R2 (star (coreP b (X.set i (t'.1, tk')) bm) (star (mapP bm (obM O1)) (star (blkP (w1.heap.size + 1) 103 (evCs i t'.2.at_ 0)) (star (blkP w1.heap.size 97 x'.cs) (star (blkP w.heap.size 103 #[.int .i64 0, .int .i64 0, .int .i64 0]) Q)))))) from hR2.star ((coreP_stable _ _ _).star ((mapP_stable _ _).star ST.out)))
    clear h8a h8b ho'
    have S8 := Lib.hid (show Stable (star (rowP 3 1 (.slice A8 wk.length c8) wk.length (ints wk)) (star o'.P (star R2 (star (coreP b (X.set i (t'.1, tk')) bm) (star (mapP bm (obM O1)) (star (blkP (w1.heap.size + 1) 103 (evCs i t'.2.at_ 0)) (star (blkP w1.heap.size 97 x'.cs) (star (blkP w.heap.size 103 #[.int .i64 0, .int .i64 0, .int .i64 0]) Q)))))))) from (rowP_stable _ _ _ _ _).star (o'.P_stable.star SD.out))
    have h9 := h8.newBlk S8.out 150 #[.bool wt, .slice A8 wk.length c8, .int .i64 er]
    have B9 := blk_at' h9
    have y0 := B9.cell 0
    have y1 := B9.cell 1
    have y2 := B9.cell 2
    have h10 : Holds B w0 (w8.alloc (.cells #[.bool wt, .slice A8 wk.length c8, .int .i64 er] 150)) (star (blkP (w1.heap.size + 1) 103 (evCs i t'.2.at_ 0)) (star (blkP w8.heap.size 150 #[.bool wt, .slice A8 wk.length c8, .int .i64 er]) (star (rowP 3 1 (.slice A8 wk.length c8) wk.length (ints wk)) (star o'.P (star R2 (star (coreP b (X.set i (t'.1, tk')) bm) (star (mapP bm (obM O1)) (star (blkP w1.heap.size 97 x'.cs) (star (blkP w.heap.size 103 #[.int .i64 0, .int .i64 0, .int .i64 0]) Q))))))))) := h9.perm (by ac_rfl)
    have S10 := Lib.hid (show Stable (star (blkP w8.heap.size 150 #[.bool wt, .slice A8 wk.length c8, .int .i64 er]) (star (rowP 3 1 (.slice A8 wk.length c8) wk.length (ints wk)) (star o'.P (star R2 (star (coreP b (X.set i (t'.1, tk')) bm) (star (mapP bm (obM O1)) (star (blkP w1.heap.size 97 x'.cs) (star (blkP w.heap.size 103 #[.int .i64 0, .int .i64 0, .int .i64 0]) Q)))))))) from (blkP_stable _ _ _).star ((rowP_stable _ _ _ _ _).star (o'.P_stable.star (hR2.star ((coreP_stable _ _ _).star ((mapP_stable _ _).star ((blkP_stable _ _ _).star ((blkP_stable _ _ _).star HQ.out))))))))
    have B10 := blk_at' h10
    have e2 := B10.cell 2
    have n2 := B10.free 2
    have h11 := h10.setBlk S10.out 2 (.int .i64 er)
    have h11a : Holds B w0 ((w8.alloc (.cells #[.bool wt, .slice A8 wk.length c8, .int .i64 er] 150)).setCell ⟨w1.heap.size + 1, 2, none⟩ (.int .i64 er)) (star (blkP w8.heap.size 150 #[.bool wt, .slice A8 wk.length c8, .int .i64 er]) (star (blkP (w1.heap.size + 1) 103 (evCs i t'.2.at_ er)) (star (rowP 3 1 (.slice A8 wk.length c8) wk.length (ints wk)) (star o'.P (star R2 (star (coreP b (X.set i (t'.1, tk')) bm) (star (mapP bm (obM O1)) (star (blkP w1.heap.size 97 x'.cs) (star (blkP w.heap.size 103 #[.int .i64 0, .int .i64 0, .int .i64 0]) Q))))))))) := h11.perm (by
      show star (blkP (w1.heap.size + 1) 103 (evCs i t'.2.at_ er)) _ = _
      ac_rfl)
    have B11 := blk_at' h11a
    have u0 := B11.cell 0
    have u1 := B11.cell 1
    have u2 := B11.cell 2
    have h12 : Holds B w0 ((w8.alloc (.cells #[.bool wt, .slice A8 wk.length c8, .int .i64 er] 150)).setCell ⟨w1.heap.size + 1, 2, none⟩ (.int .i64 er)) (star (coreP b (X.set i (t'.1, tk')) bm) (star (blkP (w1.heap.size + 1) 103 (evCs i t'.2.at_ er)) (star (blkP w8.heap.size 150 #[.bool wt, .slice A8 wk.length c8, .int .i64 er]) (star (rowP 3 1 (.slice A8 wk.length c8) wk.length (ints wk)) (star o'.P (star R2 (star (mapP bm (obM O1)) (star (blkP w1.heap.size 97 x'.cs) (star (blkP w.heap.size 103 #[.int .i64 0, .int .i64 0, .int .i64 0]) Q))))))))) := h11a.perm (by ac_rfl)
    have S12 := Lib.hid (show Stable (star (blkP (w1.heap.size + 1) 103 (evCs i t'.2.at_ er)) (star (blkP w8.heap.size 150 #[.bool wt, .slice A8 wk.length c8, .int .i64 er]) (star (rowP 3 1 (.slice A8 wk.length c8) wk.length (ints wk)) (star o'.P (star R2 (star (mapP bm (obM O1)) (star (blkP w1.heap.size 97 x'.cs) (star (blkP w.heap.size 103 #[.int .i64 0, .int .i64 0, .int .i64 0]) Q)))))))) from (blkP_stable _ _ _).star ((blkP_stable _ _ _).star ((rowP_stable _ _ _ _ _).star (o'.P_stable.star (hR2.star ((mapP_stable _ _).star ((blkP_stable _ _ _).star ((blkP_stable _ _ _).star HQ.out))))))))
    obtain ⟨A3, A4, A5, c3, c4, c5, R3, hR3, h13, back3⟩ := core_task h12 S12.out (show (X.set i (t'.1, tk'))[i]? = some (t'.1, tk') by rw [List.getElem?_set]; simp [HIL.out])
    have B13 := blk_at' h13
    have w2 := B13.cell 2
    have x2 := B13.free 2
    obtain ⟨vb, hvb⟩ : ∃ vb, (wt && er == 0) = vb := ⟨_, rfl⟩
    have h14 := h13.setBlk ((rowP_stable _ _ _ _ _).star ((rowP_stable _ _ _ _ _).star ((blkP_stable _ _ _).star ((rowP_stable _ _ _ _ _).star (hR3.star S12.out))))) 2 (.bool vb)
    have h15 := back3 (((w8.alloc (.cells #[.bool wt, .slice A8 wk.length c8, .int .i64 er] 150)).setCell ⟨w1.heap.size + 1, 2, none⟩ (.int .i64 er)).setCell ⟨t'.1, 2, none⟩ (.bool vb)) { tk' with blk := vb } _ (task_close (T := { tk' with blk := vb }) h14)
    rw [List.set_set] at h15
    have h16 : Holds B w0 (((w8.alloc (.cells #[.bool wt, .slice A8 wk.length c8, .int .i64 er] 150)).setCell ⟨w1.heap.size + 1, 2, none⟩ (.int .i64 er)).setCell ⟨t'.1, 2, none⟩ (.bool vb)) (star (blkP w8.heap.size 150 #[.bool wt, .slice A8 wk.length c8, .int .i64 er]) (star (coreP b (X.set i (t'.1, { tk' with blk := vb })) bm) (star (blkP (w1.heap.size + 1) 103 (evCs i t'.2.at_ er)) (star (rowP 3 1 (.slice A8 wk.length c8) wk.length (ints wk)) (star o'.P (star R2 (star (mapP bm (obM O1)) (star (blkP w1.heap.size 97 x'.cs) (star (blkP w.heap.size 103 #[.int .i64 0, .int .i64 0, .int .i64 0]) Q))))))))) := h15.perm (by ac_rfl)
    have B16 := blk_at' h16
    have m16 := B16.cell 1
    obtain ⟨X2, hX2⟩ : ∃ X2, X.set i (t'.1, { tk' with blk := vb }) = X2 := ⟨_, rfl⟩
    obtain ⟨TL, hTL⟩ : ∃ TL : SP, star o'.P (star R2 (star (mapP bm (obM O1)) (star (blkP w1.heap.size 97 x'.cs) (star (blkP w8.heap.size 150 #[.bool wt, .slice A8 wk.length c8, .int .i64 er]) Q)))) = TL := ⟨_, rfl⟩
    have STL := Lib.hid (show Stable TL by rw [← hTL]; exact o'.P_stable.star (hR2.star ((mapP_stable _ _).star ((blkP_stable _ _ _).star ((blkP_stable _ _ _).star HQ.out)))))
    have H17 := Lib.hid (show Holds B w0 (((w8.alloc (.cells #[.bool wt, .slice A8 wk.length c8, .int .i64 er] 150)).setCell ⟨w1.heap.size + 1, 2, none⟩ (.int .i64 er)).setCell ⟨t'.1, 2, none⟩ (.bool vb)) (star (coreP b X2 bm) (star (blkP (w1.heap.size + 1) 103 (evCs i t'.2.at_ er)) (star (rowP 3 1 (.slice A8 wk.length c8) wk.length (ints wk)) (star (blkP w.heap.size 103 #[.int .i64 0, .int .i64 0, .int .i64 0]) TL)))) by
      rw [← hX2, ← hTL]
      exact h16.perm (by ac_rfl))
    have HX2 := Lib.hid hX2
    have HTL := Lib.hid hTL
    have HX2L := Lib.hid (show X2.length = X.length by rw [← hX2, List.length_set])
    have HR2 := Lib.hid hR2
    have HVB := Lib.hid hvb
    have hcase : (wt = false ∧ vb = false) ∨ (wt = true ∧ er = 0 ∧ vb = true) ∨ (wt = true ∧ er ≠ 0 ∧ vb = false) := by
      rw [← hvb]
      cases wt with
      | false => exact .inl ⟨rfl, rfl⟩
      | true =>
        by_cases he : er = 0
        · exact .inr (.inl ⟨rfl, he, by simp [he]⟩)
        · exact .inr (.inr ⟨rfl, he, by simp [he]⟩)
    clear h8 h9 h10 h11 h11a h12 h13 h14 h15 h16 B9 B10 B11 B13 B16 back3 hR3 hR2 hvb hX2 hTL
    rcases hcase with ⟨rfl, rfl⟩ | ⟨rfl, he, rfl⟩ | ⟨rfl, he, rfl⟩
    all_goals
      first | (have de : (er == 0) = true := by simp [he]) | (have de : (er == 0) = false := by simp [he]) | skip
      try clear he
      go_wp2_with fail
      clear y0 y1 y2 e2 n2 u0 u1 u2 w2 x2 m16 m0 m1 m2 tz0 tz1 oz0 oz1 oz2 o0 o1 o2 t0 t1 v1 s1 f1
      go_loopw [102] (fun v wr => ∃ j' : Nat, j' ≤ wk.length ∧ v = .int .i64 j' ∧ Holds B w0 wr (star (coreP b (wakeAll X2 (wk.take j')) bm) (star (blkP (w1.heap.size + 1) 103 (evCs i t'.2.at_ er)) (star (rowP 3 1 (.slice A8 wk.length c8) wk.length (ints wk)) (star (blkP w.heap.size 103 #[.int .i64 0, .int .i64 0, .int .i64 0]) TL))))) (fun v _ => wk.length - (intOf v).toNat)
      case atStart => exact ⟨0, by omega, by simp, by rw [List.take_zero]; exact H17.out.kept ((coreP_stable _ _ _).star ((blkP_stable _ _ _).star ((rowP_stable _ _ _ _ _).star ((blkP_stable _ _ _).star STL.out)))) (by repeat (first | with_reducible (exact Keep.same _ _) | with_reducible (apply Keep.drew) | with_reducible (apply Keep.alloc)))⟩
      case round =>
        obtain ⟨j', hj', rfl, hh⟩ := hrel
        have SW := Lib.hid (show Stable (star (blkP (w1.heap.size + 1) 103 (evCs i t'.2.at_ er)) (star (rowP 3 1 (.slice A8 wk.length c8) wk.length (ints wk)) (star (blkP w.heap.size 103 #[.int .i64 0, .int .i64 0, .int .i64 0]) TL))) from (blkP_stable _ _ _).star ((rowP_stable _ _ _ _ _).star ((blkP_stable _ _ _).star STL.out)))
        have HJ := Lib.hid hh
        have HJL := Lib.hid (show (wakeAll X2 (wk.take j')).length = X.length by rw [wakeAll_len, HX2L.out])
        by_cases hlt : j' < wk.length
        · have HLT := Lib.hid hlt
          have hrow : Holds B w0 wr (star (rowP 3 1 (.slice A8 wk.length c8) wk.length (ints wk)) (star (coreP b (wakeAll X2 (wk.take j')) bm) (star (blkP (w1.heap.size + 1) 103 (evCs i t'.2.at_ er)) (star (blkP w.heap.size 103 #[.int .i64 0, .int .i64 0, .int .i64 0]) TL)))) := hh.perm (by ac_rfl)
          obtain ⟨ad6, u, rfl, hu6, hc6⟩ := i_at hrow.row.src hlt
          have hub := HW.out u (List.mem_of_getElem? hu6)
          obtain ⟨n, rfl⟩ : ∃ n : Nat, u = (n : Int) := ⟨u.toNat, by omega⟩
          obtain ⟨A7, c7, TT7⟩ := core_tasks hh (by rw [HJL.out]; exact hl)
          obtain ⟨ad7, t7, rfl, ht7, hc7, _⟩ := TT7.at_ (show n < (wakeAll X2 (wk.take j')).length by rw [HJL.out]; omega)
          have z0 := TT7.blk.cell 0
          obtain ⟨A3, A4, A5, c3, c4, c5, R3, hR3, h17, back7⟩ := core_task hh SW.out ht7
          have B17 := blk_at' h17
          have z2 := B17.cell 2
          have zf := B17.free 2
          have h18 := h17.setBlk ((rowP_stable _ _ _ _ _).star ((rowP_stable _ _ _ _ _).star ((blkP_stable _ _ _).star ((rowP_stable _ _ _ _ _).star (hR3.star SW.out))))) 2 (.bool false)
          have h19 := Lib.hid (back7 _ { t7.2 with blk := false } _ (task_close (T := { t7.2 with blk := false }) h18))
          have HWK1 := Lib.hid (show wakeAll X2 (wk.take (j' + 1)) = (wakeAll X2 (wk.take j')).set n (t7.1, { t7.2 with blk := false }) by
            rw [List.take_add_one, hu6]
            show wakeAll X2 (wk.take j' ++ [(n : Int)]) = _
            rw [wakeAll_push]
            unfold wake1
            rw [show ((n : Int)).toNat = n by simp, ht7])
          have hnl : n < (wakeAll X2 (wk.take j')).length := by rw [HJL.out]; omega
          have hxl := HJL.out
          have hwl := HWL.out
          clear hh hrow hu6 hub TT7 ht7 B17 h17 h18 back7 hR3
          go_wp2_with fail
          go_roundw
          case rel => exact ⟨j' + 1, by have := HLT.out; omega, by go_num, by rw [HWK1.out]; exact h19.out⟩
          case measure => have := HLT.out; simp [intOf]; omega
        · obtain rfl : j' = wk.length := by omega
          have hE : Holds B w0 wr (star (blkP (w1.heap.size + 1) 103 (evCs i t'.2.at_ er)) (star (coreP b (wakeAll X2 (wk.take wk.length)) bm) (star (rowP 3 1 (.slice A8 wk.length c8) wk.length (ints wk)) (star (blkP w.heap.size 103 #[.int .i64 0, .int .i64 0, .int .i64 0]) TL)))) := hh.perm (by ac_rfl)
          have BE := blk_at' hE
          have e0 := BE.cell 0
          have e1 := BE.cell 1
          have e2 := BE.cell 2
          have hRS : Holds B w0 wr (star (blkP w.heap.size 103 #[.int .i64 0, .int .i64 0, .int .i64 0]) (star (coreP b (wakeAll X2 (wk.take wk.length)) bm) (star (blkP (w1.heap.size + 1) 103 (evCs i t'.2.at_ er)) (star (rowP 3 1 (.slice A8 wk.length c8) wk.length (ints wk)) TL)))) := hh.perm (by ac_rfl)
          have SR9 : Stable (star (coreP b (wakeAll X2 (wk.take wk.length)) bm) (star (blkP (w1.heap.size + 1) 103 (evCs i t'.2.at_ er)) (star (rowP 3 1 (.slice A8 wk.length c8) wk.length (ints wk)) TL))) := (coreP_stable _ _ _).star ((blkP_stable _ _ _).star ((rowP_stable _ _ _ _ _).star STL.out))
          obtain ⟨a0, n0, a1, n1, a2, n2, q0, q1, q2, p0, p1⟩ := store3 (blk_at' hRS) (.int .i64 (i : Int)) (.int .i64 (t'.2.at_ : Int)) (.int .i64 er)
          have H20 := Lib.hid (held3 hRS SR9 (.int .i64 (i : Int)) (.int .i64 (t'.2.at_ : Int)) (.int .i64 er))
          clear hh hE hRS SR9 BE
          go_wp2_with fail
          refine bodyPost_ret (v := .tuple #[.agg (evCs i t'.2.at_ er), .int .i64 0]) (by simp [results, Try.results62, go_sem, hu3, q0, q1, q2]) rfl ?_
          refine ⟨O1, j, o, HO.out, HON.out, HFS.out, HRL.out, by rw [HD.out], ?_⟩
          rw [HD.out]
          show Holds B w0 _ (star (schP b (wakeAll (X.set i (t'.1, { tk' with blk := _ })) wk) bm (O1.set j { o with st := st' })) Q)
          rw [← HOO.out]
          rw [HVB.out, HX2.out]
          have k1 := H20.out.drop
          have k2 : Holds B w0 _ (star (blkP (w1.heap.size + 1) 103 (evCs i t'.2.at_ er)) (star (rowP 3 1 (.slice A8 wk.length c8) wk.length (ints wk)) (star (coreP b (wakeAll X2 (wk.take wk.length)) bm) TL))) := k1.perm (by ac_rfl)
          have k3 := k2.drop.drop
          rw [List.take_length, ← HTL.out] at k3
          first
            | exact BK2.out _ o' (wakeAll X2 wk) Q (by rw [HOO.out]) (by rw [HOO.out]) (by rw [HOO.out]; exact HSM.out) (Holds.drop (Holds.drop (show Holds B w0 _ (star (blkP w1.heap.size 97 x'.cs) (star (blkP w8.heap.size 150 #[.bool true, .slice A8 wk.length c8, .int .i64 er]) (star o'.P (star R2 (star (coreP b (wakeAll X2 wk) bm) (star (mapP bm (obM O1)) Q)))))) from k3.perm (by ac_rfl))))
            | exact BK2.out _ o' (wakeAll X2 wk) Q (by rw [HOO.out]) (by rw [HOO.out]) (by rw [HOO.out]; exact HSM.out) (Holds.drop (Holds.drop (show Holds B w0 _ (star (blkP w1.heap.size 97 x'.cs) (star (blkP w8.heap.size 150 #[.bool false, .slice A8 wk.length c8, .int .i64 er]) (star o'.P (star R2 (star (coreP b (wakeAll X2 wk) bm) (star (mapP bm (obM O1)) Q)))))) from k3.perm (by ac_rfl))))
theorem step_bad (h : Holds B w0 w (star (schP b X bm O) Q)) (hQ : Stable Q) (hl : X.length ≤ 1000000) (i : Nat) (t : Nat × Tk) (ht : X[i]? = some t) (hr : t.2.ready = true) (x : Op3) (hx : t.2.ops[t.2.at_]? = some x) (hk9 : x.k ≠ 9) (hk : kindO x.k x.n = none) (hat : t.2.ops.length ≤ 1000000) :
    Calls Try.prog 62 #[.pointer (some ⟨b, 0, none⟩), .int .i64 i] w (StepOk B w0 i t.2.at_ 1 (star (schP b (X.set i (t.1, t.2.next)) bm O) Q)) := by
  have hu := Try.underlying139
  have hu2 := Try.underlying143
  have hu3 := Try.underlying103
  have hu4 := Try.underlying97
  have il := (List.getElem?_eq_some_iff.1 ht).1
  have HQ := Lib.hid hQ
  have S0 := Lib.hid (show Stable (star (schP b X bm O) Q) from schP_stable.star hQ)
  have h1 := h.newBlk S0.out 103 #[.int .i64 0, .int .i64 0, .int .i64 0]
  have SR := Lib.hid (show Stable (star (mapP bm (obM O)) (star (obsP O) (star (blkP w.heap.size 103 #[.int .i64 0, .int .i64 0, .int .i64 0]) Q))) from (mapP_stable _ _).star ((obsP_stable _).star ((blkP_stable _ _ _).star hQ)))
  have h2 : Holds B w0 (w.alloc (.cells #[.int .i64 0, .int .i64 0, .int .i64 0] 103)) (star (coreP b X bm) (star (mapP bm (obM O)) (star (obsP O) (star (blkP w.heap.size 103 #[.int .i64 0, .int .i64 0, .int .i64 0]) Q)))) := h1.perm (by unfold schP; ac_rfl)
  obtain ⟨A0, c0, TT⟩ := core_tasks h2 hl
  obtain ⟨ad, t', rfl, ht', hca, B1, B2, b1, b2, hbx⟩ := TT.at_ il
  obtain rfl : t' = t := by rw [ht] at ht'; injection ht' with e; exact e.symm
  have y0 := TT.blk.cell 0
  have RD := Lib.hid (ready90 _ t'.1 t'.2 B1 B2 b1 b2 hbx)
  rw [hr] at RD
  have H2 := Lib.hid h2
  have TK := Lib.hid TT
  have HT := Lib.hid ht
  have HR := Lib.hid hr
  have HX := Lib.hid hx
  have d9 : (x.k == 9) = false := by simp [hk9]
  have HKK := Lib.hid hk
  have HIL := Lib.hid il
  have HHAT := Lib.hid hat
  have HLX := Lib.hid hl
  clear h h1 h2 hQ ht ht' hr hx hk hk9 hbx TT hat
  go_enter Try.func62, Try.ntmps62
  go_wp2_with fail
  refine RD.out.mono ?_
  rintro e w1 ⟨rfl, hk1⟩
  have K1 := Lib.hid hk1
  have H3 := Lib.hid (H2.out.kept ((coreP_stable _ _ _).star SR.out) hk1)
  have y1 := hk1.cell y0 (fun h => h)
  have ca1 := hk1.cell hca (fun h => h)
  clear hk1 y0 hca
  obtain ⟨A9, A1, A2, c9, c1, c2, R, hR, h3, back⟩ := core_task H3.out SR.out HT.out
  have BK := Lib.hid back
  have RDY := HR.out
  unfold Tk.ready at RDY
  simp only [Bool.and_eq_true, Bool.not_eq_true', decide_eq_true_eq] at RDY
  have g3 : Holds B w0 w1 (star (orow t'.2 A1 c1) (star (blkP t'.1 143 (t'.2.cs A1 A2 c1 c2)) (star (nrow t'.2 A2 c2) (star (blkP b 139 #[.slice A9 X.length c9, .map (some bm)]) (star (rowP 140 1 (.slice A9 X.length c9) X.length (ptrs X)) (star R (star (mapP bm (obM O)) (star (obsP O) (star (blkP w.heap.size 103 #[.int .i64 0, .int .i64 0, .int .i64 0]) Q))))))))) := h3.perm (by ac_rfl)
  obtain ⟨ad2, x', rfl, hx', o0, o1, o2⟩ := op_at g3.row.src RDY.2
  obtain rfl : x' = x := by rw [HX.out] at hx'; injection hx' with e; exact e.symm
  have BT := blk_at' h3
  have t0 := BT.cell 0
  have t1 := BT.cell 1
  have SSTT := Lib.hid (show Stable (star (orow t'.2 (some ad2) c1) (star (nrow t'.2 A2 c2) (star (blkP b 139 #[.slice A9 X.length c9, .map (some bm)]) (star (rowP 140 1 (.slice A9 X.length c9) X.length (ptrs X)) (star R (star (mapP bm (obM O)) (star (obsP O) (star (blkP w.heap.size 103 #[.int .i64 0, .int .i64 0, .int .i64 0]) Q)))))))) from (rowP_stable _ _ _ _ _).star ((rowP_stable _ _ _ _ _).star ((blkP_stable _ _ _).star ((rowP_stable _ _ _ _ _).star (hR.star SR.out)))))
  go_wp2_with fail
  have h4 := h3.newBlk ((blkP_stable _ _ _).star SSTT.out) 97 x'.cs
  have h5 := h4.newBlk ((blkP_stable _ _ _).star ((blkP_stable _ _ _).star SSTT.out)) 103 (evCs i t'.2.at_ 0)
  rw [size_alloc] at h5
  have h6 : Holds B w0 ((w1.alloc (.cells x'.cs 97)).alloc (.cells (evCs i t'.2.at_ 0) 103)) (star (blkP t'.1 143 (t'.2.cs (some ad2) A2 c1 c2)) (star (blkP (w1.heap.size + 1) 103 (evCs i t'.2.at_ 0)) (star (blkP w1.heap.size 97 x'.cs) (star (orow t'.2 (some ad2) c1) (star (nrow t'.2 A2 c2) (star (blkP b 139 #[.slice A9 X.length c9, .map (some bm)]) (star (rowP 140 1 (.slice A9 X.length c9) X.length (ptrs X)) (star R (star (mapP bm (obM O)) (star (obsP O) (star (blkP w.heap.size 103 #[.int .i64 0, .int .i64 0, .int .i64 0]) Q))))))))))) := h5.perm (by ac_rfl)
  have S6 := Lib.hid (show Stable (star (blkP (w1.heap.size + 1) 103 (evCs i t'.2.at_ 0)) (star (blkP w1.heap.size 97 x'.cs) (star (orow t'.2 (some ad2) c1) (star (nrow t'.2 A2 c2) (star (blkP b 139 #[.slice A9 X.length c9, .map (some bm)]) (star (rowP 140 1 (.slice A9 X.length c9) X.length (ptrs X)) (star R (star (mapP bm (obM O)) (star (obsP O) (star (blkP w.heap.size 103 #[.int .i64 0, .int .i64 0, .int .i64 0]) Q)))))))))) from (blkP_stable _ _ _).star ((blkP_stable _ _ _).star SSTT.out))
  have B5 := (BT.alloc (.cells x'.cs 97))
  have v1 := B5.cell 1
  have B6 := blk_at' h6
  have s1 := B6.cell 1
  have f1 := B6.free 1
  have h7 := h6.setBlk S6.out 1 (.int .i64 ((t'.2.at_ : Int) + 1))
  have hw1 : IntKind.i64.wrap ((t'.2.at_ : Int) + 1) = (t'.2.at_ : Int) + 1 := by rw [IntKind.wrap_i64]; have := HHAT.out; omega
  have z2 : Holds B w0 (((w1.alloc (.cells x'.cs 97)).alloc (.cells (evCs i t'.2.at_ 0) 103)).setCell ⟨t'.1, 1, none⟩ (.int .i64 ((t'.2.at_ : Int) + 1))) (star (blkP t'.1 143 (t'.2.next.cs (some ad2) A2 c1 c2)) (star (orow t'.2.next (some ad2) c1) (star (nrow t'.2.next A2 c2) (star (blkP b 139 #[.slice A9 X.length c9, .map (some bm)]) (star (rowP 140 1 (.slice A9 X.length c9) X.length (ptrs X)) (star R (star (mapP bm (obM O)) (star (obsP O) (star (blkP (w1.heap.size + 1) 103 (evCs i t'.2.at_ 0)) (star (blkP w1.heap.size 97 x'.cs) (star (blkP w.heap.size 103 #[.int .i64 0, .int .i64 0, .int .i64 0]) Q))))))))))) := h7.perm (by
    show star (blkP t'.1 143 (t'.2.next.cs (some ad2) A2 c1 c2)) _ = star _ (star (orow t'.2 (some ad2) c1) (star (nrow t'.2 A2 c2) _))
    ac_rfl)
  have z3 := BK.out _ t'.2.next (star (mapP bm (obM O)) (star (obsP O) (star (blkP (w1.heap.size + 1) 103 (evCs i t'.2.at_ 0)) (star (blkP w1.heap.size 97 x'.cs) (star (blkP w.heap.size 103 #[.int .i64 0, .int .i64 0, .int .i64 0]) Q))))) (task_close z2)
  have z4 : Holds B w0 (((w1.alloc (.cells x'.cs 97)).alloc (.cells (evCs i t'.2.at_ 0) 103)).setCell ⟨t'.1, 1, none⟩ (.int .i64 ((t'.2.at_ : Int) + 1))) (star (schP b (X.set i (t'.1, t'.2.next)) bm O) (star (blkP (w1.heap.size + 1) 103 (evCs i t'.2.at_ 0)) (star (blkP w1.heap.size 97 x'.cs) (star (blkP w.heap.size 103 #[.int .i64 0, .int .i64 0, .int .i64 0]) Q)))) := z3.perm (by unfold schP; ac_rfl)
  have ST := Lib.hid (show Stable (star (blkP (w1.heap.size + 1) 103 (evCs i t'.2.at_ 0)) (star (blkP w1.heap.size 97 x'.cs) (star (blkP w.heap.size 103 #[.int .i64 0, .int .i64 0, .int .i64 0]) Q))) from (blkP_stable _ _ _).star ((blkP_stable _ _ _).star ((blkP_stable _ _ _).star HQ.out)))
  have z5 : Holds B w0 (((w1.alloc (.cells x'.cs 97)).alloc (.cells (evCs i t'.2.at_ 0) 103)).setCell ⟨t'.1, 1, none⟩ (.int .i64 ((t'.2.at_ : Int) + 1))) (star (blkP w1.heap.size 97 x'.cs) (star (schP b (X.set i (t'.1, t'.2.next)) bm O) (star (blkP (w1.heap.size + 1) 103 (evCs i t'.2.at_ 0)) (star (blkP w.heap.size 103 #[.int .i64 0, .int .i64 0, .int .i64 0]) Q)))) := z4.perm (by ac_rfl)
  have XO := blk_at' z5
  have k0 := XO.cell 0
  have k1 := XO.cell 1
  have k2 := XO.cell 2
  have FIND := Lib.hid (fun (X' : World) => find_nil X' b x' HKK.out)
  have Z4 := Lib.hid z4
  have rb := RDY.2
  have tz0 := (BT.alloc (.cells #[.int .i64 0, .int .i64 0, .int .i64 0] 97)).cell 0
  have tz1 := (BT.alloc (.cells #[.int .i64 0, .int .i64 0, .int .i64 0] 97)).cell 1
  obtain ⟨oz0, oz1, oz2⟩ := OpAt.keep (x := x') ⟨o0, o1, o2⟩ ((Keep.same Nothing w1).alloc (.cells #[.int .i64 0, .int .i64 0, .int .i64 0] 97)) (fun h => h)
  clear h3 h4 h5 h6 h7 g3 BT B5 B6 XO hx' back hR RDY y1 ca1 z2 z3 z4 z5
  go_region
  all_goals
    go_wp2_with fail
    refine (FIND.out _).mono ?_
    rintro e w7 ⟨rfl, hk7⟩
    have h7 := Z4.out.kept (schP_stable.star ST.out) (Keep.then (by repeat (first | with_reducible (exact Keep.same _ _) | with_reducible (apply Keep.drew) | with_reducible (apply Keep.alloc))) hk7)
    have h8 : Holds B w0 w7 (star (blkP (w1.heap.size + 1) 103 (evCs i t'.2.at_ 0)) (star (blkP w1.heap.size 97 x'.cs) (star (schP b (X.set i (t'.1, t'.2.next)) bm O) (star (blkP w.heap.size 103 #[.int .i64 0, .int .i64 0, .int .i64 0]) Q)))) := h7.perm (by ac_rfl)
    have S8 : Stable (star (blkP w1.heap.size 97 x'.cs) (star (schP b (X.set i (t'.1, t'.2.next)) bm O) (star (blkP w.heap.size 103 #[.int .i64 0, .int .i64 0, .int .i64 0]) Q))) := (blkP_stable _ _ _).star (schP_stable.star ((blkP_stable _ _ _).star HQ.out))
    have B8 := blk_at' h8
    have e2 := B8.cell 2
    have n2 := B8.free 2
    have h9 := h8.setBlk S8 2 (.int .i64 1)
    have h10 : Holds B w0 (w7.setCell ⟨w1.heap.size + 1, 2, none⟩ (.int .i64 1)) (star (blkP w.heap.size 103 #[.int .i64 0, .int .i64 0, .int .i64 0]) (star (blkP (w1.heap.size + 1) 103 (evCs i t'.2.at_ 1)) (star (blkP w1.heap.size 97 x'.cs) (star (schP b (X.set i (t'.1, t'.2.next)) bm O) Q)))) := h9.perm (by
      show star (blkP (w1.heap.size + 1) 103 (evCs i t'.2.at_ 1)) _ = _
      ac_rfl)
    have S10 : Stable (star (blkP (w1.heap.size + 1) 103 (evCs i t'.2.at_ 1)) (star (blkP w1.heap.size 97 x'.cs) (star (schP b (X.set i (t'.1, t'.2.next)) bm O) Q))) := (blkP_stable _ _ _).star ((blkP_stable _ _ _).star (schP_stable.star HQ.out))
    have h11 : Holds B w0 (w7.setCell ⟨w1.heap.size + 1, 2, none⟩ (.int .i64 1)) (star (blkP (w1.heap.size + 1) 103 (evCs i t'.2.at_ 1)) (star (blkP w.heap.size 103 #[.int .i64 0, .int .i64 0, .int .i64 0]) (star (blkP w1.heap.size 97 x'.cs) (star (schP b (X.set i (t'.1, t'.2.next)) bm O) Q)))) := h10.perm (by ac_rfl)
    have B11 := blk_at' h11
    have u0 := B11.cell 0
    have u1 := B11.cell 1
    have u2 := B11.cell 2
    obtain ⟨a0, n0, a1, n1, a2, n2', q0, q1, q2, p0, p1⟩ := store3 (blk_at' h10) (.int .i64 (i : Int)) (.int .i64 (t'.2.at_ : Int)) (.int .i64 1)
    have H9 := Lib.hid (held3 h10 S10 (.int .i64 (i : Int)) (.int .i64 (t'.2.at_ : Int)) (.int .i64 1))
    clear h7 h8 S8 B8 h9 h10 S10 h11 B11 hk7
    go_wp2_with fail
    refine bodyPost_ret (v := .tuple #[.agg (evCs i t'.2.at_ 1), .int .i64 0]) (by simp [results, Try.results62, go_sem, hu3, q0, q1, q2]) rfl ?_
    exact ⟨rfl, H9.out.drop.drop.drop⟩
end
end Go.Proofs.Ytmohpjkbhpgidaa.A
namespace Go.Proofs.Ytmohpjkbhpgidaa.A
open Go.RowKit Go.Proofs.Ytmohpjkbhpgidaa.U
set_option linter.unusedVariables false
set_option linter.unusedSimpArgs false

/-- An object without its block. -/
structure PM where
  num : Int
  st : OS
def PM.key (m : PM) : Int × Int := (m.st.kd, m.num)
/-- The scheduler without its blocks. -/
structure PS where
  T : List Tk
  M : List PM
def pm (o : Ob) : PM := ⟨o.num, o.st⟩
def Rel (X : List (Nat × Tk)) (O : List Ob) (S : PS) : Prop := X.map (·.2) = S.T ∧ O.map pm = S.M
def pickT (p : Tk → Bool) (T : List Tk) : Nat → List Int
  | 0 => []
  | k + 1 => pickT p T k ++ (match T[k]? with | some t => if p t then [(k : Int)] else [] | none => [])
theorem pickL_T (p : Tk → Bool) (X : List (Nat × Tk)) : ∀ k, pickL p X k = pickT p (X.map (·.2)) k
  | 0 => rfl
  | k + 1 => by
    unfold pickL pickT
    rw [pickL_T p X k, List.getElem?_map]
    cases X[k]? <;> rfl
def wakeT1 (T : List Tk) (u : Int) : List Tk := match T[u.toNat]? with | some t => T.set u.toNat { t with blk := false } | none => T
def wakeT : List Tk → List Int → List Tk
  | T, [] => T
  | T, u :: l => wakeT (wakeT1 T u) l
theorem wake1_T (X : List (Nat × Tk)) (u : Int) : (wake1 X u).map (·.2) = wakeT1 (X.map (·.2)) u := by
  unfold wake1 wakeT1
  rw [List.getElem?_map]
  cases X[u.toNat]? with
  | none => rfl
  | some x => simp [List.map_set]
theorem wake_T : ∀ (l : List Int) (X : List (Nat × Tk)), (wakeAll X l).map (·.2) = wakeT (X.map (·.2)) l
  | [], X => rfl
  | u :: l, X => by
    show (wakeAll (wake1 X u) l).map (·.2) = wakeT (wakeT1 (X.map (·.2)) u) l
    rw [wake_T l, wake1_T]
def findM (M : List PM) (n : Int × Int) : List PM := if M.any (fun m => m.key == n) then M else M ++ [⟨n.2, fresh n.1⟩]
def idxM (M : List PM) (n : Int × Int) : Nat := M.findIdx fun m => m.key == n
def zPM : PM := ⟨0, .g 0 []⟩
/-- A step of task i, whose next operation is x: the error, and what is left. -/
def stepX (S : PS) (i : Nat) (t : Tk) (x : Op3) : Int × PS :=
  if x.k = 9 then (0, ⟨S.T.set i t.next, S.M⟩)
  else match kindO x.k x.n with
    | none => (1, ⟨S.T.set i t.next, S.M⟩)
    | some kd =>
      let M1 := findM S.M (kd, x.obj)
      let m := M1.getD (idxM M1 (kd, x.obj)) zPM
      let d := doS m.st x i t.next
      (d.er, ⟨wakeT (S.T.set i { d.tk with blk := d.wait && d.er == 0 }) d.wk, M1.set (idxM M1 (kd, x.obj)) ⟨m.num, d.st⟩⟩)
theorem idx_of {M : List PM} {n : Int × Int} {j : Nat} {m : PM} (h : M[j]? = some m) (hn : m.key = n) (hf : ∀ (j' : Nat) (m' : PM), j' < j → M[j']? = some m' → m'.key ≠ n) : idxM M n = j := by
  obtain ⟨hj, he⟩ := List.getElem?_eq_some_iff.1 h
  unfold idxM
  rw [List.findIdx_eq hj]
  refine ⟨by rw [he]; simp [hn], fun j' hj' => ?_⟩
  have := hf j' (M[j']'(by omega)) hj' (List.getElem?_eq_getElem (by omega))
  simpa using this
theorem rel_yield {X : List (Nat × Tk)} {O : List Ob} {S : PS} (h : Rel X O S) {i : Nat} {t : Nat × Tk} (x : Op3) (hk : x.k = 9) : Rel (X.set i (t.1, t.2.next)) O (stepX S i t.2 x).2 ∧ (stepX S i t.2 x).1 = 0 := by
  unfold stepX
  rw [if_pos hk]
  refine ⟨⟨?_, h.2⟩, rfl⟩
  show (X.set i (t.1, t.2.next)).map (·.2) = S.T.set i t.2.next
  rw [List.map_set, h.1]
theorem rel_bad {X : List (Nat × Tk)} {O : List Ob} {S : PS} (h : Rel X O S) {i : Nat} {t : Nat × Tk} (x : Op3) (hk9 : x.k ≠ 9) (hk : kindO x.k x.n = none) : Rel (X.set i (t.1, t.2.next)) O (stepX S i t.2 x).2 ∧ (stepX S i t.2 x).1 = 1 := by
  unfold stepX
  rw [if_neg hk9, hk]
  refine ⟨⟨?_, h.2⟩, rfl⟩
  show (X.set i (t.1, t.2.next)).map (·.2) = S.T.set i t.2.next
  rw [List.map_set, h.1]
theorem kindO_mem {k n kd : Int} (h : kindO k n = some kd) : kd = 109 ∨ kd = 119 ∨ kd = 103 ∨ kd = 111 := by
  unfold kindO at h
  (repeat' split at h) <;> first | (simp at h; done) | (injection h with h; omega)
theorem fresh_kd {k n kd : Int} (h : kindO k n = some kd) : (fresh kd).kd = kd := by
  rcases kindO_mem h with rfl | rfl | rfl | rfl <;> rfl
theorem rel_obj {X : List (Nat × Tk)} {O : List Ob} {S : PS} (h : Rel X O S) {i : Nat} {t : Nat × Tk} {x : Op3} {kd : Int} (hk9 : x.k ≠ 9) (hk : kindO x.k x.n = some kd) {O1 : List Ob} {j : Nat} {o : Ob} (h1 : O1[j]? = some o) (h2 : o.key = (kd, x.obj))
    (h3 : ∀ (j' : Nat) (o' : Ob), j' < j → O1[j']? = some o' → o'.key ≠ (kd, x.obj)) (h4 : O1 = O ∨ (O1 = O ++ [o] ∧ o.st = fresh kd ∧ ∀ o ∈ O, o.key ≠ (kd, x.obj))) :
    Rel (wakeAll (X.set i (t.1, { (doS o.st x i t.2.next).tk with blk := (doS o.st x i t.2.next).wait && (doS o.st x i t.2.next).er == 0 })) (doS o.st x i t.2.next).wk) (O1.set j { o with st := (doS o.st x i t.2.next).st }) (stepX S i t.2 x).2 ∧ (stepX S i t.2 x).1 = (doS o.st x i t.2.next).er := by
  have hM : O1.map pm = findM S.M (kd, x.obj) := by
    unfold findM
    rw [← h.2]
    rcases h4 with rfl | ⟨rfl, e1, hn⟩
    · rw [if_pos]
      rw [List.any_map, List.any_eq_true]
      exact ⟨o, List.mem_of_getElem? h1, by simp only [Function.comp]; exact beq_iff_eq.2 h2⟩
    · rw [if_neg]
      · rw [List.map_append]
        congr 1
        show [pm o] = _
        unfold pm
        rw [(Prod.mk.inj h2).2, e1]
      · rw [List.any_map, List.any_eq_true]
        rintro ⟨o', ho', he⟩
        exact hn o' ho' (beq_iff_eq.1 he)
  have hj : (findM S.M (kd, x.obj))[j]? = some (pm o) := by rw [← hM, List.getElem?_map, h1]; rfl
  have hi : idxM (findM S.M (kd, x.obj)) (kd, x.obj) = j := idx_of hj h2 (fun j' m' hj' hm' => by
    rw [← hM, List.getElem?_map] at hm'
    cases ho' : O1[j']? with
    | none => rw [ho'] at hm'; cases hm'
    | some o' =>
      rw [ho'] at hm'
      injection hm' with hm'
      subst hm'
      exact h3 j' o' hj' ho')
  unfold stepX
  rw [if_neg hk9, hk]
  dsimp only
  rw [hi, show (findM S.M (kd, x.obj)).getD j zPM = pm o by rw [List.getD_eq_getElem?_getD, hj]; rfl]
  refine ⟨⟨?_, ?_⟩, rfl⟩
  · show (wakeAll _ _).map (·.2) = wakeT _ _
    rw [wake_T, List.map_set, h.1]
    rfl
  · show (O1.set j _).map pm = (findM S.M (kd, x.obj)).set j _
    rw [List.map_set, hM]
    rfl
theorem wakeT1_ops (T : List Tk) (u : Int) : (wakeT1 T u).map (·.ops) = T.map (·.ops) := by
  unfold wakeT1
  cases h : T[u.toNat]? with
  | none => rfl
  | some t =>
    apply List.ext_getElem?
    intro j
    show ((T.set u.toNat { t with blk := false }).map (·.ops))[j]? = _
    rw [List.getElem?_map, List.getElem?_map, List.getElem?_set]
    by_cases hj : u.toNat = j
    · subst hj
      have hl := (List.getElem?_eq_some_iff.1 h).1
      rw [if_pos rfl, if_pos hl, h]; rfl
    · rw [if_neg hj]
theorem wakeT_ops : ∀ (l : List Int) (T : List Tk), (wakeT T l).map (·.ops) = T.map (·.ops)
  | [], T => rfl
  | u :: l, T => by
    show (wakeT (wakeT1 T u) l).map (·.ops) = _
    rw [wakeT_ops l, wakeT1_ops]
theorem set_ops {T : List Tk} {i : Nat} {t t' : Tk} (h : T[i]? = some t) (he : t'.ops = t.ops) : (T.set i t').map (·.ops) = T.map (·.ops) := by
  apply List.ext_getElem?
  intro j
  rw [List.getElem?_map, List.getElem?_map, List.getElem?_set]
  by_cases hj : i = j
  · subst hj
    have hl := (List.getElem?_eq_some_iff.1 h).1
    rw [if_pos rfl, if_pos hl, h]
    show some t'.ops = some t.ops
    rw [he]
  · rw [if_neg hj]
theorem wakeT1_mem {T : List Tk} {u : Int} {P : Tk → Prop} (h : ∀ t ∈ T, P t) (hP : ∀ t, P t → P { t with blk := false }) : ∀ t ∈ wakeT1 T u, P t := by
  unfold wakeT1
  cases hu : T[u.toNat]? with
  | none => exact h
  | some t' =>
    intro t ht
    rcases List.mem_or_eq_of_mem_set ht with ht | rfl
    · exact h t ht
    · exact hP t' (h t' (List.mem_of_getElem? hu))
theorem wakeT_mem {P : Tk → Prop} (hP : ∀ t, P t → P { t with blk := false }) : ∀ (l : List Int) (T : List Tk), (∀ t ∈ T, P t) → ∀ t ∈ wakeT T l, P t
  | [], T, h => h
  | u :: l, T, h => wakeT_mem hP l _ (wakeT1_mem h hP)
theorem doS_tk (s : OS) (x : Op3) (id : Int) (T : Tk) : (doS s x id T).tk = T ∨ (doS s x id T).tk = T.pop ∨ (doS s x id T).tk = T.push x.obj ∨ (doS s x id T).tk = T.past := by
  cases s <;> unfold doS <;> dsimp only
  · split <;> exact .inl rfl
  · split <;> exact .inl rfl
  · split <;> exact .inl rfl
  · split
    · split
      · exact .inr (.inl rfl)
      · exact .inl rfl
    · dsimp only
      split
      · exact .inl rfl
      · split
        · exact .inr (.inr (.inl rfl))
        · exact .inr (.inr (.inr rfl))
theorem doS_ops (s : OS) (x : Op3) (id : Int) (T : Tk) : (doS s x id T).tk.ops = T.ops := by
  rcases doS_tk s x id T with h | h | h | h <;> rw [h] <;> rfl
theorem stepX_ops {S : PS} {i : Nat} {t : Tk} {x : Op3} (h : S.T[i]? = some t) : (stepX S i t x).2.T.map (·.ops) = S.T.map (·.ops) := by
  unfold stepX
  split
  · exact set_ops h rfl
  · cases kindO x.k x.n with
    | none => exact set_ops h rfl
    | some kd =>
      show (wakeT _ _).map (·.ops) = _
      rw [wakeT_ops]
      exact set_ops h (by show (doS _ x i t.next).tk.ops = t.ops; rw [doS_ops]; rfl)
/-- What stays so: k grows by one at each step. -/
structure GoodS (S : PS) (k : Nat) : Prop where
  ops : ∀ l ∈ S.T.map (·.ops), l.length ≤ 1000000 ∧ ∀ x ∈ l, -9223372036854775808 ≤ x.n ∧ x.n ≤ 9223372036854775807
  len : S.T.length ≤ 1000000
  tk : ∀ t ∈ S.T, t.at_ ≤ t.ops.length ∧ t.runs.length ≤ k
  ok : ∀ m ∈ S.M, m.st.ok k S.T.length
theorem findM_q {M : List PM} {n : Int × Int} {P : PM → Prop} (h : ∀ m ∈ M, P m) (hz : P ⟨n.2, fresh n.1⟩) : ∀ m ∈ findM M n, P m := by
  unfold findM
  split
  · exact h
  · intro m hm
    rcases List.mem_append.1 hm with hm | hm
    · exact h m hm
    · rw [List.mem_singleton.1 hm]; exact hz
theorem GoodS.step {S : PS} {k i : Nat} {t : Tk} {x : Op3} (h : GoodS S k) (ht : S.T[i]? = some t) (hr : t.ready = true) : GoodS (stepX S i t x).2 (k + 1) := by
  have ho := stepX_ops (x := x) ht
  have hl : (stepX S i t x).2.T.length = S.T.length := by have := congrArg List.length ho; simpa using this
  have hi := (List.getElem?_eq_some_iff.1 ht).1
  have ht0 := h.tk t (List.mem_of_getElem? ht)
  have hat : t.at_ < t.ops.length := by unfold Tk.ready at hr; simp at hr; exact hr.2
  have hnx : t.next.at_ ≤ t.next.ops.length ∧ t.next.runs.length ≤ k + 1 := ⟨hat, by show t.runs.length ≤ k + 1; omega⟩
  have h0 : ∀ t' ∈ S.T, t'.at_ ≤ t'.ops.length ∧ t'.runs.length ≤ k + 1 := fun t' h' => ⟨(h.tk t' h').1, by have := (h.tk t' h').2; omega⟩
  have hset : ∀ t2 : Tk, (t2.at_ ≤ t2.ops.length ∧ t2.runs.length ≤ k + 1) → ∀ t' ∈ S.T.set i t2, t'.at_ ≤ t'.ops.length ∧ t'.runs.length ≤ k + 1 := fun t2 h2 t' h' => by
    rcases List.mem_or_eq_of_mem_set h' with h' | rfl
    · exact h0 t' h'
    · exact h2
  have hm0 : ∀ m ∈ S.M, m.st.ok (k + 1) S.T.length := fun m hm => (h.ok m hm).more (by omega)
  refine ⟨by rw [ho]; exact h.ops, by rw [hl]; exact h.len, ?_, ?_⟩
  · unfold stepX
    split
    · exact hset _ hnx
    · cases kindO x.k x.n with
      | none => exact hset _ hnx
      | some kd =>
        dsimp only
        refine wakeT_mem (fun t h => h) _ _ (hset _ ?_)
        show (doS _ x i t.next).tk.at_ ≤ (doS _ x i t.next).tk.ops.length ∧ (doS _ x i t.next).tk.runs.length ≤ k + 1
        rcases doS_tk ((findM S.M (kd, x.obj)).getD (idxM (findM S.M (kd, x.obj)) (kd, x.obj)) zPM).st x i t.next with h | h | h | h <;> rw [h]
        · exact hnx
        · exact ⟨hnx.1, by show t.runs.dropLast.length ≤ _; rw [List.length_dropLast]; omega⟩
        · exact ⟨hnx.1, by show (t.runs ++ [x.obj]).length ≤ _; simp; omega⟩
        · refine ⟨?_, hnx.2⟩
          show t.next.at_ + pastL 1 (t.next.ops.drop t.next.at_) ≤ t.next.ops.length
          have := pastL_le (t.next.ops.drop t.next.at_) 1
          rw [List.length_drop] at this
          have := hnx.1
          omega
  · rw [hl]
    unfold stepX
    split
    · exact hm0
    · cases hkd : kindO x.k x.n with
      | none => exact hm0
      | some kd =>
        dsimp only
        intro m hm
        have hf := findM_q (n := (kd, x.obj)) (P := fun m => m.st.ok k S.T.length) h.ok (fresh_ok _ _ _)
        rcases List.mem_or_eq_of_mem_set hm with hm | rfl
        · exact (hf m hm).more (by omega)
        · refine (doS_ok ?_ ⟨by omega, by omega⟩).1
          rw [List.getD_eq_getElem?_getD]
          cases hg : (findM S.M (kd, x.obj))[idxM (findM S.M (kd, x.obj)) (kd, x.obj)]? with
          | none => exact ⟨by decide, by decide, Nat.zero_le _, fun y hy => by cases hy⟩
          | some m => exact hf m (List.mem_of_getElem? hg)
section
variable {B : Nat} {w0 w : World} {Q : SP} {b bm : Nat} {X : List (Nat × Tk)} {O : List Ob} {S : PS}
theorem x_step (h : Holds B w0 w (star (schP b X bm O) Q)) (hQ : Stable Q) (hr : Rel X O S) {k : Nat} (hg : GoodS S k) (hk : k ≤ 500000) (i : Nat) (t : Tk) (ht : S.T[i]? = some t) (hrd : t.ready = true) (x : Op3) (hx : t.ops[t.at_]? = some x) :
    Calls Try.prog 62 #[.pointer (some ⟨b, 0, none⟩), .int .i64 i] w (fun e w' => ∃ X' O', e = .returned (.tuple #[.agg (evCs i t.at_ (stepX S i t x).1), .int .i64 0]) ∧ Rel X' O' (stepX S i t x).2 ∧ Holds B w0 w' (star (schP b X' bm O') Q)) := by
  have hXl : X.length = S.T.length := by rw [← hr.1, List.length_map]
  have hXi : ∃ g, X[i]? = some (g, t) := by
    rw [← hr.1, List.getElem?_map] at ht
    cases hx' : X[i]? with
    | none => rw [hx'] at ht; cases ht
    | some y => rw [hx'] at ht; injection ht with ht; exact ⟨y.1, by rw [← ht]⟩
  obtain ⟨g, hXi⟩ := hXi
  have hop := hg.ops t.ops (List.mem_map.2 ⟨t, List.mem_of_getElem? ht, rfl⟩)
  have htk := hg.tk t (List.mem_of_getElem? ht)
  by_cases hk9 : x.k = 9
  · refine (step_yield h hQ (by rw [hXl]; exact hg.len) i (g, t) hXi hrd x hx hk9 hop.1).mono ?_
    rintro e w' ⟨rfl, hh⟩
    obtain ⟨h1, h2⟩ := rel_yield hr (i := i) (t := (g, t)) x hk9
    exact ⟨_, _, by rw [h2], h1, hh⟩
  · cases hkd : kindO x.k x.n with
    | none =>
      refine (step_bad h hQ (by rw [hXl]; exact hg.len) i (g, t) hXi hrd x hx hk9 hkd hop.1).mono ?_
      rintro e w' ⟨rfl, hh⟩
      obtain ⟨h1, h2⟩ := rel_bad hr (i := i) (t := (g, t)) x hk9 hkd
      exact ⟨_, _, by rw [h2], h1, hh⟩
    | some kd =>
      have hn := hop.2 x (List.mem_of_getElem? hx)
      refine (step_obj h hQ (by rw [hXl]; exact hg.len) i (g, t) hXi hrd x hx hk9 kd hkd hop.1 (by have := htk.2; show t.runs.length ≤ _; omega) hn.1 hn.2 k hk (fun o ho => by rw [hXl]; exact hg.ok (pm o) (by rw [← hr.2]; exact List.mem_map_of_mem ho))).mono ?_
      rintro e w' ⟨O1, j, o, h1, h2, h3, h4, rfl, hh⟩
      obtain ⟨r1, r2⟩ := rel_obj hr (i := i) (t := (g, t)) (x := x) hk9 hkd h1 h2 h3 h4
      exact ⟨_, _, by rw [r2], r1, hh⟩
end
end Go.Proofs.Ytmohpjkbhpgidaa.A
namespace Go.Proofs.Ytmohpjkbhpgidaa.A
open Go.RowKit Go.Proofs.Ytmohpjkbhpgidaa.U
set_option linter.unusedVariables false
set_option linter.unusedSimpArgs false

/-- An event: the task, where it was, the error. -/
structure Ev where
  task : Int
  at_ : Nat
  er : Int
abbrev Ev.cl (e : Ev) : List Value := [.int .i64 e.task, .int .i64 e.at_, .int .i64 e.er]
def evsV (L : List Ev) : List Value := L.flatMap Ev.cl
theorem EV : Elem Try.prog 91 103 3 24 (.agg #[.int .i64 0, .int .i64 0, .int .i64 0]) := ⟨Try.underlying91, by kernel_rfl, by rfl, by decide⟩
theorem evsV_app (L : List Ev) (e : Ev) : evsV (L ++ [e]) = evsV L ++ e.cl := by unfold evsV; rw [List.flatMap_append]; rfl
theorem evsV_len (L : List Ev) : (evsV L).length = L.length * 3 := by
  induction L with
  | nil => rfl
  | cons x L ih => show (x.cl ++ evsV L).length = _; rw [List.length_append, ih]; simp; omega
theorem evsV_get {L : List Ev} {k : Nat} {x : Ev} (h : L[k]? = some x) (j : Nat) (hj : j < 3) : (evsV L)[k * 3 + j]? = x.cl[j]? := by
  induction L generalizing k with
  | nil => simp at h
  | cons y L ih =>
    show (y.cl ++ evsV L)[k * 3 + j]? = _
    cases k with
    | zero =>
      simp at h; subst h
      rw [List.getElem?_append_left (by simp; omega)]
      simp
    | succ k =>
      rw [List.getElem?_append_right (by simp; omega)]
      simp at h
      rw [← ih h]
      congr 1
      simp; omega
/-- Which of the tasks that may go on is taken. -/
def pickI (picks : List Int) (n len : Nat) : Int := match picks[n]? with | some p => (p.tmod len + len).tmod len | none => 0
theorem pickI_lt (picks : List Int) (n len : Nat) (h : 0 < len) : 0 ≤ pickI picks n len ∧ pickI picks n len < len := by
  unfold pickI
  cases picks[n]? with
  | none => exact ⟨by simp, by simpa using h⟩
  | some p =>
    have h1 : -(len : Int) < p.tmod len := by have := Int.lt_tmod_of_pos p (show (0 : Int) < len by omega); omega
    have h2 := Int.tmod_nonneg (len : Int) (show 0 ≤ p.tmod len + len by omega)
    have h3 := Int.tmod_lt_of_pos (p.tmod len + len) (show (0 : Int) < len by omega)
    exact ⟨h2, h3⟩
/-- One round: none when no task may go on. -/
def roundX (picks : List Int) (n : Nat) (S : PS) : Option (Ev × PS) :=
  let L := pickT Tk.ready S.T S.T.length
  if L.isEmpty then none
  else
    let i := (L.getD (pickI picks n L.length).toNat 0).toNat
    match S.T[i]? with
    | none => none
    | some t => match t.ops[t.at_]? with
      | none => none
      | some x => some (⟨i, t.at_, (stepX S i t x).1⟩, (stepX S i t x).2)
def runX (picks : List Int) : Nat → Nat → PS → List Ev → List Ev × PS
  | 0, _, S, l => (l, S)
  | f + 1, n, S, l => match roundX picks n S with
    | none => (l, S)
    | some (e, S') => runX picks f (n + 1) S' (l ++ [e])
theorem pickT_mem (p : Tk → Bool) (T : List Tk) : ∀ (k : Nat) (y : Int), y ∈ pickT p T k → ∃ (i : Nat) (t : Tk), y = i ∧ i < k ∧ T[i]? = some t ∧ p t = true
  | 0, y, h => by cases h
  | k + 1, y, h => by
    unfold pickT at h
    rcases List.mem_append.1 h with h | h
    · obtain ⟨i, t, e, hi, r⟩ := pickT_mem p T k y h
      exact ⟨i, t, e, by omega, r⟩
    · cases hk : T[k]? with
      | none => rw [hk] at h; cases h
      | some t =>
        rw [hk] at h
        dsimp only at h
        by_cases hp : p t = true
        · rw [if_pos hp] at h
          exact ⟨k, t, List.mem_singleton.1 h, by omega, hk, hp⟩
        · rw [if_neg hp] at h; cases h
theorem pickT_len (p : Tk → Bool) (T : List Tk) : ∀ k, (pickT p T k).length ≤ k
  | 0 => by simp [pickT]
  | k + 1 => by
    have := pickT_len p T k
    unfold pickT
    rw [List.length_append]
    cases T[k]? with
    | none => show _ + 0 ≤ _; omega
    | some t =>
      show _ + (if p t then [(k : Int)] else []).length ≤ _
      cases p t <;> simp <;> omega
/-- What a round takes. -/
theorem round_some {picks : List Int} {n : Nat} {S : PS} {p : Int} (hp : p = pickI picks n (pickT Tk.ready S.T S.T.length).length) (hne : 0 < (pickT Tk.ready S.T S.T.length).length) :
    ∃ (i : Nat) (t : Tk) (x : Op3), 0 ≤ p ∧ p.toNat < (pickT Tk.ready S.T S.T.length).length ∧ (pickT Tk.ready S.T S.T.length)[p.toNat]? = some (i : Int) ∧ S.T[i]? = some t ∧ t.ready = true ∧ t.ops[t.at_]? = some x ∧
      roundX picks n S = some (⟨i, t.at_, (stepX S i t x).1⟩, (stepX S i t x).2) := by
  obtain ⟨p0, p1⟩ := pickI_lt picks n _ hne
  rw [← hp] at p0 p1
  have hlt : p.toNat < (pickT Tk.ready S.T S.T.length).length := by omega
  have hg := List.getElem?_eq_getElem hlt
  obtain ⟨i, t, e, hi, ht, hr⟩ := pickT_mem _ _ _ _ (List.mem_of_getElem? hg)
  have hr' := hr
  unfold Tk.ready at hr'
  simp only [Bool.and_eq_true, decide_eq_true_eq] at hr'
  have hx := List.getElem?_eq_getElem hr'.2
  refine ⟨i, t, _, p0, hlt, by rw [hg, e], ht, hr, hx, ?_⟩
  unfold roundX
  dsimp only
  rw [if_neg (by cases h : pickT Tk.ready S.T S.T.length with | nil => rw [h] at hne; simp at hne | cons a l => simp), ← hp, List.getD_eq_getElem?_getD, hg, e]
  simp only [Option.getD_some, Int.toNat_natCast]
  rw [ht]
  dsimp only
  rw [hx]
theorem round_none {picks : List Int} {n : Nat} {S : PS} (h : (pickT Tk.ready S.T S.T.length).length = 0) : roundX picks n S = none := by
  unfold roundX
  dsimp only
  rw [if_pos (by rw [List.eq_nil_of_length_eq_zero h]; rfl)]
/-- The scheduler in memory, by what it is in plain Lean. -/
def schE (b bm : Nat) (S : PS) : SP := fun w F => ∃ X O, Rel X O S ∧ schP b X bm O w F
theorem schE_stable {b bm : Nat} {S : PS} : Stable (schE b bm S) where
  keep := fun ⟨X, O, hr, h⟩ hk hn => ⟨X, O, hr, schP_stable.keep h hk hn⟩
  lt := fun ⟨X, O, hr, h⟩ hk => schP_stable.lt h hk
section
variable {B : Nat} {w0 w : World} {Q : SP} {b bm : Nat} {S : PS}
theorem schE_open (h : Holds B w0 w (star (schE b bm S) Q)) : ∃ X O, Rel X O S ∧ Holds B w0 w (star (schP b X bm O) Q) := by
  obtain ⟨F, ⟨F1, F2, ⟨X, O, hr, h1⟩, h2, h3, h4⟩, hq⟩ := h
  exact ⟨X, O, hr, F, ⟨F1, F2, h1, h2, h3, h4⟩, hq⟩
theorem schE_close {X : List (Nat × Tk)} {O : List Ob} (hr : Rel X O S) (h : Holds B w0 w (star (schP b X bm O) Q)) : Holds B w0 w (star (schE b bm S) Q) := by
  obtain ⟨F, ⟨F1, F2, h1, h2, h3, h4⟩, hq⟩ := h
  exact ⟨F, ⟨F1, F2, ⟨X, O, hr, h1⟩, h2, h3, h4⟩, hq⟩
theorem e_step (h : Holds B w0 w (star (schE b bm S) Q)) (hQ : Stable Q) {k : Nat} (hg : GoodS S k) (hk : k ≤ 500000) (i : Nat) (t : Tk) (ht : S.T[i]? = some t) (hrd : t.ready = true) (x : Op3) (hx : t.ops[t.at_]? = some x) :
    Calls Try.prog 62 #[.pointer (some ⟨b, 0, none⟩), .int .i64 i] w (StepOk B w0 i t.at_ (stepX S i t x).1 (star (schE b bm (stepX S i t x).2) Q)) := by
  obtain ⟨X, O, hr, h1⟩ := schE_open h
  refine (x_step h1 hQ hr hg hk i t ht hrd x hx).mono ?_
  rintro e w' ⟨X', O', he, hr', hh⟩
  exact ⟨he, schE_close hr' hh⟩
theorem e_tasks (h : Holds B w0 w (star (schE b bm S) Q)) (hg : S.T.length ≤ 1000000) : ∃ X A c, X.map (·.2) = S.T ∧ Tasks w b X A c (.map (some bm)) := by
  obtain ⟨X, O, hr, h1⟩ := schE_open h
  have hl : X.length = S.T.length := by rw [← hr.1, List.length_map]
  have h2 : Holds B w0 w (star (coreP b X bm) (star (star (mapP bm (obM O)) (obsP O)) Q)) := h1.perm (by unfold schP; ac_rfl)
  obtain ⟨A, c, hT⟩ := core_tasks h2 (by omega)
  exact ⟨X, A, c, hr.1, hT⟩
theorem e_ready (h : Holds B w0 w (star (schE b bm S) Q)) (hg : S.T.length ≤ 1000000) : Calls Try.prog 61 #[.pointer (some ⟨b, 0, none⟩)] w (PickPost (pickT Tk.ready S.T S.T.length) w) := by
  obtain ⟨X, A, c, hX, hT⟩ := e_tasks h hg
  have := ready61 w b X A c _ hT
  unfold readyL at this
  rw [pickL_T, hX, show X.length = S.T.length by rw [← hX, List.length_map]] at this
  exact this
theorem e_blocked (h : Holds B w0 w (star (schE b bm S) Q)) (hg : S.T.length ≤ 1000000) : Calls Try.prog 67 #[.pointer (some ⟨b, 0, none⟩)] w (PickPost (pickT Tk.blk S.T S.T.length) w) := by
  obtain ⟨X, A, c, hX, hT⟩ := e_tasks h hg
  have := blocked67 w b X A c _ hT
  unfold blkL at this
  rw [pickL_T, hX, show X.length = S.T.length by rw [← hX, List.length_map]] at this
  exact this
theorem e_ended (h : Holds B w0 w (star (schE b bm S) Q)) (hg : S.T.length ≤ 1000000) : Calls Try.prog 63 #[.pointer (some ⟨b, 0, none⟩)] w (fun e w' => e = .returned (.bool (pickT Tk.open_ S.T S.T.length).isEmpty) ∧ Keep Nothing w w') := by
  obtain ⟨X, A, c, hX, hT⟩ := e_tasks h hg
  have := ended63 w b X A c _ hT
  unfold openL at this
  rw [pickL_T, hX, show X.length = S.T.length by rw [← hX, List.length_map]] at this
  exact this
end
/-- What New makes. -/
def newS (TS : List (List Op3)) : PS := ⟨TS.map freshT, []⟩
theorem e_new (w : World) (A : Option Addr) (c : Nat) (TS : List (List Op3)) (h : ArgOps w A TS) (hl : TS.length ≤ 1000000) :
    Calls Try.prog 60 #[.slice A TS.length c] w (fun e w' => ∃ b bm, e = .returned (.pointer (some ⟨b, 0, none⟩)) ∧ Holds w.heap.size w w' (star (schE b bm (newS TS)) none_)) := by
  refine (new60 w A c TS h hl).mono ?_
  rintro e w' ⟨b, bm, X, rfl, hX, hh⟩
  refine ⟨b, bm, rfl, schE_close (X := X) (O := []) ⟨hX, rfl⟩ ?_⟩
  exact hh.perm (by
    show _ = star (star (coreP b X bm) (star (mapP bm []) none_)) none_
    have e1 : star none_ none_ = none_ := by
      funext w F
      apply propext
      constructor
      · rintro ⟨F1, F2, h1, h2, h3, h4⟩ k hk
        rcases (h4 k).1 hk with h | h
        · exact h1 k h
        · exact h2 k h
      · intro h
        exact ⟨F, F, h, h, fun k hk => absurd hk (h k), fun k => by simp⟩
    rw [star_assoc', star_assoc', e1])
end Go.Proofs.Ytmohpjkbhpgidaa.A
