/-
  The scheduler: find and do of any object, whole. Printed by gen_yg.py.
-/
import Derived.Test.YtmohpjkbhpgidaaYB
import Derived.Test.YtmohpjkbhpgidaaYC
import Derived.Test.YtmohpjkbhpgidaaYF
namespace Go.Proofs.Ytmohpjkbhpgidaa.A
open Go.RowKit Go.Proofs.Ytmohpjkbhpgidaa.U
set_option linter.unusedVariables false
set_option linter.unusedSimpArgs false
set_option maxRecDepth 100000
set_option maxHeartbeats 800000

/-- What an object makes of an operation: whether it waits, who goes on, the error, itself, the task. -/
structure Ans where
  wait : Bool
  wk : List Int
  er : Int
  st : OS
  tk : Tk
def doS (s : OS) (x : Op3) (id : Int) (T : Tk) : Ans :=
  match s with
  | .m h who L =>
    if x.k = 1 then ⟨!(mLock h who L id).1, [], (mLock h who L id).2.1, .m (mLock h who L id).2.2.1 (mLock h who L id).2.2.2.1 (mLock h who L id).2.2.2.2, T⟩
    else ⟨false, wakeL (mUnlock h who L id).1 (mUnlock h who L id).2.1, (mUnlock h who L id).2.1, .m (mUnlock h who L id).2.2.1 (mUnlock h who L id).2.2.2.1 (mUnlock h who L id).2.2.2.2, T⟩
  | .r W wr L =>
    if x.k = 1 ∨ x.k = 3 then ⟨!(rwLock W wr L id (x.k == 3)).1, [], (rwLock W wr L id (x.k == 3)).2.1, .r (rwLock W wr L id (x.k == 3)).2.2.1 (rwLock W wr L id (x.k == 3)).2.2.2.1 (rwLock W wr L id (x.k == 3)).2.2.2.2, T⟩
    else ⟨false, (rwUnlock W wr L id (x.k == 4)).1, (rwUnlock W wr L id (x.k == 4)).2.1, .r (rwUnlock W wr L id (x.k == 4)).2.2.1 (rwUnlock W wr L id (x.k == 4)).2.2.2.1 (rwUnlock W wr L id (x.k == 4)).2.2.2.2, T⟩
  | .g n L =>
    if x.k = 5 then ⟨false, gR n x.n L, gE n x.n, .g (gN n x.n) (gL n x.n L), T⟩
    else ⟨!(wB n L id), [], wE L id, .g n (wL n L id), T⟩
  | .o W ov L =>
    if x.k = 8 then (if onceOk T x then ⟨false, fR W id L, fE W id, .o (fW W id) (fO W id ov) (fL W id L), T.pop⟩ else ⟨false, [], 1, .o W ov L, T⟩)
    else ⟨dWait W ov L id, [], dE W L id, .o (dW W ov L id) ov (dL W ov L id), if dE W L id ≠ 0 then T else if dRun W ov L id then T.push x.obj else T.past⟩
theorem doS_kd (s : OS) (x : Op3) (id : Int) (T : Tk) : (doS s x id T).st.kd = s.kd := by
  cases s <;> unfold doS
  · dsimp only; split <;> rfl
  · dsimp only; split <;> rfl
  · dsimp only; split <;> rfl
  · dsimp only
    split
    · split <;> rfl
    · rfl
/-- How much of an object there is at most; who waits is a task. -/
def OS.ok (k n : Nat) : OS → Prop
  | .m h who L => L.length ≤ k ∧ ∀ y ∈ L, 0 ≤ y.t ∧ y.t < n
  | .r W wr L => W.length + L.length ≤ k ∧ Good W L ∧ ∀ y ∈ L, 0 ≤ y.t ∧ y.t < n
  | .g c L => 0 ≤ c ∧ c ≤ 1073741824 ∧ L.length ≤ k ∧ ∀ t ∈ L, 0 ≤ t ∧ t < n
  | .o W ov L => L.length ≤ k ∧ ∀ t ∈ L, 0 ≤ t ∧ t < n
theorem good_nil : Good [] [] := ⟨fun i j x y _ hx _ => by simp at hx, by simp [tasks], fun t ht => by simp [tasks] at ht⟩
theorem fresh_ok (kd : Int) (k n : Nat) : (fresh kd).ok k n := by
  unfold fresh
  split
  · exact ⟨Nat.zero_le _, fun y hy => by cases hy⟩
  · split
    · exact ⟨Nat.zero_le _, good_nil, fun y hy => by cases hy⟩
    · split
      · exact ⟨by omega, by omega, Nat.zero_le _, fun y hy => by cases hy⟩
      · exact ⟨Nat.zero_le _, fun y hy => by cases hy⟩
theorem OS.ok.more {k k' n : Nat} {s : OS} (h : s.ok k n) (hk : k ≤ k') : s.ok k' n := by
  cases s with
  | m h0 who L => exact ⟨Nat.le_trans h.1 hk, h.2⟩
  | r W wr L => exact ⟨Nat.le_trans h.1 hk, h.2⟩
  | g c L => exact ⟨h.1, h.2.1, Nat.le_trans h.2.2.1 hk, h.2.2.2⟩
  | o W ov L => exact ⟨Nat.le_trans h.1 hk, h.2⟩
theorem mLock_ok {h : Bool} {who : Int} {L : List Wt} {id : Int} {k n : Nat} (ho : OS.ok k n (.m h who L)) (hid : 0 ≤ id ∧ id < n) : OS.ok (k + 1) n (.m (mLock h who L id).2.2.1 (mLock h who L id).2.2.2.1 (mLock h who L id).2.2.2.2) := by
  have h0 : OS.ok (k + 1) n (.m h who L) := ho.more (by omega)
  unfold mLock
  split
  · exact h0
  · split
    · exact h0
    · split
      · refine ⟨by simp; have := ho.1; omega, fun y hy => ?_⟩
        rcases List.mem_append.1 hy with hy | hy
        · exact ho.2 y hy
        · rw [List.mem_singleton.1 hy]; exact hid
      · exact h0
theorem mUnlock_ok {h : Bool} {who : Int} {L : List Wt} {id : Int} {k n : Nat} (ho : OS.ok k n (.m h who L)) : OS.ok (k + 1) n (.m (mUnlock h who L id).2.2.1 (mUnlock h who L id).2.2.2.1 (mUnlock h who L id).2.2.2.2) ∧ ∀ u ∈ wakeL (mUnlock h who L id).1 (mUnlock h who L id).2.1, 0 ≤ u ∧ u < n := by
  have h0 : OS.ok (k + 1) n (.m h who L) := ho.more (by omega)
  unfold mUnlock
  split
  · exact ⟨h0, fun u hu => by simp [wakeL] at hu⟩
  · cases L with
    | nil => exact ⟨h0, fun u hu => by simp [wakeL] at hu⟩
    | cons y l =>
      refine ⟨⟨by have := ho.1; simp at this ⊢; omega, fun z hz => ho.2 z (List.mem_cons_of_mem _ hz)⟩, fun u hu => ?_⟩
      have hy := ho.2 y List.mem_cons_self
      unfold wakeL at hu
      rw [if_pos ⟨rfl, hy.1⟩] at hu
      rw [List.mem_singleton.1 hu]
      exact hy
theorem rwLock_ok {W : List Int} {wr : Bool} {L : List Wt} {id : Int} {r : Bool} {k n : Nat} (ho : OS.ok k n (.r W wr L)) (hid : 0 ≤ id ∧ id < n) : OS.ok (k + 1) n (.r (rwLock W wr L id r).2.2.1 (rwLock W wr L id r).2.2.2.1 (rwLock W wr L id r).2.2.2.2) := by
  have h0 : OS.ok (k + 1) n (.r W wr L) := ho.more (by omega)
  unfold rwLock
  split
  · exact h0
  · split
    · exact h0
    · rename_i hc
      simp only [Bool.or_eq_true, decide_eq_true_eq, not_or, Bool.not_eq_true] at hc
      have hl := ho.1
      split
      · refine ⟨by show W.length + (L ++ [_]).length ≤ _; simp; omega, ho.2.1.join hc.1 hc.2, fun y hy => ?_⟩
        rcases List.mem_append.1 hy with hy | hy
        · exact ho.2.2 y hy
        · rw [List.mem_singleton.1 hy]; exact hid
      · rename_i hc2
        simp only [Bool.or_eq_true, Bool.not_eq_true', not_or, Bool.not_eq_false] at hc2
        have hLn : L = [] := List.isEmpty_iff.1 hc2.1
        subst hLn
        exact ⟨by show (putI W id).length + 0 ≤ _; rw [putI_len]; simp at hl; omega, ⟨rising_put ho.2.1.1 hc.1, by simp [tasks], fun t ht => by simp [tasks] at ht⟩, fun y hy => by cases hy⟩
theorem drain_ok {k n : Nat} : ∀ (L : List Wt) (W : List Int) (wr : Bool), OS.ok k n (.r W wr L) → OS.ok k n (.r (drain W wr L).1 (drain W wr L).2.1 (drain W wr L).2.2.1) ∧ (∀ u ∈ (drain W wr L).2.2.2, 0 ≤ u ∧ u < n)
  | [], W, wr, h => ⟨h, fun u hu => by cases hu⟩
  | y :: l, W, wr, h => by
    unfold drain
    split
    · obtain ⟨g1, g2⟩ := drain_ok (k := k) (n := n) l (putI W y.t) (!y.r) ⟨(by have := h.1; rw [putI_len]; simp at this; omega), h.2.1.give, fun z hz => h.2.2 z (List.mem_cons_of_mem _ hz)⟩
      refine ⟨g1, fun u hu => ?_⟩
      rcases List.mem_cons.1 hu with rfl | hu
      · exact h.2.2 y List.mem_cons_self
      · exact g2 u hu
    · exact ⟨h, fun u hu => by cases hu⟩
theorem rwUnlock_ok {W : List Int} {wr : Bool} {L : List Wt} {id : Int} {r : Bool} {k n : Nat} (ho : OS.ok k n (.r W wr L)) : OS.ok (k + 1) n (.r (rwUnlock W wr L id r).2.2.1 (rwUnlock W wr L id r).2.2.2.1 (rwUnlock W wr L id r).2.2.2.2) ∧ (∀ u ∈ (rwUnlock W wr L id r).1, 0 ≤ u ∧ u < n) ∧ (rwUnlock W wr L id r).1.length ≤ k := by
  have h0 : OS.ok (k + 1) n (.r W wr L) := ho.more (by omega)
  have hl : (dropI W id).length ≤ W.length := List.length_filter_le _ _
  unfold rwUnlock
  split
  · have h1 : OS.ok (k + 1) n (.r (dropI W id) wr L) := ⟨by have := ho.1; omega, ho.2.1.dropped, ho.2.2⟩
    obtain ⟨g1, g2⟩ := drain_ok L _ wr h1
    refine ⟨g1, g2, ?_⟩
    have := drain_len (dropI W id) wr L
    have := ho.1
    show (drain (dropI W id) wr L).2.2.2.length ≤ k
    omega
  · exact ⟨h0, fun u hu => (by cases hu), Nat.zero_le _⟩
theorem gN_ok {c d : Int} (h1 : 0 ≤ c) (h2 : c ≤ 1073741824) : 0 ≤ gN c d ∧ gN c d ≤ 1073741824 := by
  unfold gN
  by_cases he : gE c d = 0
  · rw [if_pos he]
    unfold gE at he
    by_cases ha : 1073741824 - c < d ∨ d < -1073741824
    · rw [if_pos ha] at he; exact absurd he (by decide)
    · rw [if_neg ha] at he
      by_cases hb : d < -c
      · rw [if_pos hb] at he; exact absurd he (by decide)
      · omega
  · rw [if_neg he]; exact ⟨h1, h2⟩
theorem doS_ok {s : OS} {x : Op3} {id : Int} {T : Tk} {k n : Nat} (ho : s.ok k n) (hid : 0 ≤ id ∧ id < n) : (doS s x id T).st.ok (k + 1) n ∧ (∀ u ∈ (doS s x id T).wk, 0 ≤ u ∧ u < n) ∧ (doS s x id T).wk.length ≤ k + 1 := by
  cases s with
  | m h who L =>
    unfold doS
    dsimp only
    split
    · exact ⟨mLock_ok ho hid, fun u hu => (by cases hu), Nat.zero_le _⟩
    · refine ⟨(mUnlock_ok ho).1, (mUnlock_ok ho).2, ?_⟩
      show (wakeL _ _).length ≤ k + 1
      unfold wakeL
      split <;> simp
  | r W wr L =>
    unfold doS
    dsimp only
    split
    · exact ⟨rwLock_ok ho hid, fun u hu => (by cases hu), Nat.zero_le _⟩
    · obtain ⟨g1, g2, g3⟩ := rwUnlock_ok (id := id) (r := x.k == 4) ho
      exact ⟨g1, g2, by show (rwUnlock W wr L id (x.k == 4)).1.length ≤ k + 1; omega⟩
  | g c L =>
    obtain ⟨h1, h2, h3, h4⟩ := ho
    unfold doS
    dsimp only
    split
    · refine ⟨⟨?_, ?_, ?_, ?_⟩, ?_, ?_⟩
      · exact (gN_ok h1 h2).1
      · exact (gN_ok h1 h2).2
      · unfold gL; split
        · exact Nat.zero_le _
        · omega
      · unfold gL; split
        · intro t ht; cases ht
        · exact h4
      · show ∀ u ∈ gR c x.n L, _
        unfold gR; split
        · exact h4
        · intro t ht; cases ht
      · show (gR c x.n L).length ≤ _
        unfold gR; split
        · omega
        · exact Nat.zero_le _
    · refine ⟨⟨h1, h2, ?_, ?_⟩, fun u hu => (by cases hu), Nat.zero_le _⟩
      · unfold wL; split
        · omega
        · simp; omega
      · unfold wL; split
        · exact h4
        · intro t ht
          rcases List.mem_append.1 ht with ht | ht
          · exact h4 t ht
          · rw [List.mem_singleton.1 ht]; exact hid
  | o W ov L =>
    obtain ⟨h1, h2⟩ := ho
    unfold doS
    dsimp only
    split
    · split
      · refine ⟨⟨?_, ?_⟩, ?_, ?_⟩
        · unfold fL; split
          · exact Nat.zero_le _
          · omega
        · unfold fL; split
          · intro t ht; cases ht
          · exact h2
        · show ∀ u ∈ fR W id L, _
          unfold fR; split
          · exact h2
          · intro t ht; cases ht
        · show (fR W id L).length ≤ _
          unfold fR; split
          · omega
          · exact Nat.zero_le _
      · exact ⟨⟨by omega, h2⟩, fun u hu => (by cases hu), Nat.zero_le _⟩
    · refine ⟨⟨?_, ?_⟩, fun u hu => (by cases hu), Nat.zero_le _⟩
      · unfold dL; split
        · simp; omega
        · omega
      · unfold dL; split
        · intro t ht
          rcases List.mem_append.1 ht with ht | ht
          · exact h2 t ht
          · rw [List.mem_singleton.1 ht]; exact hid
        · exact h2
def fnOf (kd : Int) : Nat := if kd = 109 then 134 else if kd = 119 then 135 else if kd = 103 then 136 else 137
theorem do_method (s : OS) (v : Value) (w : World) : (method 302 (tyOf s.kd) v "latchkey/sched.do").run Try.prog w = .ok (fnOf s.kd, v) w := by
  cases s
  · show (method 302 172 v "latchkey/sched.do").run Try.prog w = .ok (134, v) w; kernel_rfl
  · show (method 302 174 v "latchkey/sched.do").run Try.prog w = .ok (135, v) w; kernel_rfl
  · show (method 302 176 v "latchkey/sched.do").run Try.prog w = .ok (136, v) w; kernel_rfl
  · show (method 302 178 v "latchkey/sched.do").run Try.prog w = .ok (137, v) w; kernel_rfl
theorem kind_cases {k n : Int} {s : OS} (h : kindO k n = some s.kd) : match s with
    | .m .. => (k = 1 ∨ k = 2) ∧ n = 0
    | .r .. => (k = 1 ∨ k = 2 ∨ k = 3 ∨ k = 4) ∧ ((k = 1 ∨ k = 2) → n = 1)
    | .g .. => k = 5 ∨ k = 6
    | .o .. => k = 7 ∨ k = 8 := by
  unfold kindO at h
  cases s <;> simp only [OS.kd] at h ⊢ <;> (repeat' split at h) <;> first | (simp at h; done) | omega
section
variable {B : Nat} {w0 w : World} {Q : SP} {b bm : Nat} {X : List (Nat × Tk)} {O : List Ob}
theorem x_find (h : Holds B w0 w (star (schP b X bm O) Q)) (hQ : Stable Q) (x : Op3) (kd : Int) (hk : kindO x.k x.n = some kd) :
    Calls Try.prog 91 #[.pointer (some ⟨b, 0, none⟩), x.val] w (FindPost B w0 b X bm O (kd, x.obj) Q) := by
  have hc : ((x.k = 1 ∧ x.n = 0) ∨ (x.k = 2 ∧ x.n = 0)) ∧ kd = 109 ∨ ((x.k = 1 ∧ x.n = 1) ∨ (x.k = 2 ∧ x.n = 1) ∨ x.k = 3 ∨ x.k = 4) ∧ kd = 119 ∨ (x.k = 5 ∨ x.k = 6) ∧ kd = 103 ∨ (x.k = 7 ∨ x.k = 8) ∧ kd = 111 := by
    unfold kindO at hk
    (repeat' split at hk) <;> first | (simp at hk; done) | (injection hk with hk; subst hk; omega)
  rcases look_ob O (kd, x.obj) with ⟨h1, h2⟩ | ⟨i, o, h1, h2, h3, h4⟩
  · rcases hc with ⟨⟨hx, hn⟩ | ⟨hx, hn⟩, rfl⟩ | ⟨⟨hx, hn⟩ | ⟨hx, hn⟩ | hx | hx, rfl⟩ | ⟨hx | hx, rfl⟩ | ⟨hx | hx, rfl⟩
    · exact find_new1_0 h hQ x hx hn h1 h2
    · exact find_new2_0 h hQ x hx hn h1 h2
    · exact find_new1_1 h hQ x hx hn h1 h2
    · exact find_new2_1 h hQ x hx hn h1 h2
    · exact find_new3 h hQ x hx h1 h2
    · exact find_new4 h hQ x hx h1 h2
    · exact find_new5 h hQ x hx h1 h2
    · exact find_new6 h hQ x hx h1 h2
    · exact find_new7 h hQ x hx h1 h2
    · exact find_new8 h hQ x hx h1 h2
  · rcases hc with ⟨⟨hx, hn⟩ | ⟨hx, hn⟩, rfl⟩ | ⟨⟨hx, hn⟩ | ⟨hx, hn⟩ | hx | hx, rfl⟩ | ⟨hx | hx, rfl⟩ | ⟨hx | hx, rfl⟩
    · exact find_old1_0 h hQ x hx hn i o h1 h2 h3 h4
    · exact find_old2_0 h hQ x hx hn i o h1 h2 h3 h4
    · exact find_old1_1 h hQ x hx hn i o h1 h2 h3 h4
    · exact find_old2_1 h hQ x hx hn i o h1 h2 h3 h4
    · exact find_old3 h hQ x hx i o h1 h2 h3 h4
    · exact find_old4 h hQ x hx i o h1 h2 h3 h4
    · exact find_old5 h hQ x hx i o h1 h2 h3 h4
    · exact find_old6 h hQ x hx i o h1 h2 h3 h4
    · exact find_old7 h hQ x hx i o h1 h2 h3 h4
    · exact find_old8 h hQ x hx i o h1 h2 h3 h4
/-- What a task is at most. -/
structure Tk.small (T : Tk) : Prop where
  ops : T.ops.length ≤ 1000000
  at_ : T.at_ ≤ T.ops.length
  runs : T.runs.length ≤ 1000000
theorem ans_perm {wait : Bool} {wk : List Int} {er : Int} {P P' : SP} {e : Ending} {w' : World} (h : AnsPost B w0 wait wk er P e w') (hp : P = P') : AnsPost B w0 wait wk er P' e w' := by rw [← hp]; exact h
theorem x_do {s : OS} {g bt : Nat} {T : Tk} {x : Op3} {id : Int} (h : Holds B w0 w (star (OS.P g s) (star (taskP bt T) Q))) (hQ : Stable Q) {k n : Nat} (ho : s.ok k n) (hk : k ≤ 500000) (hT : T.small) (hx : kindO x.k x.n = some s.kd) (hd : -9223372036854775808 ≤ x.n) (hd' : x.n ≤ 9223372036854775807) :
    Calls Try.prog (fnOf s.kd) #[.agg #[.pointer (some ⟨g, 0, none⟩)], .pointer (some ⟨bt, 0, none⟩), .int .i64 id, x.val] w (AnsPost B w0 (doS s x id T).wait (doS s x id T).wk (doS s x id T).er (star (OS.P g (doS s x id T).st) (star (taskP bt (doS s x id T).tk) Q))) := by
  have hTQ : Stable (star (taskP bt T) Q) := (taskP_stable _ _).star hQ
  have hc := kind_cases hx
  cases s with
  | m h0 who L =>
    obtain ⟨hk1 | hk1, hn⟩ := hc
    · unfold doS
      dsimp only
      rw [if_pos hk1]
      exact do_lock h hTQ (by have := ho.1; omega) hk1
    · unfold doS
      dsimp only
      rw [if_neg (by omega)]
      exact do_unlock h hTQ (by have := ho.1; omega) hk1
  | r W wr L =>
    have hl := ho.1
    rcases hc.1 with hk1 | hk1 | hk1 | hk1
    · have := do_rlock1 (tv := .pointer (some ⟨bt, 0, none⟩)) (id := id) h hTQ (by omega) (by omega) ho.2.1.1 hk1
      unfold doS
      dsimp only
      rw [if_pos (.inl hk1), show (x.k == 3) = false by simp [hk1]]
      exact this
    · have := do_runlock2 (tv := .pointer (some ⟨bt, 0, none⟩)) (id := id) h hTQ (by omega) (by omega) ho.2.1 hk1
      unfold doS
      dsimp only
      rw [if_neg (by omega), show (x.k == 4) = false by simp [hk1]]
      exact this
    · have := do_rlock3 (tv := .pointer (some ⟨bt, 0, none⟩)) (id := id) h hTQ (by omega) (by omega) ho.2.1.1 hk1
      unfold doS
      dsimp only
      rw [if_pos (.inr hk1), show (x.k == 3) = true by simp [hk1]]
      exact this
    · have := do_runlock4 (tv := .pointer (some ⟨bt, 0, none⟩)) (id := id) h hTQ (by omega) (by omega) ho.2.1 hk1
      unfold doS
      dsimp only
      rw [if_neg (by omega), show (x.k == 4) = true by simp [hk1]]
      exact this
  | g c L =>
    obtain ⟨h1, h2, h3, h4⟩ := ho
    rcases hc with hk1 | hk1
    · unfold doS
      dsimp only
      rw [if_pos hk1]
      exact do_gadd h hTQ h1 h2 hd hd' hk1
    · unfold doS
      dsimp only
      rw [if_neg (by omega)]
      exact do_gwait h hTQ (by omega) hk1
  | o W ov L =>
    obtain ⟨h1, h2⟩ := ho
    rcases hc with hk1 | hk1
    · have hL : L.length ≤ 1000000 := by omega
      unfold doS
      dsimp only
      rw [if_neg (by omega)]
      by_cases he : dE W L id = 0
      · rw [if_neg (by simp [he])]
        cases hr : dRun W ov L id with
        | true =>
          refine (do_dor h hQ hL hk1 he hr hT.runs).mono fun e w' hp => ?_
          exact ans_perm hp (by rw [if_pos rfl]; dsimp only [OS.P]; ac_rfl)
        | false =>
          refine (do_dos h hQ hL hk1 he hr hT.ops hT.at_).mono fun e w' hp => ?_
          exact ans_perm hp (by rw [if_neg (by simp)]; dsimp only [OS.P]; ac_rfl)
      · rw [if_pos he]
        exact (do_doe h hQ hL hk1 he).mono fun e w' hp => ans_perm hp (by dsimp only [OS.P]; ac_rfl)
    · unfold doS
      dsimp only
      rw [if_pos hk1]
      cases hon : onceOk T x with
      | true =>
        rw [if_pos rfl]
        exact (do_endy h hQ hk1 hT.runs hon).mono fun e w' hp => ans_perm hp (by dsimp only [OS.P]; ac_rfl)
      | false =>
        rw [if_neg (by simp)]
        rcases Nat.eq_zero_or_pos T.runs.length with h0 | h0
        · exact (do_end0 h hQ hk1 h0).mono fun e w' hp => ans_perm hp (by dsimp only [OS.P]; ac_rfl)
        · exact (do_endn h hQ hk1 h0 hT.runs hon).mono fun e w' hp => ans_perm hp (by dsimp only [OS.P]; ac_rfl)
theorem obM_set {i : Nat} {o o' : Ob} (h : O[i]? = some o) (hn : o'.num = o.num) (hg : o'.g = o.g) (hkd : o'.st.kd = o.st.kd) : obM (O.set i o') = obM O := by
  unfold obM
  apply List.ext_getElem?
  intro j
  rw [List.getElem?_map, List.getElem?_map, List.getElem?_set]
  by_cases hj : i = j
  · subst hj
    have hl := (List.getElem?_eq_some_iff.1 h).1
    rw [if_pos rfl, if_pos hl, h]
    show some (o'.key, o'.v) = some (o.key, o.v)
    unfold Ob.v Ob.key
    rw [hn, hg, hkd]
  · rw [if_neg hj]
/-- An object taken out of the scheduler, and put back otherwise. -/
theorem sch_ob {i : Nat} {o : Ob} (h : Holds B w0 w (star (schP b X bm O) Q)) (hQ : Stable Q) (ho : O[i]? = some o) :
    ∃ R, Stable R ∧ Holds B w0 w (star o.P (star R (star (coreP b X bm) (star (mapP bm (obM O)) Q)))) ∧
      ∀ (w' : World) (o' : Ob) (X' : List (Nat × Tk)) (Q' : SP), o'.num = o.num → o'.g = o.g → o'.st.kd = o.st.kd → Holds B w0 w' (star o'.P (star R (star (coreP b X' bm) (star (mapP bm (obM O)) Q')))) → Holds B w0 w' (star (schP b X' bm (O.set i o')) Q') := by
  obtain ⟨R, hR, e1, e2⟩ := obsP_take O i o ho
  refine ⟨R, hR, ?_, fun w' o' X' Q' hn hg hkd h' => ?_⟩
  · have g : Holds B w0 w (star (star (coreP b X bm) (star (mapP bm (obM O)) (star o.P R))) Q) := by rw [← e1]; exact h
    exact g.perm (by ac_rfl)
  · show Holds B w0 w' (star (star (coreP b X' bm) (star (mapP bm (obM (O.set i o'))) (obsP (O.set i o')))) Q')
    rw [obM_set ho hn hg hkd, e2]
    exact h'.perm (by ac_rfl)
end
end Go.Proofs.Ytmohpjkbhpgidaa.A
