/-
  Contracts of guard's Write.
-/
import Derived.Test.YtgjkbhhlgcjlgaaA
namespace Go.Proofs.Ytgjkbhhlgcjlgaa.A
open Go.RowKit Go.Proofs.Ytgjkbhhlgcjlgaa.U
set_option linter.unusedVariables false
set_option linter.unusedSimpArgs false

/-- It answers r, and nothing old has turned. -/
def Only (w : World) (r : Value) (e : Ending) (w' : World) : Prop := e = .returned r ∧ Keep Nothing w w'

theorem keep_caught (w : World) (t n k : Nat) (x : Int) : Keep Nothing w (((w.alloc (.cells #[.int .i64 0] 28)).alloc (.cells #[.int .i64 x] 47)).setCell ⟨w.heap.size, 0, none⟩ (.int .i64 x)) :=
  (((Keep.same Nothing w).alloc _).alloc _).set (.inr (Nat.le_refl _)) _

theorem write_bad (w : World) (pb : Option Addr) (s : ByteArray) (t : Int) (hs : s.size < 1 ∨ 64 < s.size) :
    Calls Try.prog 8 #[.pointer pb, .string s, .int .u64 t] w (Only w (.int .i64 1)) := by
  have hmf : ∀ (fn : Fn) (first cap : Array Value) (w : World), (Instr.makeFunc fn first cap).run Try.prog w = .ok (.func fn first cap) w := fun _ _ _ _ => rfl
  have hu := Try.underlying28
  have K := Lib.hid (((Keep.same Nothing w).alloc (.cells #[.int .i64 0] 28)))
  cases pb with
  | none =>
    clear hs
    go_enter_defers Try.func8, Try.ntmps8
    go_wp2_with (go_at_call 16; refine (must_not _ _).mono ?_; rintro e w' ⟨rfl, rfl⟩)
    refine leaves_cons (f := 15) (args := #[.pointer (some ⟨w.heap.size, 0, none⟩)]) (by simp) (by simp [go_sem]) ?_
    refine (catch_panic w.heap.size 0 1 [] _ (Blk.fresh w 28 _)).mono ?_
    rintro e u' w'' ⟨rfl, rfl, rfl⟩
    simp [Leaves, settle, results, Try.results8, go_sem]
    exact ⟨rfl, by repeat (first | exact Keep.same _ _ | apply Keep.alloc | apply Keep.drewN | apply Keep.drew)⟩
  | some p =>
    rcases hs with hs | hs
    · have g1 : decide (1 ≤ (s.size : Int)) = false := decide_eq_false (by omega)
      go_enter_defers Try.func8, Try.ntmps8
      go_wp2_with (go_at_call 16; refine (must_not _ _).mono ?_; rintro e w' ⟨rfl, rfl⟩)
      refine leaves_cons (f := 15) (args := #[.pointer (some ⟨w.heap.size, 0, none⟩)]) (by simp) (by simp [go_sem]) ?_
      refine (catch_panic w.heap.size 0 1 [] _ (Blk.fresh w 28 _)).mono ?_
      rintro e u' w'' ⟨rfl, rfl, rfl⟩
      simp [Leaves, settle, results, Try.results8, go_sem]
      exact ⟨rfl, by repeat (first | exact Keep.same _ _ | apply Keep.alloc | apply Keep.drewN | apply Keep.drew)⟩
    · have g1 : decide (1 ≤ (s.size : Int)) = true := decide_eq_true (by omega)
      have g2 : decide ((s.size : Int) ≤ 64) = false := decide_eq_false (by omega)
      go_enter_defers Try.func8, Try.ntmps8
      go_wp2_with (go_at_call 16; refine (must_not _ _).mono ?_; rintro e w' ⟨rfl, rfl⟩)
      refine leaves_cons (f := 15) (args := #[.pointer (some ⟨w.heap.size, 0, none⟩)]) (by simp) (by simp [go_sem]) ?_
      refine (catch_panic w.heap.size 0 1 [] _ (Blk.fresh w 28 _)).mono ?_
      rintro e u' w'' ⟨rfl, rfl, rfl⟩
      simp [Leaves, settle, results, Try.results8, go_sem]
      exact ⟨rfl, by repeat (first | exact Keep.same _ _ | apply Keep.alloc | apply Keep.drewN | apply Keep.drew)⟩
theorem write_none (w : World) (s : ByteArray) (t : Int) : Calls Try.prog 8 #[.pointer none, .string s, .int .u64 t] w (Only w (.int .i64 1)) := by
  have hmf : ∀ (fn : Fn) (first cap : Array Value) (w : World), (Instr.makeFunc fn first cap).run Try.prog w = .ok (.func fn first cap) w := fun _ _ _ _ => rfl
  have hu := Try.underlying28
  go_enter_defers Try.func8, Try.ntmps8
  go_wp2_with (go_at_call 16; refine (must_not _ _).mono ?_; rintro e w' ⟨rfl, rfl⟩)
  refine leaves_cons (f := 15) (args := #[.pointer (some ⟨w.heap.size, 0, none⟩)]) (by simp) (by simp [go_sem]) ?_
  refine (catch_panic w.heap.size 0 1 [] _ (Blk.fresh w 28 _)).mono ?_
  rintro e u' w'' ⟨rfl, rfl, rfl⟩
  simp [Leaves, settle, results, Try.results8, go_sem]
  exact ⟨rfl, by repeat (first | exact Keep.same _ _ | apply Keep.alloc | apply Keep.drewN | apply Keep.drew)⟩

abbrev Wr := ByteArray × Int
def cells (L : List Wr) : List Value := L.flatMap fun p => [.string p.1, .bool false, .int .u64 p.2]
theorem cells_append (L M : List Wr) : cells (L ++ M) = cells L ++ cells M := by simp [cells]
theorem cells_length (L : List Wr) : (cells L).length = L.length * 3 := by
  induction L with
  | nil => rfl
  | cons p L ih => simp only [cells, List.flatMap_cons, List.length_append, List.length_cons, List.length_nil] at ih ⊢; omega
theorem cells_one (L : List Wr) : ∀ u ∈ cells L, u.oneCell' = true := by
  intro u hu
  obtain ⟨p, _, hp⟩ := List.mem_flatMap.1 hu
  simp at hp
  rcases hp with rfl | rfl | rfl <;> rfl
theorem E22 : Elem Try.prog 22 32 3 32 (.agg #[.string ByteArray.empty, .bool false, .int .u64 0]) := ⟨Try.underlying22, by kernel_rfl, by rfl, by decide⟩
structure GuardAt (w : World) (b bm : Nat) (v : Value) (f : ByteArray → Int) (L : List Wr) : Prop where
  blk : Blk w b 45 #[.map (some bm), v]
  map : MapU w bm f
  row : Row w 32 3 v L.length (cells L)

theorem write_stale (w : World) (b bm : Nat) (v : Value) (f : ByteArray → Int) (L : List Wr) (s : ByteArray) (t : Int) (h : GuardAt w b bm v f L) (hs1 : 1 ≤ s.size) (hs2 : s.size ≤ 64) (ht : t < f s) :
    Calls Try.prog 8 #[.pointer (some ⟨b, 0, none⟩), .string s, .int .u64 t] w (Only w (.int .i64 18)) := by
  have hmf : ∀ (fn : Fn) (first cap : Array Value) (w : World), (Instr.makeFunc fn first cap).run Try.prog w = .ok (.func fn first cap) w := fun _ _ _ _ => rfl
  have hu := Try.underlying28
  have hu45 := Try.underlying45
  have g1 : decide (1 ≤ (s.size : Int)) = true := decide_eq_true (by omega)
  have g2 : decide ((s.size : Int) ≤ 64) = true := decide_eq_true (by omega)
  have g3 : decide (f s ≤ t) = false := decide_eq_false (by omega)
  have hcell : (w.alloc (.cells #[.int .i64 0] 28)).cell? ⟨b, 0, none⟩ = some (.map (some bm)) := (h.blk.alloc _).cell 0
  have hlk : ∀ n, (Instr.lookup 43 (.map (some bm)) (.string s) false).run Try.prog ((w.alloc (.cells #[.int .i64 0] 28)).drewN n) = .ok (.int .u64 (f s)) ((w.alloc (.cells #[.int .i64 0] 28)).drewN n) := fun n => run_look (h.map.keep (((Keep.same Nothing w).alloc _).drewN n) (fun h => h)) s
  clear h
  go_enter_defers Try.func8, Try.ntmps8
  go_wp2_with fail
  refine (must_ok _ _).mono ?_
  rintro e w' ⟨rfl, ⟨nd, rfl⟩⟩
  go_wp2_with fail
  refine (must_not _ _).mono ?_
  rintro e w' ⟨rfl, rfl⟩
  go_wp2_with fail
  refine leaves_cons (f := 15) (args := #[.pointer (some ⟨w.heap.size, 0, none⟩)]) (by simp) (by simp [go_sem]) ?_
  refine (catch_panic w.heap.size 0 18 [] _ ((Blk.fresh w 28 _).drewN nd)).mono ?_
  rintro e u' w'' ⟨rfl, rfl, rfl⟩
  simp [Leaves, settle, results, Try.results8, go_sem]
  exact ⟨rfl, by repeat (first | exact Keep.same _ _ | apply Keep.alloc | apply Keep.drewN | apply Keep.drew | refine Keep.set ?_ (.inr (Nat.le_refl _)) _)⟩

theorem wpList_put (w : World) {ops : Array Oper} {rest : List Oper} {o : Oper} {a : Act} {Q : Exit → Act → World → Prop} (hgd : o.guard = none) (m x v : Operand) (ho : o.op = .mapUpdate 43 m x v)
    {bm : Nat} {f : ByteArray → Int} (hm : MapU w bm f) (s : ByteArray) (n : Int) (h1 : a.eval m = .map (some bm)) (h2 : a.eval x = .string s) (h3 : a.eval v = .int .u64 n)
    (h : ∀ w', MapU w' bm (fun t => if t = s then n else f t) → Keep (fun k => k = bm) w w' → wpList Try.prog ops Q rest (a.put o.dst undef) w') : wpList Try.prog ops Q (o :: rest) a w := by
  refine wpList_plain hgd fun K hK => ?_
  obtain ⟨w', hrun, hm', hk⟩ := run_put hm s n
  unfold Oper.wp
  simp [execOp, ho, h1, h2, h3, hrun, Result.andThen]
  exact hK _ _ (h w' hm' hk)

theorem MapU.apart {w : World} {b bm t : Nat} {f : ByteArray → Int} {cs : Array Value} (h : MapU w bm f) (hb : Blk w b t cs) : b ≠ bm := by
  rintro rfl
  obtain ⟨es, c, he, _⟩ := h
  unfold Blk at hb
  rw [he] at hb
  cases hb
theorem MapU.notRow {w : World} {bm e size n : Nat} {f : ByteArray → Int} {v : Value} {xs : List Value} (h : MapU w bm f) (hr : Row w e size v n xs) : v.ownBlock ≠ some bm := by
  obtain ⟨es, c, he, _⟩ := h
  exact hr.notMap he
def Foot (b bm : Nat) (v : Value) : Nat → Prop := fun k => k = b ∨ k = bm ∨ v.ownBlock = some k
def Wrote (w : World) (b bm : Nat) (v : Value) (f : ByteArray → Int) (L : List Wr) (e : Ending) (w' : World) : Prop :=
  e = .returned (.int .i64 0) ∧ ∃ v', GuardAt w' b bm v' f L ∧ Keep (Foot b bm v) w w' ∧ ∀ k, v'.ownBlock = some k → v.ownBlock = some k ∨ w.heap.size ≤ k

set_option maxRecDepth 100000 in
set_option maxHeartbeats 800000 in
theorem write_ok (w : World) (b bm : Nat) (v : Value) (f : ByteArray → Int) (L : List Wr) (s : ByteArray) (t : Int) (h : GuardAt w b bm v f L) (hs1 : 1 ≤ s.size) (hs2 : s.size ≤ 64) (ht : f s ≤ t) (hL : L.length ≤ 100000) :
    Calls Try.prog 8 #[.pointer (some ⟨b, 0, none⟩), .string s, .int .u64 t] w (Wrote w b bm v (fun u => if u = s then t else f u) (L ++ [(s, t)])) := by
  have hmf : ∀ (fn : Fn) (first cap : Array Value) (w : World), (Instr.makeFunc fn first cap).run Try.prog w = .ok (.func fn first cap) w := fun _ _ _ _ => rfl
  have hu := Try.underlying28
  have hu45 := Try.underlying45
  have hu32 := Try.underlying32
  have H := Lib.hid h
  obtain ⟨A, c, rfl, hc1, hc2⟩ := h.row.form
  have g1 : decide (1 ≤ (s.size : Int)) = true := decide_eq_true (by omega)
  have g2 : decide ((s.size : Int) ≤ 64) = true := decide_eq_true (by omega)
  have g3 : decide (f s ≤ t) = true := decide_eq_true (by omega)
  have hcell : (w.alloc (.cells #[.int .i64 0] 28)).cell? ⟨b, 0, none⟩ = some (.map (some bm)) := (h.blk.alloc _).cell 0
  have hlk : ∀ n, (Instr.lookup 43 (.map (some bm)) (.string s) false).run Try.prog ((w.alloc (.cells #[.int .i64 0] 28)).drewN n) = .ok (.int .u64 (f s)) ((w.alloc (.cells #[.int .i64 0] 28)).drewN n) := fun n => run_look (h.map.keep (((Keep.same Nothing w).alloc _).drewN n) (fun h => h)) s
  have hm0 : ∀ n, MapU ((w.alloc (.cells #[.int .i64 0] 28)).drewN n) bm f := fun n => h.map.keep (((Keep.same Nothing w).alloc _).drewN n) (fun h => h)
  have HM := Lib.hid hm0
  clear h hm0
  go_enter_defers Try.func8, Try.ntmps8
  go_wp2_with fail
  refine (must_ok _ _).mono ?_
  rintro e w' ⟨rfl, ⟨nd, rfl⟩⟩
  go_wp2_with fail
  refine (must_ok _ _).mono ?_
  rintro e w' ⟨rfl, ⟨nd', rfl⟩⟩
  clear hlk
  go_wp2_with (refine wpList_put _ rfl (.tmp 33) (.tmp 34) (.tmp 35) rfl (HM.out _) s t rfl rfl rfl ?_)
  intro w1 hm1 hk1
  have kb : b ≠ bm := MapU.apart H.out.map H.out.blk
  have kv := MapU.notRow H.out.map H.out.row
  have kg : w.heap.size ≠ bm := fun e => by have := MapU.lt H.out.map; omega
  have K0 : Keep Nothing w ((w.alloc (.cells #[.int .i64 0] 28)).drewN (nd + nd')) := ((Keep.same Nothing w).alloc _).drewN _
  have b0 := H.out.blk.keep K0 (fun h => h)
  have B1 := Lib.hid (b0.keep hk1 kb)
  have R1 := Lib.hid ((H.out.row.keep K0 (fun _ _ h => h)).keep hk1 (fun g hg e => kv (by rw [hg, e])))
  have C1 := Lib.hid (((Blk.fresh w 28 #[.int .i64 0]).drewN (nd + nd')).keep hk1 kg)
  have M1 := Lib.hid hm1
  have K1 := Lib.hid hk1
  have KV := Lib.hid kv
  have hcell0 := B1.out.cell 0
  have hcell1 := B1.out.cell 1
  clear hm1 hk1 kv b0 K0 hcell
  go_wp2_with (at_builtin; refine wpList_app _ rfl E22 (.tmp 40) (.tmp 44) rfl (R1.out.alloc _) (Src.fresh w1 #[.string s, .bool false, .int .u64 t] 32 3 1 rfl) 1 rfl rfl (by simp [Value.oneCell']) (by unfold maxLen; omega) (by omega) ?_)
  intro v2 w2 hr2 hg2 hl2
  obtain ⟨A2, c2, rfl, _, _⟩ := hr2.form
  have B2 := Lib.hid ((B1.out.alloc _).grown hg2 (R1.out.apart B1.out (by decide)))
  have C2 := Lib.hid ((C1.out.alloc _).grown hg2 (R1.out.apart C1.out (by decide)))
  have kbg : b ≠ w.heap.size := fun e => by have := H.out.blk.lt; omega
  have kvm := MapU.notRow M1.out R1.out
  have M2 := Lib.hid (MapU.keep M1.out (((Keep.same (fun i => (Value.slice A L.length c).ownBlock = some i) w1).alloc _).grown hg2 (fun i hi => .inl hi)) kvm)
  have R2 := Lib.hid hr2
  have G2 := Lib.hid hg2
  have Y2 := Lib.hid hl2
  have hcell20 := B2.out.cell 0
  have hcell21 := B2.out.cell 1
  have hfree21 := B2.out.free 1
  have hc28 := C2.out.cell 0
  have hf28 := C2.out.free 0
  clear hr2 hg2 hl2 kvm
  go_wp2_with fail
  have hne := R2.out.apart B2.out (by decide)
  have hng := R2.out.apart C2.out (by decide)
  have B3 := ((B2.out.put 1 (.slice A2 (L.length + 1) c2)).far (p := ⟨w.heap.size, 0, none⟩) kbg (.int .i64 0))
  have R3 := ((R2.out.far (p := ⟨b, 1, none⟩) hne (.slice A2 (L.length + 1) c2)).far (p := ⟨w.heap.size, 0, none⟩) hng (.int .i64 0))
  have M3 := MapU.keep M2.out (((Keep.same (fun i => i = b ∨ i = w.heap.size) w2).set (p := ⟨b, 1, none⟩) (.inl (.inl rfl)) (.slice A2 (L.length + 1) c2)).set (p := ⟨w.heap.size, 0, none⟩) (.inl (.inr rfl)) (.int .i64 0)) (fun h => by rcases h with h | h; exact kb h.symm; exact kg h.symm)
  have K4 : Keep (Foot b bm (.slice A L.length c)) w w1 := (((Keep.same (Foot b bm (.slice A L.length c)) w).alloc (.cells #[.int .i64 0] 28)).drewN (nd + nd')).trans K1.out (fun i hi => .inl (.inr (.inl hi)))
  have K5 := (K4.alloc (.cells #[.string s, .bool false, .int .u64 t] 32)).grown G2.out (fun i hi => .inl (.inr (.inr hi)))
  have K6 := (K5.set (p := ⟨b, 1, none⟩) (.inl (.inl rfl)) (.slice A2 (L.length + 1) c2)).set (p := ⟨w.heap.size, 0, none⟩) (.inr (Nat.le_refl _)) (.int .i64 0)
  have KS := K4.size
  refine leaves_cons (f := 15) (args := #[.pointer (some ⟨w.heap.size, 0, none⟩)]) (by simp) (by simp [go_sem]) ?_
  refine (catch_idle w.heap.size _).mono ?_
  rintro e u' w'' ⟨rfl, rfl, rfl⟩
  have hcf := (C2.out.far (p := ⟨b, 1, none⟩) (fun h => kbg h.symm) (.slice A2 (L.length + 1) c2)).put 0 (.int .i64 0) |>.cell 0
  have e1 : cells (L ++ [(s, t)]) = cells L ++ [.string s, .bool false, .int .u64 t] := by rw [cells_append]; rfl
  have e2 : (L ++ [(s, t)]).length = L.length + 1 := by simp
  simp [Leaves, settle, results, Try.results8, go_sem, hcf]
  refine ⟨rfl, _, ⟨B3, M3, ?_⟩, K6, fun k hk => ?_⟩
  · rw [e1, e2]; exact R3
  · rcases Y2.out with h | h
    · exact .inl (h ▸ hk)
    · rw [h] at hk
      simp at hk
      exact .inr (by omega)
end Go.Proofs.Ytgjkbhhlgcjlgaa.A
