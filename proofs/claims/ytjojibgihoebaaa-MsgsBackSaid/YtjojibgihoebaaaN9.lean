/-
  msgs.Same.
-/
import Derived.Test.YtjojibgihoebaaaN6
import Derived.Laws.Rows
import Derived.Laws.Tables
namespace Go.Proofs.Ytjojibgihoebaaa.A
open Go.RowKit Go.Proofs.Ytjojibgihoebaaa.U
set_option linter.unusedVariables false
set_option linter.unusedSimpArgs false
set_option maxRecDepth 100000

theorem eqFields_nil (w : World) (d : Nat) (xs ys : Array Value) : (Op.eqFields d xs ys []).run Try.prog w = .ok true w := by simp [Op.eqFields]
theorem eqFields_cons {w : World} {d : Nat} {xs ys : Array Value} {f : Field} {fs : List Field} {a b : Value} {r s : Bool} (hn : f.name ≠ "_") (h1 : ∀ W, (part f.type xs f.offset).run Try.prog W = .ok a W) (h2 : ∀ W, (part f.type ys f.offset).run Try.prog W = .ok b W)
    (h3 : (Op.equalIn d f.type a b).run Try.prog w = .ok r w) (h4 : (Op.eqFields d xs ys fs).run Try.prog w = .ok s w) : (Op.eqFields d xs ys (f :: fs)).run Try.prog w = .ok (r && s) w := by
  cases r <;> simp [Op.eqFields, hn, h1, h2, h3, h4, Result.andThen]
abbrev pcs (m : Msg) : Array Value := #[.int .i64 m.k, .int .i64 m.f, .int .i64 m.t, .int .i64 m.b, .int .i64 m.s, .int .i64 m.r, .int .i64 m.z, .int .i64 m.e, .int .i64 m.c.k, .int .i64 m.c.s, .int .i64 m.c.q, .string m.c.nm, .int .i64 m.c.n, .int .i64 m.p.s, .int .i64 m.p.q, .int .i64 m.p.e, .int .u64 m.p.k, .int .i64 m.p.n, .string m.x]
def eqP (a b : Msg) : Bool := (a.k == b.k) && ((a.f == b.f) && ((a.t == b.t) && ((a.b == b.b) && ((a.s == b.s) && ((a.r == b.r) && ((a.z == b.z) && ((a.e == b.e) && (eqC a.c b.c && (eqR a.p b.p && ((a.x.toList == b.x.toList) && true))))))))))
theorem eqM_P (a b : Msg) : eqM a b = (eqP a b && eqEs a.es b.es) := by
  apply Bool.eq_iff_iff.2
  unfold eqM eqP
  rw [toList_iff' a.x b.x]
  simp only [Bool.and_eq_true, decide_eq_true_eq, eqEs_iff, eqC_iff, eqR_iff, beq_iff_eq]
  constructor
  · rintro ⟨h1, h2, h3, h4, h5, h6, h7, h8, h9, h10, h11, h12⟩
    exact ⟨⟨h1, h2, h3, h4, h5, h6, h7, h8, h10, h11, h12, trivial⟩, h9⟩
  · rintro ⟨⟨h1, h2, h3, h4, h5, h6, h7, h8, h10, h11, h12, _⟩, h9⟩
    exact ⟨h1, h2, h3, h4, h5, h6, h7, h8, h9, h10, h11, h12⟩
theorem equalCd (w : World) (d : Nat) (c e : Cmd) : (Op.equalIn (d + 2) 52 (.agg #[.int .i64 c.k, .int .i64 c.s, .int .i64 c.q, .string c.nm, .int .i64 c.n]) (.agg #[.int .i64 e.k, .int .i64 e.s, .int .i64 e.q, .string e.nm, .int .i64 e.n])).run Try.prog w = .ok (eqC c e) w := equalC w d c e
theorem equal112 (w : World) (d : Nat) (a b : Msg) : (Op.equalIn (d + 3) 112 (.agg (pcs a)) (.agg (pcs b))).run Try.prog w = .ok (eqP a b) w := by
  have hu3 := Try.underlying3
  have hu47 := Try.underlying47
  have hu9 := Try.underlying9
  have hf : Try.prog.underlying 112 = some (.struct (Try.prog.fieldsOf 112)) := by kernel_rfl
  have hh : Try.prog.stoodInHeld 112 = false := by kernel_rfl
  rw [run_equalIn_agg w (d + 2) 112 _ _ hf hh]
  have hfl : (Try.prog.fieldsOf 112).toList = (match Try.prog.underlying 112 with | some (.struct fs) => fs.toList | _ => []) := by kernel_rfl
  rw [hfl, Try.underlying112]
  have q3 := fun x y => run_equalIn_int (P := Try.prog) w (d + 1) 3 .i64 .i64 x y hu3
  have q47 := fun x y => run_equalIn_int (P := Try.prog) w (d + 1) 47 .i64 .i64 x y hu47
  have q9 := run_equalIn_string (P := Try.prog) w (d + 1) 9 a.x b.x hu9
  unfold eqP
  exact eqFields_cons (by decide) (fun W => by rfl) (fun W => by rfl) (q3 _ _) (eqFields_cons (by decide) (fun W => by rfl) (fun W => by rfl) (q3 _ _) (eqFields_cons (by decide) (fun W => by rfl) (fun W => by rfl) (q3 _ _) (eqFields_cons (by decide) (fun W => by rfl) (fun W => by rfl) (q3 _ _)
    (eqFields_cons (by decide) (fun W => by rfl) (fun W => by rfl) (q3 _ _) (eqFields_cons (by decide) (fun W => by rfl) (fun W => by rfl) (q3 _ _) (eqFields_cons (by decide) (fun W => by rfl) (fun W => by rfl) (q3 _ _) (eqFields_cons (by decide) (fun W => by rfl) (fun W => by rfl) (q47 _ _)
      (eqFields_cons (by decide) (fun W => by rfl) (fun W => by rfl) (equalCd w d a.c b.c) (eqFields_cons (by decide) (fun W => by rfl) (fun W => by rfl) (equalR77 w d a.p b.p) (eqFields_cons (by decide) (fun W => by rfl) (fun W => by rfl) q9 (eqFields_nil w _ _ _)))))))))))
theorem eql112 (w : World) (a b : Msg) : (binOp .eql 112 (.agg (pcs a)) (.agg (pcs b))).run Try.prog w = .ok (.bool (eqP a b)) w := by
  rw [run_eql_struct, show (10000 : Nat) = 9997 + 3 from rfl, equal112]; rfl
abbrev zp : Array Value := #[.int .i64 0, .int .i64 0, .int .i64 0, .int .i64 0, .int .i64 0, .int .i64 0, .int .i64 0, .int .i64 0, .int .i64 0, .int .i64 0, .int .i64 0, .string ⟨#[]⟩, .int .i64 0, .int .i64 0, .int .i64 0, .int .i64 0, .int .u64 0, .int .i64 0, .string ⟨#[]⟩]
theorem pcs_one (m : Msg) : (pcs m).all (·.oneCell') = true := by simp [Value.oneCell']
theorem mcs_one (m : Msg) (A : Option Addr) (c : Nat) : (mcs m A c).all (·.oneCell') = true := by simp [Value.oneCell']
set_option maxHeartbeats 3200000 in
theorem of67 (w : World) (m : Msg) (A : Option Addr) (c : Nat) : Calls Try.prog 67 #[mval m A c] w (fun e w' => e = .returned (.agg (pcs m)) ∧ Keep Nothing w w') := by
  have hu := Try.underlying79
  have hu112 := Try.underlying112
  have hu77 := Try.underlying77
  have hu52 := Try.underlying52
  have hi112 : (Try.prog.info? 112).map (·.size) = some 19 := by kernel_rfl
  have X := (Blk.fresh w 79 (mcs m A c)).alloc (.cells zp 112)
  have Z := Blk.fresh (w.alloc (.cells (mcs m A c) 79)) 112 zp
  rw [show (w.alloc (.cells (mcs m A c) 79)).heap.size = w.heap.size + 1 by simp] at Z
  have ZH := Lib.hid Z
  have K0 := Lib.hid (((Keep.same Nothing w).alloc (.cells (mcs m A c) 79)).alloc (.cells zp 112))
  have x0 := X.cell 0
  have x1 := X.cell 1
  have x2 := X.cell 2
  have x3 := X.cell 3
  have x4 := X.cell 4
  have x5 := X.cell 5
  have x6 := X.cell 6
  have x7 := X.cell 7
  have x8 := X.cell 8
  have x9 := X.cell 9
  have x10 := X.cell 10
  have x11 := X.cell 11
  have x12 := X.cell 12
  have x13 := X.cell 13
  have x14 := X.cell 14
  have x15 := X.cell 15
  have x16 := X.cell 16
  have x17 := X.cell 17
  have x18 := X.cell 18
  have x19 := X.cell 19
  clear X Z
  go_enter Try.func67, Try.ntmps67
  go_wp2_with (refine wpList_store_row (by rfl) 112 (.tmp 2) (.tmp 25) (by rfl) (w.heap.size + 1) (pcs m) (by rfl) (by rfl) 112 zp ZH.out hi112 rfl (pcs_one m) ?_)
  refine bodyPost_ret (v := .agg (pcs m)) (results_cell_row (p := 2) (ty := 112) (by rfl) _ _ (w.heap.size + 1) 112 (pcs m) (0, 0) _ (by rfl) (ZH.out.setRow (pcs m)) hu112 rfl hi112) rfl ?_
  exact ⟨rfl, K0.out.setRow (.inr (by omega)) (pcs m)⟩
end Go.Proofs.Ytjojibgihoebaaa.A
namespace Go.Proofs.Ytjojibgihoebaaa.A
open Go.RowKit Go.Proofs.Ytjojibgihoebaaa.U
set_option linter.unusedVariables false
set_option linter.unusedSimpArgs false
set_option maxRecDepth 100000

theorem exec_load79 {a : Act} {o : Oper} {X : World} {g : Nat} {cs : Array Value} (x : Operand) (ho : o.op = .load 79 x) (hx : a.eval x = .pointer (some ⟨g, 0, none⟩)) (hB : Blk X g 79 cs) (hi : (Try.prog.info? 79).map (·.size) = some cs.size) :
    (execOp a.eval o).run Try.prog X = .ok (.value (.agg cs)) X := by
  have hl := run_loadVar_row (P := Try.prog) X g 79 79 cs (0, 0) _ hB Try.underlying79 rfl hi
  unfold execOp
  simp only [ho, hx, Instr.loadAt, Instr.sureAddr, Sem.run_bind, Sem.run_pure, Result.andThen_ok, hl]
set_option maxHeartbeats 12800000 in
theorem msame50 (w : World) (a b : Msg) (A A' : Option Addr) (c c' : Nat) (h : U.Src w A 7 a.es.length (ents a.es)) (h' : U.Src w A' 7 b.es.length (ents b.es)) (hl : a.es.length ≤ 4611686018427387904) :
    Calls Try.prog 50 #[mval a A c, mval b A' c'] w (fun e w' => e = .returned (.bool (eqM a b)) ∧ Keep Nothing w w') := by
  have hu := Try.underlying79
  have hi79 : (Try.prog.info? 79).map (·.size) = some 20 := by kernel_rfl
  have W2 := (((Keep.same Nothing w).alloc (.cells (mcs a A c) 79)).alloc (.cells (mcs b A' c') 79))
  have X := (Blk.fresh w 79 (mcs a A c)).alloc (.cells (mcs b A' c') 79)
  have Y := Blk.fresh (w.alloc (.cells (mcs a A c) 79)) 79 (mcs b A' c')
  rw [show (w.alloc (.cells (mcs a A c) 79)).heap.size = w.heap.size + 1 by simp] at Y
  have KW := Lib.hid W2
  have SX := Lib.hid (show ∀ X, Keep Nothing ((w.alloc (.cells (mcs a A c) 79)).alloc (.cells (mcs b A' c') 79)) X → (fun w' : World => Blk w' w.heap.size 79 (mcs a A c) ∧ Blk w' (w.heap.size + 1) 79 (mcs b A' c')) X from fun X' hk => ⟨X.keep hk (fun h => h), Y.keep hk (fun h => h)⟩)
  have KS := Lib.hid (Keep.same Nothing ((w.alloc (.cells (mcs a A c) 79)).alloc (.cells (mcs b A' c') 79)))
  have KD1 := Lib.hid ((Keep.same Nothing ((w.alloc (.cells (mcs a A c) 79)).alloc (.cells (mcs b A' c') 79))).drew)
  have O1 := Lib.hid (fun w => of67 w a A c)
  have O2 := Lib.hid (fun w => of67 w b A' c')
  have HE := Lib.hid (fun (X : World) (hk : Keep Nothing w X) => equal68 X a.es b.es A A' c c' (src_kept h hk) (src_kept h' hk) hl)
  have hq := fun w => eql112 w a b
  have sx0 := SX.out _ KS.out
  dsimp only at sx0
  clear W2 X Y h h'
  cases hp : eqP a b with
  | false =>
    rw [hp] at hq
    have EM := Lib.hid (show eqM a b = false by rw [eqM_P, hp]; rfl)
    clear hp
    go_enter Try.func50, Try.ntmps50
    go_wp2_with fail
    refine wp_region_noPanic ?_
    refine wp_region_held_drew (S := (fun w' : World => Blk w' w.heap.size 79 (mcs a A c) ∧ Blk w' (w.heap.size + 1) 79 (mcs b A' c'))) (by kernel_rfl) sx0 (fun hHeld => ?_)
    refine wpAnyH_take (i := 0) (oi := _) (v := .agg (mcs a A c)) (by simp only [List.getElem?_toArray, List.getElem?_cons_succ, List.getElem?_cons_zero]; rfl) (by kernel_rfl) (by kernel_rfl) (by kernel_rfl) (fun _ _ _ h => h) (Or.inl ⟨by rfl, ?_⟩) (by assumption) ?_
    · (intro w hSw; (try dsimp only at hSw); exact exec_load79 (.tmp 2) (by rfl) (by rfl) hSw.1 hi79)
    (try simp only [Act.put, List.setIfInBounds_toArray, List.set_cons_zero, List.set_cons_succ])
    refine wpAnyH_take (i := 2) (oi := _) (v := .agg (mcs b A' c')) (by simp only [List.getElem?_toArray, List.getElem?_cons_succ, List.getElem?_cons_zero]; rfl) (by kernel_rfl) (by kernel_rfl) (by kernel_rfl) (fun _ _ _ h => h) (Or.inl ⟨by rfl, ?_⟩) (by assumption) ?_
    · (intro w hSw; (try dsimp only at hSw); exact exec_load79 (.tmp 3) (by rfl) (by rfl) hSw.2 hi79)
    (try simp only [Act.put, List.setIfInBounds_toArray, List.set_cons_zero, List.set_cons_succ])
    refine wpAnyH_ready (rs := [1]) (by kernel_rfl) (by simp) ?_
    refine AllReadyH.cons (o := _) (by simp only [List.getElem?_toArray, List.getElem?_cons_succ, List.getElem?_cons_zero]; rfl) (fun K hK => ?_) AllReadyH.nil
    go_simp
    refine (O1.out _).mono ?_
    rintro e w5 ⟨rfl, hk5⟩
    have K5 := Lib.hid (KD1.out.then hk5)
    clear hk5
    refine hK.out _ _ (SX.out _ K5.out) (fun hHeld => ?_)
    clear hK K
    (try simp only [Act.put, List.setIfInBounds_toArray, List.set_cons_zero, List.set_cons_succ])
    refine wpAnyH_ready (rs := [3]) (by kernel_rfl) (by simp) ?_
    refine AllReadyH.cons (o := _) (by simp only [List.getElem?_toArray, List.getElem?_cons_succ, List.getElem?_cons_zero]; rfl) (fun K hK => ?_) AllReadyH.nil
    go_simp
    refine (O2.out _).mono ?_
    rintro e w6 ⟨rfl, hk6⟩
    have K6 := Lib.hid (K5.out.then hk6)
    clear hk6
    refine hK.out _ _ (SX.out _ K6.out) (fun hHeld => ?_)
    clear hK K
    (try simp only [Act.put, List.setIfInBounds_toArray, List.set_cons_zero, List.set_cons_succ])
    refine wpAnyH_take (i := 4) (oi := _) (v := ?_) (by simp only [List.getElem?_toArray, List.getElem?_cons_succ, List.getElem?_cons_zero]; rfl) (by kernel_rfl) (by kernel_rfl) (by kernel_rfl) (fun _ _ _ h => h) (Or.inl ⟨by rfl, ?_⟩) (by assumption) ?_
    rotate_left
    · (intro w hSw; (try dsimp only at hSw); go_simp; (try with_reducible rfl))
    (try simp only [Act.put, List.setIfInBounds_toArray, List.set_cons_zero, List.set_cons_succ])
    refine wpAnyH_take (i := 5) (oi := _) (v := ?_) (by simp only [List.getElem?_toArray, List.getElem?_cons_succ, List.getElem?_cons_zero]; rfl) (by kernel_rfl) (by kernel_rfl) (by kernel_rfl) (fun _ _ _ h => h) (Or.inl ⟨by rfl, ?_⟩) (by assumption) ?_
    rotate_left
    · (intro w hSw; (try dsimp only at hSw); go_simp; (try with_reducible rfl))
    (try simp only [Act.put, List.setIfInBounds_toArray, List.set_cons_zero, List.set_cons_succ])
    refine wpAnyH_take (i := 6) (oi := _) (v := undef) (by simp only [List.getElem?_toArray, List.getElem?_cons_succ, List.getElem?_cons_zero]; rfl) (by kernel_rfl) (by kernel_rfl) (by kernel_rfl) (fun _ _ _ h => h) (Or.inr ⟨by rfl, rfl⟩) (by assumption) ?_
    (try simp only [Act.put, List.setIfInBounds_toArray, List.set_cons_zero, List.set_cons_succ])
    refine wpAnyH_take (i := 7) (oi := _) (v := undef) (by simp only [List.getElem?_toArray, List.getElem?_cons_succ, List.getElem?_cons_zero]; rfl) (by kernel_rfl) (by kernel_rfl) (by kernel_rfl) (fun _ _ _ h => h) (Or.inr ⟨by rfl, rfl⟩) (by assumption) ?_
    (try simp only [Act.put, List.setIfInBounds_toArray, List.set_cons_zero, List.set_cons_succ])
    refine wpAnyH_take (i := 8) (oi := _) (v := undef) (by simp only [List.getElem?_toArray, List.getElem?_cons_succ, List.getElem?_cons_zero]; rfl) (by kernel_rfl) (by kernel_rfl) (by kernel_rfl) (fun _ _ _ h => h) (Or.inr ⟨by rfl, rfl⟩) (by assumption) ?_
    (try simp only [Act.put, List.setIfInBounds_toArray, List.set_cons_zero, List.set_cons_succ])
    refine wpAnyH_take (i := 9) (oi := _) (v := undef) (by simp only [List.getElem?_toArray, List.getElem?_cons_succ, List.getElem?_cons_zero]; rfl) (by kernel_rfl) (by kernel_rfl) (by kernel_rfl) (fun _ _ _ h => h) (Or.inr ⟨by rfl, rfl⟩) (by assumption) ?_
    (try simp only [Act.put, List.setIfInBounds_toArray, List.set_cons_zero, List.set_cons_succ])
    refine wpAnyH_take (i := 10) (oi := _) (v := undef) (by simp only [List.getElem?_toArray, List.getElem?_cons_succ, List.getElem?_cons_zero]; rfl) (by kernel_rfl) (by kernel_rfl) (by kernel_rfl) (fun _ _ _ h => h) (Or.inr ⟨by rfl, rfl⟩) (by assumption) ?_
    (try simp only [Act.put, List.setIfInBounds_toArray, List.set_cons_zero, List.set_cons_succ])
    refine wpAnyH_take (i := 11) (oi := _) (v := ?_) (by simp only [List.getElem?_toArray, List.getElem?_cons_succ, List.getElem?_cons_zero]; rfl) (by kernel_rfl) (by kernel_rfl) (by kernel_rfl) (fun _ _ _ h => h) (Or.inl ⟨by rfl, ?_⟩) (by assumption) ?_
    rotate_left
    · (intro w hSw; (try dsimp only at hSw); go_simp; (try with_reducible rfl))
    (try simp only [Act.put, List.setIfInBounds_toArray, List.set_cons_zero, List.set_cons_succ])
    refine wpAnyH_take (i := 12) (oi := _) (v := ?_) (by simp only [List.getElem?_toArray, List.getElem?_cons_succ, List.getElem?_cons_zero]; rfl) (by kernel_rfl) (by kernel_rfl) (by kernel_rfl) (fun _ _ _ h => h) (Or.inl ⟨by rfl, ?_⟩) (by assumption) ?_
    rotate_left
    · (intro w hSw; (try dsimp only at hSw); go_simp; (try with_reducible rfl))
    (try simp only [Act.put, List.setIfInBounds_toArray, List.set_cons_zero, List.set_cons_succ])
    refine wpAnyH_done (by kernel_rfl) ?_ _
    refine NoPanic.normal ?_
    clear hq
    go_wp2_with fail
    go_ret
    exact ⟨by rw [EM.out]; rfl, KW.out.then K6.out⟩
  | true =>
    rw [hp] at hq
    have EM := Lib.hid (show eqM a b = eqEs a.es b.es by rw [eqM_P, hp, Bool.true_and])
    clear hp
    go_enter Try.func50, Try.ntmps50
    go_wp2_with fail
    refine wp_region_noPanic ?_
    refine wp_region_held_drew (S := (fun w' : World => Blk w' w.heap.size 79 (mcs a A c) ∧ Blk w' (w.heap.size + 1) 79 (mcs b A' c'))) (by kernel_rfl) sx0 (fun hHeld => ?_)
    refine wpAnyH_take (i := 0) (oi := _) (v := .agg (mcs a A c)) (by simp only [List.getElem?_toArray, List.getElem?_cons_succ, List.getElem?_cons_zero]; rfl) (by kernel_rfl) (by kernel_rfl) (by kernel_rfl) (fun _ _ _ h => h) (Or.inl ⟨by rfl, ?_⟩) (by assumption) ?_
    · (intro w hSw; (try dsimp only at hSw); exact exec_load79 (.tmp 2) (by rfl) (by rfl) hSw.1 hi79)
    (try simp only [Act.put, List.setIfInBounds_toArray, List.set_cons_zero, List.set_cons_succ])
    refine wpAnyH_take (i := 2) (oi := _) (v := .agg (mcs b A' c')) (by simp only [List.getElem?_toArray, List.getElem?_cons_succ, List.getElem?_cons_zero]; rfl) (by kernel_rfl) (by kernel_rfl) (by kernel_rfl) (fun _ _ _ h => h) (Or.inl ⟨by rfl, ?_⟩) (by assumption) ?_
    · (intro w hSw; (try dsimp only at hSw); exact exec_load79 (.tmp 3) (by rfl) (by rfl) hSw.2 hi79)
    (try simp only [Act.put, List.setIfInBounds_toArray, List.set_cons_zero, List.set_cons_succ])
    refine wpAnyH_ready (rs := [1]) (by kernel_rfl) (by simp) ?_
    refine AllReadyH.cons (o := _) (by simp only [List.getElem?_toArray, List.getElem?_cons_succ, List.getElem?_cons_zero]; rfl) (fun K hK => ?_) AllReadyH.nil
    go_simp
    refine (O1.out _).mono ?_
    rintro e w5 ⟨rfl, hk5⟩
    have K5 := Lib.hid (KD1.out.then hk5)
    clear hk5
    refine hK.out _ _ (SX.out _ K5.out) (fun hHeld => ?_)
    clear hK K
    (try simp only [Act.put, List.setIfInBounds_toArray, List.set_cons_zero, List.set_cons_succ])
    refine wpAnyH_ready (rs := [3]) (by kernel_rfl) (by simp) ?_
    refine AllReadyH.cons (o := _) (by simp only [List.getElem?_toArray, List.getElem?_cons_succ, List.getElem?_cons_zero]; rfl) (fun K hK => ?_) AllReadyH.nil
    go_simp
    refine (O2.out _).mono ?_
    rintro e w6 ⟨rfl, hk6⟩
    have K6 := Lib.hid (K5.out.then hk6)
    clear hk6
    refine hK.out _ _ (SX.out _ K6.out) (fun hHeld => ?_)
    clear hK K
    (try simp only [Act.put, List.setIfInBounds_toArray, List.set_cons_zero, List.set_cons_succ])
    refine wpAnyH_take (i := 4) (oi := _) (v := ?_) (by simp only [List.getElem?_toArray, List.getElem?_cons_succ, List.getElem?_cons_zero]; rfl) (by kernel_rfl) (by kernel_rfl) (by kernel_rfl) (fun _ _ _ h => h) (Or.inl ⟨by rfl, ?_⟩) (by assumption) ?_
    rotate_left
    · (intro w hSw; (try dsimp only at hSw); go_simp; (try with_reducible rfl))
    (try simp only [Act.put, List.setIfInBounds_toArray, List.set_cons_zero, List.set_cons_succ])
    refine wpAnyH_take (i := 5) (oi := _) (v := ?_) (by simp only [List.getElem?_toArray, List.getElem?_cons_succ, List.getElem?_cons_zero]; rfl) (by kernel_rfl) (by kernel_rfl) (by kernel_rfl) (fun _ _ _ h => h) (Or.inl ⟨by rfl, ?_⟩) (by assumption) ?_
    rotate_left
    · (intro w hSw; (try dsimp only at hSw); go_simp; (try with_reducible rfl))
    (try simp only [Act.put, List.setIfInBounds_toArray, List.set_cons_zero, List.set_cons_succ])
    refine wpAnyH_take (i := 6) (oi := _) (v := ?_) (by simp only [List.getElem?_toArray, List.getElem?_cons_succ, List.getElem?_cons_zero]; rfl) (by kernel_rfl) (by kernel_rfl) (by kernel_rfl) (fun _ _ _ h => h) (Or.inl ⟨by rfl, ?_⟩) (by assumption) ?_
    rotate_left
    · (intro w hSw; (try dsimp only at hSw); go_simp; (try with_reducible rfl))
    (try simp only [Act.put, List.setIfInBounds_toArray, List.set_cons_zero, List.set_cons_succ])
    refine wpAnyH_take (i := 7) (oi := _) (v := ?_) (by simp only [List.getElem?_toArray, List.getElem?_cons_succ, List.getElem?_cons_zero]; rfl) (by kernel_rfl) (by kernel_rfl) (by kernel_rfl) (fun _ _ _ h => h) (Or.inl ⟨by rfl, ?_⟩) (by assumption) ?_
    rotate_left
    · (intro w hSw; (try dsimp only at hSw); have c8 := hSw.1.cell 8; go_simp; (try with_reducible rfl))
    (try simp only [Act.put, List.setIfInBounds_toArray, List.set_cons_zero, List.set_cons_succ])
    refine wpAnyH_take (i := 8) (oi := _) (v := ?_) (by simp only [List.getElem?_toArray, List.getElem?_cons_succ, List.getElem?_cons_zero]; rfl) (by kernel_rfl) (by kernel_rfl) (by kernel_rfl) (fun _ _ _ h => h) (Or.inl ⟨by rfl, ?_⟩) (by assumption) ?_
    rotate_left
    · (intro w hSw; (try dsimp only at hSw); go_simp; (try with_reducible rfl))
    (try simp only [Act.put, List.setIfInBounds_toArray, List.set_cons_zero, List.set_cons_succ])
    refine wpAnyH_take (i := 9) (oi := _) (v := ?_) (by simp only [List.getElem?_toArray, List.getElem?_cons_succ, List.getElem?_cons_zero]; rfl) (by kernel_rfl) (by kernel_rfl) (by kernel_rfl) (fun _ _ _ h => h) (Or.inl ⟨by rfl, ?_⟩) (by assumption) ?_
    rotate_left
    · (intro w hSw; (try dsimp only at hSw); have c8 := hSw.2.cell 8; go_simp; (try with_reducible rfl))
    (try simp only [Act.put, List.setIfInBounds_toArray, List.set_cons_zero, List.set_cons_succ])
    refine wpAnyH_ready (rs := [10]) (by kernel_rfl) (by simp) ?_
    refine AllReadyH.cons (o := _) (by simp only [List.getElem?_toArray, List.getElem?_cons_succ, List.getElem?_cons_zero]; rfl) (fun K hK => ?_) AllReadyH.nil
    go_simp
    refine (HE.out _ (KW.out.then K6.out)).mono ?_
    rintro e w7 ⟨rfl, hk7⟩
    have K7 := Lib.hid (K6.out.then hk7)
    clear hk7
    refine hK.out _ _ (SX.out _ K7.out) (fun hHeld => ?_)
    clear hK K
    (try simp only [Act.put, List.setIfInBounds_toArray, List.set_cons_zero, List.set_cons_succ])
    refine wpAnyH_take (i := 11) (oi := _) (v := ?_) (by simp only [List.getElem?_toArray, List.getElem?_cons_succ, List.getElem?_cons_zero]; rfl) (by kernel_rfl) (by kernel_rfl) (by kernel_rfl) (fun _ _ _ h => h) (Or.inl ⟨by rfl, ?_⟩) (by assumption) ?_
    rotate_left
    · (intro w hSw; (try dsimp only at hSw); go_simp; (try with_reducible rfl))
    (try simp only [Act.put, List.setIfInBounds_toArray, List.set_cons_zero, List.set_cons_succ])
    refine wpAnyH_take (i := 12) (oi := _) (v := ?_) (by simp only [List.getElem?_toArray, List.getElem?_cons_succ, List.getElem?_cons_zero]; rfl) (by kernel_rfl) (by kernel_rfl) (by kernel_rfl) (fun _ _ _ h => h) (Or.inl ⟨by rfl, ?_⟩) (by assumption) ?_
    rotate_left
    · (intro w hSw; (try dsimp only at hSw); go_simp; (try with_reducible rfl))
    (try simp only [Act.put, List.setIfInBounds_toArray, List.set_cons_zero, List.set_cons_succ])
    refine wpAnyH_done (by kernel_rfl) ?_ _
    refine NoPanic.normal ?_
    clear hq
    go_wp2_with fail
    go_ret
    exact ⟨by rw [EM.out]; rfl, KW.out.then K7.out⟩
end Go.Proofs.Ytjojibgihoebaaa.A
