/-
  The client: Tick. Printed by gen_k1.py.
-/
import Derived.Test.YthlfcinjmljbjaaI4
namespace Go.Proofs.Ythlfcinjmljbjaa.A
open Go.RowKit Go.Proofs.Ythlfcinjmljbjaa.U
set_option linter.unusedVariables false
set_option linter.unusedSimpArgs false
set_option maxRecDepth 100000
set_option maxHeartbeats 1600000

theorem E40 : Elem Try.prog 26 40 20 192 zMg.val := ⟨Try.underlying26, by kernel_rfl, by rfl, by decide⟩
/-- What a tick leaves as it was. -/
structure Alike (S S' : CS) : Prop where
  id : S'.id = S.id
  n : S'.n = S.n
  life : S'.life = S.life
  session : S'.session = S.session
  seq : S'.seq = S.seq
  had : S'.had = S.had
  til : S'.til = S.til
  L : S'.L = S.L
  op : (S.op = none → S'.op = none) ∧ ∀ o, S.op = some o → ∃ t, S'.op = some ⟨o.cmd, o.first, t⟩
section
variable {B : Nat} {w0 w : World} {Q : SP} {b : Nat} {S : CS} {now : Int}
theorem Holds.flip {P R : SP} (h : Holds B w0 w (star P (star Q R))) : Holds B w0 w (star Q (star P R)) := h.perm (by ac_rfl)
def TickPost (B : Nat) (w0 : World) (b : Nat) (S : CS) (Q : SP) (e : Ending) (w' : World) : Prop :=
  ∃ A n c S', e = .returned (.slice A n c) ∧ Alike S S' ∧ Holds B w0 w' (star (cliP b S') Q)
theorem x_cell {g : Nat} {i : Nat} (h : Holds B w0 w (star (cliP b S) Q)) (hQ : Stable Q) (u : Value) (S' : CS) (hi : i = 3 ∨ i = 9 ∨ i = 10) (hop : S'.op = S.op) (hL : S'.L = S.L)
    (hc : ∀ p A c, (S.cs p A S.L.length c).setIfInBounds i u = S'.cs p A S.L.length c) : (∃ v, w.cell? ⟨b, i, none⟩ = some v) ∧ w.frozen? ⟨b, i, none⟩ = false ∧ Holds B w0 (w.setCell ⟨b, i, none⟩ u) (star (cliP b S') Q) := by
  obtain ⟨p, A, c, h1⟩ := cli_open h
  have h2 := h1.setBlk ((opP_stable _ _).star ((rowP_stable _ _ _ _ _).star hQ)) i u
  rw [hc] at h2
  refine ⟨?_, (blk_at h1).free i, cli_close (S := S') (p := p) (A := A) (c := c) ?_⟩
  · rcases hi with rfl | rfl | rfl
    · exact ⟨_, (blk_at h1).cell 3⟩
    · exact ⟨_, (blk_at h1).cell 9⟩
    · exact ⟨_, (blk_at h1).cell 10⟩
  · rw [hop, hL, show lrow S' A c = lrow S A c by show rowP 46 3 (.slice A S'.L.length c) S'.L.length (hds S'.L) = _; rw [hL]]
    exact h2
theorem x_blk (h : Holds B w0 w (star (cliP b S) Q)) : ∃ p A c, Blk w b 62 (S.cs p A S.L.length c) := by
  obtain ⟨p, A, c, h1⟩ := cli_open h
  exact ⟨p, A, c, blk_at h1⟩
theorem x_open0 (h : Holds B w0 w (star (cliP b S) Q)) (ho : S.op = none) : ∃ A c, Blk w b 62 (S.cs none A S.L.length c) := by
  obtain ⟨A, c, h1⟩ := cli_open0 h ho
  exact ⟨A, c, blk_at h1⟩
theorem x_open1 {o : Oc} (h : Holds B w0 w (star (cliP b S) Q)) (ho : S.op = some o) : ∃ ob A c, Blk w b 62 (S.cs (some ⟨ob, 0, none⟩) A S.L.length c) ∧ Blk w ob 66 o.cs := by
  obtain ⟨p, A, c, h1⟩ := cli_open h
  have B1 := blk_at h1
  have h2 : Holds B w0 w (star (opP p S.op) (star (blkP b 62 (S.cs p A S.L.length c)) (star (lrow S A c) Q))) := h1.perm (by ac_rfl)
  rw [ho] at h2
  obtain ⟨ob, rfl, h3⟩ := op_open h2
  exact ⟨ob, A, c, B1, blk_at h3⟩
theorem tick0_no (h : Holds B w0 w (star (cliP b S) Q)) (hQ : Stable Q) (hid : 0 ≤ S.id ∧ S.id < 8) (ho : S.op = none) (hs : ¬ 0 < S.session) :
    Calls Try.prog 16 #[.pointer (some ⟨b, 0, none⟩), .int .i64 now] w (TickPost B w0 b S Q) := by
  have hu := Try.underlying62
  have hu2 := Try.underlying40
  have hu3 := Try.underlying66
  have QQ := Lib.hid hQ
  have HH := Lib.hid h
  have HI := Lib.hid hid
  have D1 := decide_eq_false hs
  obtain ⟨A0, c0, Z0⟩ := x_open0 h ho
  have z7 := Z0.cell 7
  have H2 := Lib.hid (h.newRow ((cliP_stable _ _).star hQ) (Row.nil _ 40 20) (Keep.same _ _) (fun k hk => by simp [Value.ownBlock] at hk))
  have AL := Lib.hid (show Alike S S from ⟨rfl, rfl, rfl, rfl, rfl, rfl, rfl, rfl, fun h => h, fun o h => ⟨o.sent, h⟩⟩)
  clear h hQ hid ho Z0 hs
  go_enter Try.func16, Try.ntmps16
  obtain ⟨p8, A8, c8, Z8⟩ := x_blk (show Holds B w0 w (star (cliP b S) (star (rowP 40 20 (.slice none 0 0) 0 []) Q)) from Holds.flip H2.out)
  have y4 := Z8.cell 4
  have y10 := Z8.cell 10
  clear Z8
  go_wp2_with fail
  go_ret
  exact ⟨_, _, _, S, rfl, AL.out, (H2.out.drop).kept ((cliP_stable _ _).star QQ.out) (by repeat (first | with_reducible (exact Keep.same _ _) | with_reducible (apply Keep.drew) | with_reducible (apply Keep.alloc)))⟩
theorem tick0_first (h : Holds B w0 w (star (cliP b S) Q)) (hQ : Stable Q) (hid : 0 ≤ S.id ∧ S.id < 8) (ho : S.op = none) (hs : 0 < S.session) (hk : S.kept = false) :
    Calls Try.prog 16 #[.pointer (some ⟨b, 0, none⟩), .int .i64 now] w (TickPost B w0 b S Q) := by
  have hu := Try.underlying62
  have hu2 := Try.underlying40
  have hu3 := Try.underlying66
  have QQ := Lib.hid hQ
  have HH := Lib.hid h
  have HI := Lib.hid hid
  have D1 := decide_eq_true hs
  have hkb := Lib.hid hk
  obtain ⟨A0, c0, Z0⟩ := x_open0 h ho
  have z7 := Z0.cell 7
  have H2 := Lib.hid (h.newRow ((cliP_stable _ _).star hQ) (Row.nil _ 40 20) (Keep.same _ _) (fun k hk => by simp [Value.ownBlock] at hk))
  have AL := Lib.hid (show Alike S S from ⟨rfl, rfl, rfl, rfl, rfl, rfl, rfl, rfl, fun h => h, fun o h => ⟨o.sent, h⟩⟩)
  have zk : w.cell? ⟨b, 9, none⟩ = some (.bool false) := by rw [Z0.cell 9]; show some (Value.bool S.kept) = _; rw [hk]
  clear h hQ hid ho Z0 hs hk
  go_enter Try.func16, Try.ntmps16
  obtain ⟨p8, A8, c8, Z8⟩ := x_blk (show Holds B w0 w (star (cliP b S) (star (rowP 40 20 (.slice none 0 0) 0 []) Q)) from Holds.flip H2.out)
  have y4 := Z8.cell 4
  have y10 := Z8.cell 10
  have G3 := x_cell (g := 0) (show Holds B w0 w (star (cliP b S) (star (rowP 40 20 (.slice none 0 0) 0 []) Q)) from Holds.flip H2.out) ((rowP_stable _ _ _ _ _).star QQ.out) (i := 9) (.bool true) (({ S with kept := true } : CS)) (by omega) rfl rfl (fun p A c => rfl)
  obtain ⟨⟨v9, z9⟩, f9, G4⟩ := G3
  obtain ⟨⟨v10, z10⟩, f10, G5⟩ := x_cell (g := 0) G4 ((rowP_stable _ _ _ _ _).star QQ.out) (i := 10) (.int .i64 now) (({ S with kept := true, keptAt := now } : CS)) (by omega) rfl rfl (fun p A c => rfl)
  have H5 := Lib.hid G5
  obtain ⟨p9, A9, c9, Z9⟩ := x_blk G5
  have HN := Lib.hid (fun w' (hb : Blk w' b 62 ((({ S with kept := true, keptAt := now } : CS)).cs p9 A9 S.L.length c9)) => node22 w' b (({ S with kept := true, keptAt := now } : CS)) p9 A9 S.L.length c9 hb HI.out)
  have hH9 : (fun w' => Blk w' b 62 ((({ S with kept := true, keptAt := now } : CS)).cs p9 A9 S.L.length c9) ∧ w'.cell? ⟨b, 3, none⟩ = some (.int .i64 S.server) ∧ w'.cell? ⟨b, 4, none⟩ = some (.int .i64 S.session)) ((w.setCell ⟨b, 9, none⟩ (.bool true)).setCell ⟨b, 10, none⟩ (.int .i64 now)) := ⟨Z9, Z9.cell 3, Z9.cell 4⟩
  dsimp only at hH9
  have RW := Lib.hid ((show Holds B w0 _ (star (rowP 40 20 (.slice none 0 0) 0 []) (star (cliP b (({ S with kept := true, keptAt := now } : CS))) Q)) from Holds.flip G5).row)
  have NB := Lib.hid (show ((.slice none 0 0) : Value).ownBlock ≠ some b from RW.out.apart Z9 (by decide))
  have ZZ := Lib.hid Z9
  clear G4 G5 Z9 Z8
  go_wp2_with fail
  have KSIZE : ((w.setCell ⟨b, 9, none⟩ (.bool true)).setCell ⟨b, 10, none⟩ (.int .i64 now)).heap.size = w.heap.size := by simp
  have SRC := Lib.hid (show U.Src ((((w.setCell ⟨b, 9, none⟩ (.bool true)).setCell ⟨b, 10, none⟩ (.int .i64 now)).alloc (.cells #[.int .i64 13, .int .i64 (5 + S.id), .int .i64 S.server, .int .i64 0, .int .i64 0, .int .i64 now, .int .i64 S.session, .int .i64 0, .slice none 0 0, .int .i64 0, .int .i64 0, .int .i64 0, .string ⟨#[]⟩, .int .i64 0, .int .i64 0, .int .i64 0, .int .i64 0, .int .u64 0, .int .i64 0, .string ⟨#[]⟩] 40)).drew) (some ⟨w.heap.size, 0, none⟩) 20 1 (#[.int .i64 13, .int .i64 (5 + S.id), .int .i64 S.server, .int .i64 0, .int .i64 0, .int .i64 now, .int .i64 S.session, .int .i64 0, .slice none 0 0, .int .i64 0, .int .i64 0, .int .i64 0, .string ⟨#[]⟩, .int .i64 0, .int .i64 0, .int .i64 0, .int .i64 0, .int .u64 0, .int .i64 0, .string ⟨#[]⟩]).toList from by
    have h := U.Src.fresh ((w.setCell ⟨b, 9, none⟩ (.bool true)).setCell ⟨b, 10, none⟩ (.int .i64 now)) #[.int .i64 13, .int .i64 (5 + S.id), .int .i64 S.server, .int .i64 0, .int .i64 0, .int .i64 now, .int .i64 S.session, .int .i64 0, .slice none 0 0, .int .i64 0, .int .i64 0, .int .i64 0, .string ⟨#[]⟩, .int .i64 0, .int .i64 0, .int .i64 0, .int .i64 0, .int .u64 0, .int .i64 0, .string ⟨#[]⟩] 40 20 1 rfl
    rw [KSIZE] at h
    exact h)
  have ROWD := Lib.hid (RW.out.keep (((Keep.same Nothing ((w.setCell ⟨b, 9, none⟩ (.bool true)).setCell ⟨b, 10, none⟩ (.int .i64 now))).alloc (.cells #[.int .i64 13, .int .i64 (5 + S.id), .int .i64 S.server, .int .i64 0, .int .i64 0, .int .i64 now, .int .i64 S.session, .int .i64 0, .slice none 0 0, .int .i64 0, .int .i64 0, .int .i64 0, .string ⟨#[]⟩, .int .i64 0, .int .i64 0, .int .i64 0, .int .i64 0, .int .u64 0, .int .i64 0, .string ⟨#[]⟩] 40)).drew) (fun _ _ h => h))
  have ZD := Lib.hid (ZZ.out.keep (((Keep.same Nothing ((w.setCell ⟨b, 9, none⟩ (.bool true)).setCell ⟨b, 10, none⟩ (.int .i64 now))).alloc (.cells #[.int .i64 13, .int .i64 (5 + S.id), .int .i64 S.server, .int .i64 0, .int .i64 0, .int .i64 now, .int .i64 S.session, .int .i64 0, .slice none 0 0, .int .i64 0, .int .i64 0, .int .i64 0, .string ⟨#[]⟩, .int .i64 0, .int .i64 0, .int .i64 0, .int .i64 0, .int .u64 0, .int .i64 0, .string ⟨#[]⟩] 40)).drew) (fun h => h))
  have SW := Lib.hid ((cliP_stable b (({ S with kept := true, keptAt := now } : CS))).star QQ.out)
  have HW := Lib.hid ((show Holds B w0 ((w.setCell ⟨b, 9, none⟩ (.bool true)).setCell ⟨b, 10, none⟩ (.int .i64 now)) (star (rowP 40 20 (.slice none 0 0) 0 []) (star (cliP b (({ S with kept := true, keptAt := now } : CS))) Q)) from Holds.flip H5.out).kept ((rowP_stable _ _ _ _ _).star SW.out) (((Keep.same Nothing ((w.setCell ⟨b, 9, none⟩ (.bool true)).setCell ⟨b, 10, none⟩ (.int .i64 now))).alloc (.cells #[.int .i64 13, .int .i64 (5 + S.id), .int .i64 S.server, .int .i64 0, .int .i64 0, .int .i64 now, .int .i64 S.session, .int .i64 0, .slice none 0 0, .int .i64 0, .int .i64 0, .int .i64 0, .string ⟨#[]⟩, .int .i64 0, .int .i64 0, .int .i64 0, .int .i64 0, .int .u64 0, .int .i64 0, .string ⟨#[]⟩] 40)).drew))
  clear KSIZE
  have KA := Lib.hid (show ∀ w', (fun w' => Blk w' b 62 ((({ S with kept := true, keptAt := now } : CS)).cs p9 A9 S.L.length c9) ∧ w'.cell? ⟨b, 3, none⟩ = some (.int .i64 S.server) ∧ w'.cell? ⟨b, 4, none⟩ = some (.int .i64 S.session)) w' → (fun w' => Blk w' b 62 ((({ S with kept := true, keptAt := now } : CS)).cs p9 A9 S.L.length c9) ∧ w'.cell? ⟨b, 3, none⟩ = some (.int .i64 S.server) ∧ w'.cell? ⟨b, 4, none⟩ = some (.int .i64 S.session)) (w'.alloc (.cells #[.int .i64 13, .int .i64 (5 + S.id), .int .i64 S.server, .int .i64 0, .int .i64 0, .int .i64 now, .int .i64 S.session, .int .i64 0, .slice none 0 0, .int .i64 0, .int .i64 0, .int .i64 0, .string ⟨#[]⟩, .int .i64 0, .int .i64 0, .int .i64 0, .int .i64 0, .int .u64 0, .int .i64 0, .string ⟨#[]⟩] 40)) from fun w' h => ⟨h.1.alloc _, (h.1.alloc _).cell 3, (h.1.alloc _).cell 4⟩)
  refine wp_region_noPanic ?_
  refine wp_region_held_drew (S := (fun w' => Blk w' b 62 ((({ S with kept := true, keptAt := now } : CS)).cs p9 A9 S.L.length c9) ∧ w'.cell? ⟨b, 3, none⟩ = some (.int .i64 S.server) ∧ w'.cell? ⟨b, 4, none⟩ = some (.int .i64 S.session))) (by kernel_rfl) hH9 (fun hHeld => ?_)
  refine wpAnyH_take (i := 0) (oi := _) (v := ?_) (by simp only [List.getElem?_toArray, List.getElem?_cons_succ, List.getElem?_cons_zero]; rfl) (by kernel_rfl) (by kernel_rfl) (by kernel_rfl) (fun _ _ _ h => h) (Or.inl ⟨by rfl, ?_⟩) (by assumption) ?_
  rotate_left
  · (intro w hSw; (try dsimp only at hSw); go_simp; (try with_reducible rfl))
  (try simp only [Act.put, List.setIfInBounds_toArray, List.set_cons_zero, List.set_cons_succ])
  refine wpAnyH_take (i := 1) (oi := _) (v := ?_) (by simp only [List.getElem?_toArray, List.getElem?_cons_succ, List.getElem?_cons_zero]; rfl) (by kernel_rfl) (by kernel_rfl) (by kernel_rfl) (fun _ _ _ h => h) (Or.inl ⟨by rfl, ?_⟩) (by assumption) ?_
  rotate_left
  · (intro w hSw; (try dsimp only at hSw); go_simp; (try with_reducible rfl))
  (try simp only [Act.put, List.setIfInBounds_toArray, List.set_cons_zero, List.set_cons_succ])
  refine wpAnyH_take (i := 3) (oi := _) (v := ?_) (by simp only [List.getElem?_toArray, List.getElem?_cons_succ, List.getElem?_cons_zero]; rfl) (by kernel_rfl) (by kernel_rfl) (by kernel_rfl) (fun _ _ _ h => h) (Or.inl ⟨by rfl, ?_⟩) (by assumption) ?_
  rotate_left
  · (intro w hSw; (try dsimp only at hSw); go_simp; (try with_reducible rfl))
  (try simp only [Act.put, List.setIfInBounds_toArray, List.set_cons_zero, List.set_cons_succ])
  refine wpAnyH_take (i := 4) (oi := _) (v := ?_) (by simp only [List.getElem?_toArray, List.getElem?_cons_succ, List.getElem?_cons_zero]; rfl) (by kernel_rfl) (by kernel_rfl) (by kernel_rfl) (fun _ _ _ h => h) (Or.inl ⟨by rfl, ?_⟩) (by assumption) ?_
  rotate_left
  · (intro w hSw; (try dsimp only at hSw); go_simp; (try with_reducible rfl))
  (try simp only [Act.put, List.setIfInBounds_toArray, List.set_cons_zero, List.set_cons_succ])
  refine wpAnyH_take (i := 5) (oi := _) (v := ?_) (by simp only [List.getElem?_toArray, List.getElem?_cons_succ, List.getElem?_cons_zero]; rfl) (by kernel_rfl) (by kernel_rfl) (by kernel_rfl) (fun _ _ _ h => h) (Or.inl ⟨by rfl, ?_⟩) (by assumption) ?_
  rotate_left
  · (intro w hSw; (try dsimp only at hSw); go_simp; (try with_reducible rfl))
  (try simp only [Act.put, List.setIfInBounds_toArray, List.set_cons_zero, List.set_cons_succ])
  refine wpAnyH_take (i := 6) (oi := _) (v := ?_) (by simp only [List.getElem?_toArray, List.getElem?_cons_succ, List.getElem?_cons_zero]; rfl) (by kernel_rfl) (by kernel_rfl) (by kernel_rfl) (fun _ _ _ h => h) (Or.inl ⟨by rfl, ?_⟩) (by assumption) ?_
  rotate_left
  · (intro w hSw; (try dsimp only at hSw); go_simp; (try with_reducible rfl))
  (try simp only [Act.put, List.setIfInBounds_toArray, List.set_cons_zero, List.set_cons_succ])
  refine wpAnyH_take (i := 7) (oi := _) (v := ?_) (by simp only [List.getElem?_toArray, List.getElem?_cons_succ, List.getElem?_cons_zero]; rfl) (by kernel_rfl) (by kernel_rfl) (by kernel_rfl) (fun _ _ _ h => h) (Or.inl ⟨by rfl, ?_⟩) (by assumption) ?_
  rotate_left
  · (intro w hSw; (try dsimp only at hSw); go_simp; (try with_reducible rfl))
  (try simp only [Act.put, List.setIfInBounds_toArray, List.set_cons_zero, List.set_cons_succ])
  refine wpAnyH_take (i := 8) (oi := _) (v := ?_) (by simp only [List.getElem?_toArray, List.getElem?_cons_succ, List.getElem?_cons_zero]; rfl) (by kernel_rfl) (by kernel_rfl) (by kernel_rfl) (fun _ _ _ h => h) (Or.inl ⟨by rfl, ?_⟩) (by assumption) ?_
  rotate_left
  · (intro w hSw; (try dsimp only at hSw); go_simp; (try with_reducible rfl))
  (try simp only [Act.put, List.setIfInBounds_toArray, List.set_cons_zero, List.set_cons_succ])
  refine wpAnyH_take (i := 9) (oi := _) (v := ?_) (by simp only [List.getElem?_toArray, List.getElem?_cons_succ, List.getElem?_cons_zero]; rfl) (by kernel_rfl) (by kernel_rfl) (by kernel_rfl) (fun _ _ _ h => h) (Or.inl ⟨by rfl, ?_⟩) (by assumption) ?_
  rotate_left
  · (intro w hSw; (try dsimp only at hSw); go_simp; (try with_reducible rfl))
  (try simp only [Act.put, List.setIfInBounds_toArray, List.set_cons_zero, List.set_cons_succ])
  refine wpAnyH_take (i := 10) (oi := _) (v := ?_) (by simp only [List.getElem?_toArray, List.getElem?_cons_succ, List.getElem?_cons_zero]; rfl) (by kernel_rfl) (by kernel_rfl) (by kernel_rfl) (fun _ _ _ h => h) (Or.inl ⟨by rfl, ?_⟩) (by assumption) ?_
  rotate_left
  · (intro w hSw; (try dsimp only at hSw); go_simp; (try with_reducible rfl))
  (try simp only [Act.put, List.setIfInBounds_toArray, List.set_cons_zero, List.set_cons_succ])
  refine wpAnyH_take (i := 11) (oi := _) (v := ?_) (by simp only [List.getElem?_toArray, List.getElem?_cons_succ, List.getElem?_cons_zero]; rfl) (by kernel_rfl) (by kernel_rfl) (by kernel_rfl) (fun _ _ _ h => h) (Or.inl ⟨by rfl, ?_⟩) (by assumption) ?_
  rotate_left
  · (intro w hSw; (try dsimp only at hSw); go_simp; (try with_reducible rfl))
  (try simp only [Act.put, List.setIfInBounds_toArray, List.set_cons_zero, List.set_cons_succ])
  refine wpAnyH_ready (rs := [2]) (by kernel_rfl) (by simp) ?_
  refine AllReadyH.cons (o := _) (by simp only [List.getElem?_toArray, List.getElem?_cons_succ, List.getElem?_cons_zero]; rfl) (fun K hK => ?_) AllReadyH.nil
  go_simp
  refine (HN.out _ (by first | exact hHeld.1 | exact hH9.1)).mono ?_
  rintro e w7 ⟨rfl, rfl⟩
  (try go_wp2_with fail)
  refine hK.out _ _ (by first | exact hHeld | exact hH9) (fun hHeld => ?_)
  clear hK K
  (try simp only [Act.put, List.setIfInBounds_toArray, List.set_cons_zero, List.set_cons_succ])
  refine wpAnyH_take (i := 12) (oi := _) (v := ?_) (by simp only [List.getElem?_toArray, List.getElem?_cons_succ, List.getElem?_cons_zero]; rfl) (by kernel_rfl) (by kernel_rfl) (by kernel_rfl) (fun _ _ _ h => h) (Or.inl ⟨by rfl, ?_⟩) (by assumption) ?_
  rotate_left
  · (intro w hSw; (try dsimp only at hSw); go_simp; (try with_reducible rfl))
  (try simp only [Act.put, List.setIfInBounds_toArray, List.set_cons_zero, List.set_cons_succ])
  refine wpAnyH_ready (rs := [13]) (by kernel_rfl) (by simp) ?_
  refine AllReadyH.cons (o := _) (by simp only [List.getElem?_toArray, List.getElem?_cons_succ, List.getElem?_cons_zero]; rfl) (fun K hK => ?_) AllReadyH.nil
  go_simp
  refine hK.out _ _ (KA.out _ hHeld) (fun hHeld => ?_)
  clear hK K
  (try simp only [Act.put, List.setIfInBounds_toArray, List.set_cons_zero, List.set_cons_succ])
  refine wpAnyH_ready (rs := [14]) (by kernel_rfl) (by simp) ?_
  refine AllReadyH.cons (o := _) (by simp only [List.getElem?_toArray, List.getElem?_cons_succ, List.getElem?_cons_zero]; rfl) (fun K hK => ?_) AllReadyH.nil
  refine step_app _ (by rfl) E40 (.tmp 69) (.tmp 82) (by rfl) ROWD.out SRC.out 1 (by simp [Act.eval, Act.put]) (by simp [Act.eval, Act.put]) (by simp [Value.oneCell']) (by unfold maxLen; omega) (by omega) ?_
  intro A7 c7 w7 hr7 hg7 hl7
  have G7 := Lib.hid (Holds.grew' HW.out SW.out hr7 hg7 (by rcases hl7 with h | h; exact .inl h; exact .inr ⟨_, h, Nat.le_refl _⟩))
  have Z7 := Lib.hid (ZD.out.grown hg7 NB.out)
  refine hK.out _ _ ⟨Z7.out, Z7.out.cell 3, Z7.out.cell 4⟩ (fun hHeld => ?_)
  clear hK K hr7 hg7 hl7
  (try simp only [Act.put, List.setIfInBounds_toArray, List.set_cons_zero, List.set_cons_succ])
  refine wpAnyH_take (i := 15) (oi := _) (v := ?_) (by simp only [List.getElem?_toArray, List.getElem?_cons_succ, List.getElem?_cons_zero]; rfl) (by kernel_rfl) (by kernel_rfl) (by kernel_rfl) (fun _ _ _ h => h) (Or.inl ⟨by rfl, ?_⟩) (by assumption) ?_
  rotate_left
  · (intro w hSw; (try dsimp only at hSw); go_simp; (try with_reducible rfl))
  (try simp only [Act.put, List.setIfInBounds_toArray, List.set_cons_zero, List.set_cons_succ])
  refine wpAnyH_done (by kernel_rfl) ?_ _
  refine NoPanic.normal ?_
  clear hH9 y4 y10 z9 z10 f9 f10
  go_wp2_with fail
  go_ret
  exact ⟨_, _, _, ({ S with kept := true, keptAt := now } : CS), rfl, ⟨AL.out.id, AL.out.n, AL.out.life, AL.out.session, AL.out.seq, AL.out.had, AL.out.til, AL.out.L, AL.out.op⟩, G7.out.drop⟩
theorem tick0_on (h : Holds B w0 w (star (cliP b S) Q)) (hQ : Stable Q) (hid : 0 ≤ S.id ∧ S.id < 8) (ho : S.op = none) (hs : 0 < S.session) (hk : S.kept = true) (ht : 100 ≤ wrap64 (now - S.keptAt)) :
    Calls Try.prog 16 #[.pointer (some ⟨b, 0, none⟩), .int .i64 now] w (TickPost B w0 b S Q) := by
  have hu := Try.underlying62
  have hu2 := Try.underlying40
  have hu3 := Try.underlying66
  have QQ := Lib.hid hQ
  have HH := Lib.hid h
  have HI := Lib.hid hid
  have D1 := decide_eq_true hs
  have D2 := decide_eq_true ht
  have hkb := Lib.hid hk
  obtain ⟨A0, c0, Z0⟩ := x_open0 h ho
  have z7 := Z0.cell 7
  have H2 := Lib.hid (h.newRow ((cliP_stable _ _).star hQ) (Row.nil _ 40 20) (Keep.same _ _) (fun k hk => by simp [Value.ownBlock] at hk))
  have AL := Lib.hid (show Alike S S from ⟨rfl, rfl, rfl, rfl, rfl, rfl, rfl, rfl, fun h => h, fun o h => ⟨o.sent, h⟩⟩)
  have zk : w.cell? ⟨b, 9, none⟩ = some (.bool true) := by rw [Z0.cell 9]; show some (Value.bool S.kept) = _; rw [hk]
  clear h hQ hid ho Z0 hs hk ht
  go_enter Try.func16, Try.ntmps16
  obtain ⟨p8, A8, c8, Z8⟩ := x_blk (show Holds B w0 w (star (cliP b S) (star (rowP 40 20 (.slice none 0 0) 0 []) Q)) from Holds.flip H2.out)
  have y4 := Z8.cell 4
  have y10 := Z8.cell 10
  have G3 := x_cell (g := 0) (show Holds B w0 w (star (cliP b S) (star (rowP 40 20 (.slice none 0 0) 0 []) Q)) from Holds.flip H2.out) ((rowP_stable _ _ _ _ _).star QQ.out) (i := 9) (.bool true) (({ S with kept := true } : CS)) (by omega) rfl rfl (fun p A c => rfl)
  obtain ⟨⟨v9, z9⟩, f9, G4⟩ := G3
  obtain ⟨⟨v10, z10⟩, f10, G5⟩ := x_cell (g := 0) G4 ((rowP_stable _ _ _ _ _).star QQ.out) (i := 10) (.int .i64 now) (({ S with kept := true, keptAt := now } : CS)) (by omega) rfl rfl (fun p A c => rfl)
  have H5 := Lib.hid G5
  obtain ⟨p9, A9, c9, Z9⟩ := x_blk G5
  have HN := Lib.hid (fun w' (hb : Blk w' b 62 ((({ S with kept := true, keptAt := now } : CS)).cs p9 A9 S.L.length c9)) => node22 w' b (({ S with kept := true, keptAt := now } : CS)) p9 A9 S.L.length c9 hb HI.out)
  have hH9 : (fun w' => Blk w' b 62 ((({ S with kept := true, keptAt := now } : CS)).cs p9 A9 S.L.length c9) ∧ w'.cell? ⟨b, 3, none⟩ = some (.int .i64 S.server) ∧ w'.cell? ⟨b, 4, none⟩ = some (.int .i64 S.session)) ((w.setCell ⟨b, 9, none⟩ (.bool true)).setCell ⟨b, 10, none⟩ (.int .i64 now)) := ⟨Z9, Z9.cell 3, Z9.cell 4⟩
  dsimp only at hH9
  have RW := Lib.hid ((show Holds B w0 _ (star (rowP 40 20 (.slice none 0 0) 0 []) (star (cliP b (({ S with kept := true, keptAt := now } : CS))) Q)) from Holds.flip G5).row)
  have NB := Lib.hid (show ((.slice none 0 0) : Value).ownBlock ≠ some b from RW.out.apart Z9 (by decide))
  have ZZ := Lib.hid Z9
  clear G4 G5 Z9 Z8
  go_wp2_with fail
  have KSIZE : ((w.setCell ⟨b, 9, none⟩ (.bool true)).setCell ⟨b, 10, none⟩ (.int .i64 now)).heap.size = w.heap.size := by simp
  have SRC := Lib.hid (show U.Src ((((w.setCell ⟨b, 9, none⟩ (.bool true)).setCell ⟨b, 10, none⟩ (.int .i64 now)).alloc (.cells #[.int .i64 13, .int .i64 (5 + S.id), .int .i64 S.server, .int .i64 0, .int .i64 0, .int .i64 now, .int .i64 S.session, .int .i64 0, .slice none 0 0, .int .i64 0, .int .i64 0, .int .i64 0, .string ⟨#[]⟩, .int .i64 0, .int .i64 0, .int .i64 0, .int .i64 0, .int .u64 0, .int .i64 0, .string ⟨#[]⟩] 40)).drew) (some ⟨w.heap.size, 0, none⟩) 20 1 (#[.int .i64 13, .int .i64 (5 + S.id), .int .i64 S.server, .int .i64 0, .int .i64 0, .int .i64 now, .int .i64 S.session, .int .i64 0, .slice none 0 0, .int .i64 0, .int .i64 0, .int .i64 0, .string ⟨#[]⟩, .int .i64 0, .int .i64 0, .int .i64 0, .int .i64 0, .int .u64 0, .int .i64 0, .string ⟨#[]⟩]).toList from by
    have h := U.Src.fresh ((w.setCell ⟨b, 9, none⟩ (.bool true)).setCell ⟨b, 10, none⟩ (.int .i64 now)) #[.int .i64 13, .int .i64 (5 + S.id), .int .i64 S.server, .int .i64 0, .int .i64 0, .int .i64 now, .int .i64 S.session, .int .i64 0, .slice none 0 0, .int .i64 0, .int .i64 0, .int .i64 0, .string ⟨#[]⟩, .int .i64 0, .int .i64 0, .int .i64 0, .int .i64 0, .int .u64 0, .int .i64 0, .string ⟨#[]⟩] 40 20 1 rfl
    rw [KSIZE] at h
    exact h)
  have ROWD := Lib.hid (RW.out.keep (((Keep.same Nothing ((w.setCell ⟨b, 9, none⟩ (.bool true)).setCell ⟨b, 10, none⟩ (.int .i64 now))).alloc (.cells #[.int .i64 13, .int .i64 (5 + S.id), .int .i64 S.server, .int .i64 0, .int .i64 0, .int .i64 now, .int .i64 S.session, .int .i64 0, .slice none 0 0, .int .i64 0, .int .i64 0, .int .i64 0, .string ⟨#[]⟩, .int .i64 0, .int .i64 0, .int .i64 0, .int .i64 0, .int .u64 0, .int .i64 0, .string ⟨#[]⟩] 40)).drew) (fun _ _ h => h))
  have ZD := Lib.hid (ZZ.out.keep (((Keep.same Nothing ((w.setCell ⟨b, 9, none⟩ (.bool true)).setCell ⟨b, 10, none⟩ (.int .i64 now))).alloc (.cells #[.int .i64 13, .int .i64 (5 + S.id), .int .i64 S.server, .int .i64 0, .int .i64 0, .int .i64 now, .int .i64 S.session, .int .i64 0, .slice none 0 0, .int .i64 0, .int .i64 0, .int .i64 0, .string ⟨#[]⟩, .int .i64 0, .int .i64 0, .int .i64 0, .int .i64 0, .int .u64 0, .int .i64 0, .string ⟨#[]⟩] 40)).drew) (fun h => h))
  have SW := Lib.hid ((cliP_stable b (({ S with kept := true, keptAt := now } : CS))).star QQ.out)
  have HW := Lib.hid ((show Holds B w0 ((w.setCell ⟨b, 9, none⟩ (.bool true)).setCell ⟨b, 10, none⟩ (.int .i64 now)) (star (rowP 40 20 (.slice none 0 0) 0 []) (star (cliP b (({ S with kept := true, keptAt := now } : CS))) Q)) from Holds.flip H5.out).kept ((rowP_stable _ _ _ _ _).star SW.out) (((Keep.same Nothing ((w.setCell ⟨b, 9, none⟩ (.bool true)).setCell ⟨b, 10, none⟩ (.int .i64 now))).alloc (.cells #[.int .i64 13, .int .i64 (5 + S.id), .int .i64 S.server, .int .i64 0, .int .i64 0, .int .i64 now, .int .i64 S.session, .int .i64 0, .slice none 0 0, .int .i64 0, .int .i64 0, .int .i64 0, .string ⟨#[]⟩, .int .i64 0, .int .i64 0, .int .i64 0, .int .i64 0, .int .u64 0, .int .i64 0, .string ⟨#[]⟩] 40)).drew))
  clear KSIZE
  have KA := Lib.hid (show ∀ w', (fun w' => Blk w' b 62 ((({ S with kept := true, keptAt := now } : CS)).cs p9 A9 S.L.length c9) ∧ w'.cell? ⟨b, 3, none⟩ = some (.int .i64 S.server) ∧ w'.cell? ⟨b, 4, none⟩ = some (.int .i64 S.session)) w' → (fun w' => Blk w' b 62 ((({ S with kept := true, keptAt := now } : CS)).cs p9 A9 S.L.length c9) ∧ w'.cell? ⟨b, 3, none⟩ = some (.int .i64 S.server) ∧ w'.cell? ⟨b, 4, none⟩ = some (.int .i64 S.session)) (w'.alloc (.cells #[.int .i64 13, .int .i64 (5 + S.id), .int .i64 S.server, .int .i64 0, .int .i64 0, .int .i64 now, .int .i64 S.session, .int .i64 0, .slice none 0 0, .int .i64 0, .int .i64 0, .int .i64 0, .string ⟨#[]⟩, .int .i64 0, .int .i64 0, .int .i64 0, .int .i64 0, .int .u64 0, .int .i64 0, .string ⟨#[]⟩] 40)) from fun w' h => ⟨h.1.alloc _, (h.1.alloc _).cell 3, (h.1.alloc _).cell 4⟩)
  refine wp_region_noPanic ?_
  refine wp_region_held_drew (S := (fun w' => Blk w' b 62 ((({ S with kept := true, keptAt := now } : CS)).cs p9 A9 S.L.length c9) ∧ w'.cell? ⟨b, 3, none⟩ = some (.int .i64 S.server) ∧ w'.cell? ⟨b, 4, none⟩ = some (.int .i64 S.session))) (by kernel_rfl) hH9 (fun hHeld => ?_)
  refine wpAnyH_take (i := 0) (oi := _) (v := ?_) (by simp only [List.getElem?_toArray, List.getElem?_cons_succ, List.getElem?_cons_zero]; rfl) (by kernel_rfl) (by kernel_rfl) (by kernel_rfl) (fun _ _ _ h => h) (Or.inl ⟨by rfl, ?_⟩) (by assumption) ?_
  rotate_left
  · (intro w hSw; (try dsimp only at hSw); go_simp; (try with_reducible rfl))
  (try simp only [Act.put, List.setIfInBounds_toArray, List.set_cons_zero, List.set_cons_succ])
  refine wpAnyH_take (i := 1) (oi := _) (v := ?_) (by simp only [List.getElem?_toArray, List.getElem?_cons_succ, List.getElem?_cons_zero]; rfl) (by kernel_rfl) (by kernel_rfl) (by kernel_rfl) (fun _ _ _ h => h) (Or.inl ⟨by rfl, ?_⟩) (by assumption) ?_
  rotate_left
  · (intro w hSw; (try dsimp only at hSw); go_simp; (try with_reducible rfl))
  (try simp only [Act.put, List.setIfInBounds_toArray, List.set_cons_zero, List.set_cons_succ])
  refine wpAnyH_take (i := 3) (oi := _) (v := ?_) (by simp only [List.getElem?_toArray, List.getElem?_cons_succ, List.getElem?_cons_zero]; rfl) (by kernel_rfl) (by kernel_rfl) (by kernel_rfl) (fun _ _ _ h => h) (Or.inl ⟨by rfl, ?_⟩) (by assumption) ?_
  rotate_left
  · (intro w hSw; (try dsimp only at hSw); go_simp; (try with_reducible rfl))
  (try simp only [Act.put, List.setIfInBounds_toArray, List.set_cons_zero, List.set_cons_succ])
  refine wpAnyH_take (i := 4) (oi := _) (v := ?_) (by simp only [List.getElem?_toArray, List.getElem?_cons_succ, List.getElem?_cons_zero]; rfl) (by kernel_rfl) (by kernel_rfl) (by kernel_rfl) (fun _ _ _ h => h) (Or.inl ⟨by rfl, ?_⟩) (by assumption) ?_
  rotate_left
  · (intro w hSw; (try dsimp only at hSw); go_simp; (try with_reducible rfl))
  (try simp only [Act.put, List.setIfInBounds_toArray, List.set_cons_zero, List.set_cons_succ])
  refine wpAnyH_take (i := 5) (oi := _) (v := ?_) (by simp only [List.getElem?_toArray, List.getElem?_cons_succ, List.getElem?_cons_zero]; rfl) (by kernel_rfl) (by kernel_rfl) (by kernel_rfl) (fun _ _ _ h => h) (Or.inl ⟨by rfl, ?_⟩) (by assumption) ?_
  rotate_left
  · (intro w hSw; (try dsimp only at hSw); go_simp; (try with_reducible rfl))
  (try simp only [Act.put, List.setIfInBounds_toArray, List.set_cons_zero, List.set_cons_succ])
  refine wpAnyH_take (i := 6) (oi := _) (v := ?_) (by simp only [List.getElem?_toArray, List.getElem?_cons_succ, List.getElem?_cons_zero]; rfl) (by kernel_rfl) (by kernel_rfl) (by kernel_rfl) (fun _ _ _ h => h) (Or.inl ⟨by rfl, ?_⟩) (by assumption) ?_
  rotate_left
  · (intro w hSw; (try dsimp only at hSw); go_simp; (try with_reducible rfl))
  (try simp only [Act.put, List.setIfInBounds_toArray, List.set_cons_zero, List.set_cons_succ])
  refine wpAnyH_take (i := 7) (oi := _) (v := ?_) (by simp only [List.getElem?_toArray, List.getElem?_cons_succ, List.getElem?_cons_zero]; rfl) (by kernel_rfl) (by kernel_rfl) (by kernel_rfl) (fun _ _ _ h => h) (Or.inl ⟨by rfl, ?_⟩) (by assumption) ?_
  rotate_left
  · (intro w hSw; (try dsimp only at hSw); go_simp; (try with_reducible rfl))
  (try simp only [Act.put, List.setIfInBounds_toArray, List.set_cons_zero, List.set_cons_succ])
  refine wpAnyH_take (i := 8) (oi := _) (v := ?_) (by simp only [List.getElem?_toArray, List.getElem?_cons_succ, List.getElem?_cons_zero]; rfl) (by kernel_rfl) (by kernel_rfl) (by kernel_rfl) (fun _ _ _ h => h) (Or.inl ⟨by rfl, ?_⟩) (by assumption) ?_
  rotate_left
  · (intro w hSw; (try dsimp only at hSw); go_simp; (try with_reducible rfl))
  (try simp only [Act.put, List.setIfInBounds_toArray, List.set_cons_zero, List.set_cons_succ])
  refine wpAnyH_take (i := 9) (oi := _) (v := ?_) (by simp only [List.getElem?_toArray, List.getElem?_cons_succ, List.getElem?_cons_zero]; rfl) (by kernel_rfl) (by kernel_rfl) (by kernel_rfl) (fun _ _ _ h => h) (Or.inl ⟨by rfl, ?_⟩) (by assumption) ?_
  rotate_left
  · (intro w hSw; (try dsimp only at hSw); go_simp; (try with_reducible rfl))
  (try simp only [Act.put, List.setIfInBounds_toArray, List.set_cons_zero, List.set_cons_succ])
  refine wpAnyH_take (i := 10) (oi := _) (v := ?_) (by simp only [List.getElem?_toArray, List.getElem?_cons_succ, List.getElem?_cons_zero]; rfl) (by kernel_rfl) (by kernel_rfl) (by kernel_rfl) (fun _ _ _ h => h) (Or.inl ⟨by rfl, ?_⟩) (by assumption) ?_
  rotate_left
  · (intro w hSw; (try dsimp only at hSw); go_simp; (try with_reducible rfl))
  (try simp only [Act.put, List.setIfInBounds_toArray, List.set_cons_zero, List.set_cons_succ])
  refine wpAnyH_take (i := 11) (oi := _) (v := ?_) (by simp only [List.getElem?_toArray, List.getElem?_cons_succ, List.getElem?_cons_zero]; rfl) (by kernel_rfl) (by kernel_rfl) (by kernel_rfl) (fun _ _ _ h => h) (Or.inl ⟨by rfl, ?_⟩) (by assumption) ?_
  rotate_left
  · (intro w hSw; (try dsimp only at hSw); go_simp; (try with_reducible rfl))
  (try simp only [Act.put, List.setIfInBounds_toArray, List.set_cons_zero, List.set_cons_succ])
  refine wpAnyH_ready (rs := [2]) (by kernel_rfl) (by simp) ?_
  refine AllReadyH.cons (o := _) (by simp only [List.getElem?_toArray, List.getElem?_cons_succ, List.getElem?_cons_zero]; rfl) (fun K hK => ?_) AllReadyH.nil
  go_simp
  refine (HN.out _ (by first | exact hHeld.1 | exact hH9.1)).mono ?_
  rintro e w7 ⟨rfl, rfl⟩
  (try go_wp2_with fail)
  refine hK.out _ _ (by first | exact hHeld | exact hH9) (fun hHeld => ?_)
  clear hK K
  (try simp only [Act.put, List.setIfInBounds_toArray, List.set_cons_zero, List.set_cons_succ])
  refine wpAnyH_take (i := 12) (oi := _) (v := ?_) (by simp only [List.getElem?_toArray, List.getElem?_cons_succ, List.getElem?_cons_zero]; rfl) (by kernel_rfl) (by kernel_rfl) (by kernel_rfl) (fun _ _ _ h => h) (Or.inl ⟨by rfl, ?_⟩) (by assumption) ?_
  rotate_left
  · (intro w hSw; (try dsimp only at hSw); go_simp; (try with_reducible rfl))
  (try simp only [Act.put, List.setIfInBounds_toArray, List.set_cons_zero, List.set_cons_succ])
  refine wpAnyH_ready (rs := [13]) (by kernel_rfl) (by simp) ?_
  refine AllReadyH.cons (o := _) (by simp only [List.getElem?_toArray, List.getElem?_cons_succ, List.getElem?_cons_zero]; rfl) (fun K hK => ?_) AllReadyH.nil
  go_simp
  refine hK.out _ _ (KA.out _ hHeld) (fun hHeld => ?_)
  clear hK K
  (try simp only [Act.put, List.setIfInBounds_toArray, List.set_cons_zero, List.set_cons_succ])
  refine wpAnyH_ready (rs := [14]) (by kernel_rfl) (by simp) ?_
  refine AllReadyH.cons (o := _) (by simp only [List.getElem?_toArray, List.getElem?_cons_succ, List.getElem?_cons_zero]; rfl) (fun K hK => ?_) AllReadyH.nil
  refine step_app _ (by rfl) E40 (.tmp 69) (.tmp 82) (by rfl) ROWD.out SRC.out 1 (by simp [Act.eval, Act.put]) (by simp [Act.eval, Act.put]) (by simp [Value.oneCell']) (by unfold maxLen; omega) (by omega) ?_
  intro A7 c7 w7 hr7 hg7 hl7
  have G7 := Lib.hid (Holds.grew' HW.out SW.out hr7 hg7 (by rcases hl7 with h | h; exact .inl h; exact .inr ⟨_, h, Nat.le_refl _⟩))
  have Z7 := Lib.hid (ZD.out.grown hg7 NB.out)
  refine hK.out _ _ ⟨Z7.out, Z7.out.cell 3, Z7.out.cell 4⟩ (fun hHeld => ?_)
  clear hK K hr7 hg7 hl7
  (try simp only [Act.put, List.setIfInBounds_toArray, List.set_cons_zero, List.set_cons_succ])
  refine wpAnyH_take (i := 15) (oi := _) (v := ?_) (by simp only [List.getElem?_toArray, List.getElem?_cons_succ, List.getElem?_cons_zero]; rfl) (by kernel_rfl) (by kernel_rfl) (by kernel_rfl) (fun _ _ _ h => h) (Or.inl ⟨by rfl, ?_⟩) (by assumption) ?_
  rotate_left
  · (intro w hSw; (try dsimp only at hSw); go_simp; (try with_reducible rfl))
  (try simp only [Act.put, List.setIfInBounds_toArray, List.set_cons_zero, List.set_cons_succ])
  refine wpAnyH_done (by kernel_rfl) ?_ _
  refine NoPanic.normal ?_
  clear hH9 y4 y10 z9 z10 f9 f10
  go_wp2_with fail
  go_ret
  exact ⟨_, _, _, ({ S with kept := true, keptAt := now } : CS), rfl, ⟨AL.out.id, AL.out.n, AL.out.life, AL.out.session, AL.out.seq, AL.out.had, AL.out.til, AL.out.L, AL.out.op⟩, G7.out.drop⟩
theorem tick0_off (h : Holds B w0 w (star (cliP b S) Q)) (hQ : Stable Q) (hid : 0 ≤ S.id ∧ S.id < 8) (ho : S.op = none) (hs : 0 < S.session) (hk : S.kept = true) (ht : ¬ 100 ≤ wrap64 (now - S.keptAt)) :
    Calls Try.prog 16 #[.pointer (some ⟨b, 0, none⟩), .int .i64 now] w (TickPost B w0 b S Q) := by
  have hu := Try.underlying62
  have hu2 := Try.underlying40
  have hu3 := Try.underlying66
  have QQ := Lib.hid hQ
  have HH := Lib.hid h
  have HI := Lib.hid hid
  have D1 := decide_eq_true hs
  have D2 := decide_eq_false ht
  have hkb := Lib.hid hk
  obtain ⟨A0, c0, Z0⟩ := x_open0 h ho
  have z7 := Z0.cell 7
  have H2 := Lib.hid (h.newRow ((cliP_stable _ _).star hQ) (Row.nil _ 40 20) (Keep.same _ _) (fun k hk => by simp [Value.ownBlock] at hk))
  have AL := Lib.hid (show Alike S S from ⟨rfl, rfl, rfl, rfl, rfl, rfl, rfl, rfl, fun h => h, fun o h => ⟨o.sent, h⟩⟩)
  have zk : w.cell? ⟨b, 9, none⟩ = some (.bool true) := by rw [Z0.cell 9]; show some (Value.bool S.kept) = _; rw [hk]
  clear h hQ hid ho Z0 hs hk ht
  go_enter Try.func16, Try.ntmps16
  obtain ⟨p8, A8, c8, Z8⟩ := x_blk (show Holds B w0 w (star (cliP b S) (star (rowP 40 20 (.slice none 0 0) 0 []) Q)) from Holds.flip H2.out)
  have y4 := Z8.cell 4
  have y10 := Z8.cell 10
  clear Z8
  go_wp2_with fail
  go_ret
  exact ⟨_, _, _, S, rfl, AL.out, (H2.out.drop).kept ((cliP_stable _ _).star QQ.out) (by repeat (first | with_reducible (exact Keep.same _ _) | with_reducible (apply Keep.drew) | with_reducible (apply Keep.alloc)))⟩
theorem tick1_wait_no (h : Holds B w0 w (star (cliP b S) Q)) (hQ : Stable Q) (hid : 0 ≤ S.id ∧ S.id < 8) (hn : S.n = 3) (o : Oc) (ho : S.op = some o) (hr : ¬ 30 ≤ wrap64 (now - o.sent)) (hs : ¬ 0 < S.session) :
    Calls Try.prog 16 #[.pointer (some ⟨b, 0, none⟩), .int .i64 now] w (TickPost B w0 b S Q) := by
  have hu := Try.underlying62
  have hu2 := Try.underlying40
  have hu3 := Try.underlying66
  have QQ := Lib.hid hQ
  have HH := Lib.hid h
  have HI := Lib.hid hid
  have D1 := decide_eq_false hs
  obtain ⟨ob, A0, c0, Z0, O0⟩ := x_open1 h ho
  have z7 := Z0.cell 7
  have o6 := O0.cell 6
  have DR := decide_eq_false hr
  have H2 := Lib.hid (h.newRow ((cliP_stable _ _).star hQ) (Row.nil _ 40 20) (Keep.same _ _) (fun k hk => by simp [Value.ownBlock] at hk))
  have AL := Lib.hid (show Alike S S from ⟨rfl, rfl, rfl, rfl, rfl, rfl, rfl, rfl, fun h => h, fun o h => ⟨o.sent, h⟩⟩)
  clear h hQ hid ho hn hr Z0 O0 hs
  go_enter Try.func16, Try.ntmps16
  obtain ⟨p8, A8, c8, Z8⟩ := x_blk (show Holds B w0 w (star (cliP b S) (star (rowP 40 20 (.slice none 0 0) 0 []) Q)) from Holds.flip H2.out)
  have y4 := Z8.cell 4
  have y10 := Z8.cell 10
  clear Z8
  go_wp2_with fail
  go_ret
  exact ⟨_, _, _, S, rfl, AL.out, (H2.out.drop).kept ((cliP_stable _ _).star QQ.out) (by repeat (first | with_reducible (exact Keep.same _ _) | with_reducible (apply Keep.drew) | with_reducible (apply Keep.alloc)))⟩
theorem tick1_send_no (h : Holds B w0 w (star (cliP b S) Q)) (hQ : Stable Q) (hid : 0 ≤ S.id ∧ S.id < 8) (hn : S.n = 3) (o : Oc) (ho : S.op = some o) (hr : 30 ≤ wrap64 (now - o.sent)) (hs : ¬ 0 < S.session) :
    Calls Try.prog 16 #[.pointer (some ⟨b, 0, none⟩), .int .i64 now] w (TickPost B w0 b S Q) := by
  have hu := Try.underlying62
  have hu2 := Try.underlying40
  have hu3 := Try.underlying66
  have QQ := Lib.hid hQ
  have HH := Lib.hid h
  have HI := Lib.hid hid
  have D1 := decide_eq_false hs
  obtain ⟨ob, A0, c0, Z0, O0⟩ := x_open1 h ho
  have z7 := Z0.cell 7
  have o6 := O0.cell 6
  have DR := decide_eq_true hr
  have z1 : w.cell? ⟨b, 1, none⟩ = some (.int .i64 3) := by rw [Z0.cell 1]; show some (Value.int .i64 S.n) = _; rw [hn]
  have z3 := Z0.cell 3
  obtain ⟨⟨v3, t3⟩, f3, G1⟩ := x_cell (g := 0) h hQ (i := 3) (.int .i64 (((wrap64 (S.server + 1)).tmod 3))) ({ S with server := ((wrap64 (S.server + 1)).tmod 3) } : CS) (by omega) rfl rfl (fun p A c => rfl)
  have G1' : Holds B w0 (w.setCell ⟨b, 3, none⟩ (.int .i64 (((wrap64 (S.server + 1)).tmod 3)))) (star (cliP b (({ S with server := ((wrap64 (S.server + 1)).tmod 3) } : CS).withOp (some o))) Q) := by
    have e : ({ S with server := ((wrap64 (S.server + 1)).tmod 3) } : CS).withOp (some o) = { S with server := ((wrap64 (S.server + 1)).tmod 3) } := by unfold CS.withOp; rw [← ho]
    rw [e]; exact G1
  have HSEND := Lib.hid (fun (X : World) (hX : Keep Nothing _ X) => x_send (G1'.kept ((cliP_stable _ _).star QQ.out) hX) QQ.out HI.out now)
  have HO := Lib.hid ho
  clear h hQ hid ho hn hr Z0 O0 G1 G1' hs
  go_enter Try.func16, Try.ntmps16
  go_wp2_with fail
  go_region
  all_goals
    go_wp2_with fail
    refine (HSEND.out _ (by repeat (first | with_reducible (exact Keep.same _ _) | with_reducible (apply Keep.drew) | with_reducible (apply Keep.alloc)))).mono ?_
    rintro e w9 ⟨g, rfl, h9⟩
    have H2 := Lib.hid (show Holds B w0 w9 (star (rowP 40 20 (.slice (some ⟨g, 0, none⟩) 1 1) 1 (askCs ({ S with server := ((wrap64 (S.server + 1)).tmod 3) } : CS) o).toList) (star (cliP b (({ S with server := ((wrap64 (S.server + 1)).tmod 3), op := some ⟨o.cmd, o.first, now⟩ } : CS))) Q)) from h9)
    have AL := Lib.hid (show Alike S (({ S with server := ((wrap64 (S.server + 1)).tmod 3), op := some ⟨o.cmd, o.first, now⟩ } : CS)) from ⟨rfl, rfl, rfl, rfl, rfl, rfl, rfl, rfl, ⟨fun h => by (rw [HO.out] at h; cases h), fun o' h => by (rw [HO.out] at h; injection h with h; subst h; exact ⟨now, rfl⟩)⟩⟩)
    clear h9 z7 o6 z1 z3 t3 f3
    obtain ⟨p8, A8, c8, Z8⟩ := x_blk (show Holds B w0 w9 (star (cliP b ({ S with server := ((wrap64 (S.server + 1)).tmod 3), op := some ⟨o.cmd, o.first, now⟩ } : CS)) (star (rowP 40 20 (.slice (some ⟨g, 0, none⟩) 1 1) 1 (askCs ({ S with server := ((wrap64 (S.server + 1)).tmod 3) } : CS) o).toList) Q)) from Holds.flip H2.out)
    have y4 := Z8.cell 4
    have y10 := Z8.cell 10
    clear Z8
    go_wp2_with fail
    go_ret
    exact ⟨_, _, _, ({ S with server := ((wrap64 (S.server + 1)).tmod 3), op := some ⟨o.cmd, o.first, now⟩ } : CS), rfl, AL.out, (H2.out.drop).kept ((cliP_stable _ _).star QQ.out) (by repeat (first | with_reducible (exact Keep.same _ _) | with_reducible (apply Keep.drew) | with_reducible (apply Keep.alloc)))⟩
theorem tick1_wait_first (h : Holds B w0 w (star (cliP b S) Q)) (hQ : Stable Q) (hid : 0 ≤ S.id ∧ S.id < 8) (hn : S.n = 3) (o : Oc) (ho : S.op = some o) (hr : ¬ 30 ≤ wrap64 (now - o.sent)) (hs : 0 < S.session) (hk : S.kept = false) :
    Calls Try.prog 16 #[.pointer (some ⟨b, 0, none⟩), .int .i64 now] w (TickPost B w0 b S Q) := by
  have hu := Try.underlying62
  have hu2 := Try.underlying40
  have hu3 := Try.underlying66
  have QQ := Lib.hid hQ
  have HH := Lib.hid h
  have HI := Lib.hid hid
  have D1 := decide_eq_true hs
  have hkb := Lib.hid hk
  obtain ⟨ob, A0, c0, Z0, O0⟩ := x_open1 h ho
  have z7 := Z0.cell 7
  have o6 := O0.cell 6
  have DR := decide_eq_false hr
  have H2 := Lib.hid (h.newRow ((cliP_stable _ _).star hQ) (Row.nil _ 40 20) (Keep.same _ _) (fun k hk => by simp [Value.ownBlock] at hk))
  have AL := Lib.hid (show Alike S S from ⟨rfl, rfl, rfl, rfl, rfl, rfl, rfl, rfl, fun h => h, fun o h => ⟨o.sent, h⟩⟩)
  have zk : w.cell? ⟨b, 9, none⟩ = some (.bool false) := by rw [Z0.cell 9]; show some (Value.bool S.kept) = _; rw [hk]
  clear h hQ hid ho hn hr Z0 O0 hs hk
  go_enter Try.func16, Try.ntmps16
  obtain ⟨p8, A8, c8, Z8⟩ := x_blk (show Holds B w0 w (star (cliP b S) (star (rowP 40 20 (.slice none 0 0) 0 []) Q)) from Holds.flip H2.out)
  have y4 := Z8.cell 4
  have y10 := Z8.cell 10
  have G3 := x_cell (g := 0) (show Holds B w0 w (star (cliP b S) (star (rowP 40 20 (.slice none 0 0) 0 []) Q)) from Holds.flip H2.out) ((rowP_stable _ _ _ _ _).star QQ.out) (i := 9) (.bool true) (({ S with kept := true } : CS)) (by omega) rfl rfl (fun p A c => rfl)
  obtain ⟨⟨v9, z9⟩, f9, G4⟩ := G3
  obtain ⟨⟨v10, z10⟩, f10, G5⟩ := x_cell (g := 0) G4 ((rowP_stable _ _ _ _ _).star QQ.out) (i := 10) (.int .i64 now) (({ S with kept := true, keptAt := now } : CS)) (by omega) rfl rfl (fun p A c => rfl)
  have H5 := Lib.hid G5
  obtain ⟨p9, A9, c9, Z9⟩ := x_blk G5
  have HN := Lib.hid (fun w' (hb : Blk w' b 62 ((({ S with kept := true, keptAt := now } : CS)).cs p9 A9 S.L.length c9)) => node22 w' b (({ S with kept := true, keptAt := now } : CS)) p9 A9 S.L.length c9 hb HI.out)
  have hH9 : (fun w' => Blk w' b 62 ((({ S with kept := true, keptAt := now } : CS)).cs p9 A9 S.L.length c9) ∧ w'.cell? ⟨b, 3, none⟩ = some (.int .i64 S.server) ∧ w'.cell? ⟨b, 4, none⟩ = some (.int .i64 S.session)) ((w.setCell ⟨b, 9, none⟩ (.bool true)).setCell ⟨b, 10, none⟩ (.int .i64 now)) := ⟨Z9, Z9.cell 3, Z9.cell 4⟩
  dsimp only at hH9
  have RW := Lib.hid ((show Holds B w0 _ (star (rowP 40 20 (.slice none 0 0) 0 []) (star (cliP b (({ S with kept := true, keptAt := now } : CS))) Q)) from Holds.flip G5).row)
  have NB := Lib.hid (show ((.slice none 0 0) : Value).ownBlock ≠ some b from RW.out.apart Z9 (by decide))
  have ZZ := Lib.hid Z9
  clear G4 G5 Z9 Z8
  go_wp2_with fail
  have KSIZE : ((w.setCell ⟨b, 9, none⟩ (.bool true)).setCell ⟨b, 10, none⟩ (.int .i64 now)).heap.size = w.heap.size := by simp
  have SRC := Lib.hid (show U.Src ((((w.setCell ⟨b, 9, none⟩ (.bool true)).setCell ⟨b, 10, none⟩ (.int .i64 now)).alloc (.cells #[.int .i64 13, .int .i64 (5 + S.id), .int .i64 S.server, .int .i64 0, .int .i64 0, .int .i64 now, .int .i64 S.session, .int .i64 0, .slice none 0 0, .int .i64 0, .int .i64 0, .int .i64 0, .string ⟨#[]⟩, .int .i64 0, .int .i64 0, .int .i64 0, .int .i64 0, .int .u64 0, .int .i64 0, .string ⟨#[]⟩] 40)).drew) (some ⟨w.heap.size, 0, none⟩) 20 1 (#[.int .i64 13, .int .i64 (5 + S.id), .int .i64 S.server, .int .i64 0, .int .i64 0, .int .i64 now, .int .i64 S.session, .int .i64 0, .slice none 0 0, .int .i64 0, .int .i64 0, .int .i64 0, .string ⟨#[]⟩, .int .i64 0, .int .i64 0, .int .i64 0, .int .i64 0, .int .u64 0, .int .i64 0, .string ⟨#[]⟩]).toList from by
    have h := U.Src.fresh ((w.setCell ⟨b, 9, none⟩ (.bool true)).setCell ⟨b, 10, none⟩ (.int .i64 now)) #[.int .i64 13, .int .i64 (5 + S.id), .int .i64 S.server, .int .i64 0, .int .i64 0, .int .i64 now, .int .i64 S.session, .int .i64 0, .slice none 0 0, .int .i64 0, .int .i64 0, .int .i64 0, .string ⟨#[]⟩, .int .i64 0, .int .i64 0, .int .i64 0, .int .i64 0, .int .u64 0, .int .i64 0, .string ⟨#[]⟩] 40 20 1 rfl
    rw [KSIZE] at h
    exact h)
  have ROWD := Lib.hid (RW.out.keep (((Keep.same Nothing ((w.setCell ⟨b, 9, none⟩ (.bool true)).setCell ⟨b, 10, none⟩ (.int .i64 now))).alloc (.cells #[.int .i64 13, .int .i64 (5 + S.id), .int .i64 S.server, .int .i64 0, .int .i64 0, .int .i64 now, .int .i64 S.session, .int .i64 0, .slice none 0 0, .int .i64 0, .int .i64 0, .int .i64 0, .string ⟨#[]⟩, .int .i64 0, .int .i64 0, .int .i64 0, .int .i64 0, .int .u64 0, .int .i64 0, .string ⟨#[]⟩] 40)).drew) (fun _ _ h => h))
  have ZD := Lib.hid (ZZ.out.keep (((Keep.same Nothing ((w.setCell ⟨b, 9, none⟩ (.bool true)).setCell ⟨b, 10, none⟩ (.int .i64 now))).alloc (.cells #[.int .i64 13, .int .i64 (5 + S.id), .int .i64 S.server, .int .i64 0, .int .i64 0, .int .i64 now, .int .i64 S.session, .int .i64 0, .slice none 0 0, .int .i64 0, .int .i64 0, .int .i64 0, .string ⟨#[]⟩, .int .i64 0, .int .i64 0, .int .i64 0, .int .i64 0, .int .u64 0, .int .i64 0, .string ⟨#[]⟩] 40)).drew) (fun h => h))
  have SW := Lib.hid ((cliP_stable b (({ S with kept := true, keptAt := now } : CS))).star QQ.out)
  have HW := Lib.hid ((show Holds B w0 ((w.setCell ⟨b, 9, none⟩ (.bool true)).setCell ⟨b, 10, none⟩ (.int .i64 now)) (star (rowP 40 20 (.slice none 0 0) 0 []) (star (cliP b (({ S with kept := true, keptAt := now } : CS))) Q)) from Holds.flip H5.out).kept ((rowP_stable _ _ _ _ _).star SW.out) (((Keep.same Nothing ((w.setCell ⟨b, 9, none⟩ (.bool true)).setCell ⟨b, 10, none⟩ (.int .i64 now))).alloc (.cells #[.int .i64 13, .int .i64 (5 + S.id), .int .i64 S.server, .int .i64 0, .int .i64 0, .int .i64 now, .int .i64 S.session, .int .i64 0, .slice none 0 0, .int .i64 0, .int .i64 0, .int .i64 0, .string ⟨#[]⟩, .int .i64 0, .int .i64 0, .int .i64 0, .int .i64 0, .int .u64 0, .int .i64 0, .string ⟨#[]⟩] 40)).drew))
  clear KSIZE
  have KA := Lib.hid (show ∀ w', (fun w' => Blk w' b 62 ((({ S with kept := true, keptAt := now } : CS)).cs p9 A9 S.L.length c9) ∧ w'.cell? ⟨b, 3, none⟩ = some (.int .i64 S.server) ∧ w'.cell? ⟨b, 4, none⟩ = some (.int .i64 S.session)) w' → (fun w' => Blk w' b 62 ((({ S with kept := true, keptAt := now } : CS)).cs p9 A9 S.L.length c9) ∧ w'.cell? ⟨b, 3, none⟩ = some (.int .i64 S.server) ∧ w'.cell? ⟨b, 4, none⟩ = some (.int .i64 S.session)) (w'.alloc (.cells #[.int .i64 13, .int .i64 (5 + S.id), .int .i64 S.server, .int .i64 0, .int .i64 0, .int .i64 now, .int .i64 S.session, .int .i64 0, .slice none 0 0, .int .i64 0, .int .i64 0, .int .i64 0, .string ⟨#[]⟩, .int .i64 0, .int .i64 0, .int .i64 0, .int .i64 0, .int .u64 0, .int .i64 0, .string ⟨#[]⟩] 40)) from fun w' h => ⟨h.1.alloc _, (h.1.alloc _).cell 3, (h.1.alloc _).cell 4⟩)
  refine wp_region_noPanic ?_
  refine wp_region_held_drew (S := (fun w' => Blk w' b 62 ((({ S with kept := true, keptAt := now } : CS)).cs p9 A9 S.L.length c9) ∧ w'.cell? ⟨b, 3, none⟩ = some (.int .i64 S.server) ∧ w'.cell? ⟨b, 4, none⟩ = some (.int .i64 S.session))) (by kernel_rfl) hH9 (fun hHeld => ?_)
  refine wpAnyH_take (i := 0) (oi := _) (v := ?_) (by simp only [List.getElem?_toArray, List.getElem?_cons_succ, List.getElem?_cons_zero]; rfl) (by kernel_rfl) (by kernel_rfl) (by kernel_rfl) (fun _ _ _ h => h) (Or.inl ⟨by rfl, ?_⟩) (by assumption) ?_
  rotate_left
  · (intro w hSw; (try dsimp only at hSw); go_simp; (try with_reducible rfl))
  (try simp only [Act.put, List.setIfInBounds_toArray, List.set_cons_zero, List.set_cons_succ])
  refine wpAnyH_take (i := 1) (oi := _) (v := ?_) (by simp only [List.getElem?_toArray, List.getElem?_cons_succ, List.getElem?_cons_zero]; rfl) (by kernel_rfl) (by kernel_rfl) (by kernel_rfl) (fun _ _ _ h => h) (Or.inl ⟨by rfl, ?_⟩) (by assumption) ?_
  rotate_left
  · (intro w hSw; (try dsimp only at hSw); go_simp; (try with_reducible rfl))
  (try simp only [Act.put, List.setIfInBounds_toArray, List.set_cons_zero, List.set_cons_succ])
  refine wpAnyH_take (i := 3) (oi := _) (v := ?_) (by simp only [List.getElem?_toArray, List.getElem?_cons_succ, List.getElem?_cons_zero]; rfl) (by kernel_rfl) (by kernel_rfl) (by kernel_rfl) (fun _ _ _ h => h) (Or.inl ⟨by rfl, ?_⟩) (by assumption) ?_
  rotate_left
  · (intro w hSw; (try dsimp only at hSw); go_simp; (try with_reducible rfl))
  (try simp only [Act.put, List.setIfInBounds_toArray, List.set_cons_zero, List.set_cons_succ])
  refine wpAnyH_take (i := 4) (oi := _) (v := ?_) (by simp only [List.getElem?_toArray, List.getElem?_cons_succ, List.getElem?_cons_zero]; rfl) (by kernel_rfl) (by kernel_rfl) (by kernel_rfl) (fun _ _ _ h => h) (Or.inl ⟨by rfl, ?_⟩) (by assumption) ?_
  rotate_left
  · (intro w hSw; (try dsimp only at hSw); go_simp; (try with_reducible rfl))
  (try simp only [Act.put, List.setIfInBounds_toArray, List.set_cons_zero, List.set_cons_succ])
  refine wpAnyH_take (i := 5) (oi := _) (v := ?_) (by simp only [List.getElem?_toArray, List.getElem?_cons_succ, List.getElem?_cons_zero]; rfl) (by kernel_rfl) (by kernel_rfl) (by kernel_rfl) (fun _ _ _ h => h) (Or.inl ⟨by rfl, ?_⟩) (by assumption) ?_
  rotate_left
  · (intro w hSw; (try dsimp only at hSw); go_simp; (try with_reducible rfl))
  (try simp only [Act.put, List.setIfInBounds_toArray, List.set_cons_zero, List.set_cons_succ])
  refine wpAnyH_take (i := 6) (oi := _) (v := ?_) (by simp only [List.getElem?_toArray, List.getElem?_cons_succ, List.getElem?_cons_zero]; rfl) (by kernel_rfl) (by kernel_rfl) (by kernel_rfl) (fun _ _ _ h => h) (Or.inl ⟨by rfl, ?_⟩) (by assumption) ?_
  rotate_left
  · (intro w hSw; (try dsimp only at hSw); go_simp; (try with_reducible rfl))
  (try simp only [Act.put, List.setIfInBounds_toArray, List.set_cons_zero, List.set_cons_succ])
  refine wpAnyH_take (i := 7) (oi := _) (v := ?_) (by simp only [List.getElem?_toArray, List.getElem?_cons_succ, List.getElem?_cons_zero]; rfl) (by kernel_rfl) (by kernel_rfl) (by kernel_rfl) (fun _ _ _ h => h) (Or.inl ⟨by rfl, ?_⟩) (by assumption) ?_
  rotate_left
  · (intro w hSw; (try dsimp only at hSw); go_simp; (try with_reducible rfl))
  (try simp only [Act.put, List.setIfInBounds_toArray, List.set_cons_zero, List.set_cons_succ])
  refine wpAnyH_take (i := 8) (oi := _) (v := ?_) (by simp only [List.getElem?_toArray, List.getElem?_cons_succ, List.getElem?_cons_zero]; rfl) (by kernel_rfl) (by kernel_rfl) (by kernel_rfl) (fun _ _ _ h => h) (Or.inl ⟨by rfl, ?_⟩) (by assumption) ?_
  rotate_left
  · (intro w hSw; (try dsimp only at hSw); go_simp; (try with_reducible rfl))
  (try simp only [Act.put, List.setIfInBounds_toArray, List.set_cons_zero, List.set_cons_succ])
  refine wpAnyH_take (i := 9) (oi := _) (v := ?_) (by simp only [List.getElem?_toArray, List.getElem?_cons_succ, List.getElem?_cons_zero]; rfl) (by kernel_rfl) (by kernel_rfl) (by kernel_rfl) (fun _ _ _ h => h) (Or.inl ⟨by rfl, ?_⟩) (by assumption) ?_
  rotate_left
  · (intro w hSw; (try dsimp only at hSw); go_simp; (try with_reducible rfl))
  (try simp only [Act.put, List.setIfInBounds_toArray, List.set_cons_zero, List.set_cons_succ])
  refine wpAnyH_take (i := 10) (oi := _) (v := ?_) (by simp only [List.getElem?_toArray, List.getElem?_cons_succ, List.getElem?_cons_zero]; rfl) (by kernel_rfl) (by kernel_rfl) (by kernel_rfl) (fun _ _ _ h => h) (Or.inl ⟨by rfl, ?_⟩) (by assumption) ?_
  rotate_left
  · (intro w hSw; (try dsimp only at hSw); go_simp; (try with_reducible rfl))
  (try simp only [Act.put, List.setIfInBounds_toArray, List.set_cons_zero, List.set_cons_succ])
  refine wpAnyH_take (i := 11) (oi := _) (v := ?_) (by simp only [List.getElem?_toArray, List.getElem?_cons_succ, List.getElem?_cons_zero]; rfl) (by kernel_rfl) (by kernel_rfl) (by kernel_rfl) (fun _ _ _ h => h) (Or.inl ⟨by rfl, ?_⟩) (by assumption) ?_
  rotate_left
  · (intro w hSw; (try dsimp only at hSw); go_simp; (try with_reducible rfl))
  (try simp only [Act.put, List.setIfInBounds_toArray, List.set_cons_zero, List.set_cons_succ])
  refine wpAnyH_ready (rs := [2]) (by kernel_rfl) (by simp) ?_
  refine AllReadyH.cons (o := _) (by simp only [List.getElem?_toArray, List.getElem?_cons_succ, List.getElem?_cons_zero]; rfl) (fun K hK => ?_) AllReadyH.nil
  go_simp
  refine (HN.out _ (by first | exact hHeld.1 | exact hH9.1)).mono ?_
  rintro e w7 ⟨rfl, rfl⟩
  (try go_wp2_with fail)
  refine hK.out _ _ (by first | exact hHeld | exact hH9) (fun hHeld => ?_)
  clear hK K
  (try simp only [Act.put, List.setIfInBounds_toArray, List.set_cons_zero, List.set_cons_succ])
  refine wpAnyH_take (i := 12) (oi := _) (v := ?_) (by simp only [List.getElem?_toArray, List.getElem?_cons_succ, List.getElem?_cons_zero]; rfl) (by kernel_rfl) (by kernel_rfl) (by kernel_rfl) (fun _ _ _ h => h) (Or.inl ⟨by rfl, ?_⟩) (by assumption) ?_
  rotate_left
  · (intro w hSw; (try dsimp only at hSw); go_simp; (try with_reducible rfl))
  (try simp only [Act.put, List.setIfInBounds_toArray, List.set_cons_zero, List.set_cons_succ])
  refine wpAnyH_ready (rs := [13]) (by kernel_rfl) (by simp) ?_
  refine AllReadyH.cons (o := _) (by simp only [List.getElem?_toArray, List.getElem?_cons_succ, List.getElem?_cons_zero]; rfl) (fun K hK => ?_) AllReadyH.nil
  go_simp
  refine hK.out _ _ (KA.out _ hHeld) (fun hHeld => ?_)
  clear hK K
  (try simp only [Act.put, List.setIfInBounds_toArray, List.set_cons_zero, List.set_cons_succ])
  refine wpAnyH_ready (rs := [14]) (by kernel_rfl) (by simp) ?_
  refine AllReadyH.cons (o := _) (by simp only [List.getElem?_toArray, List.getElem?_cons_succ, List.getElem?_cons_zero]; rfl) (fun K hK => ?_) AllReadyH.nil
  refine step_app _ (by rfl) E40 (.tmp 69) (.tmp 82) (by rfl) ROWD.out SRC.out 1 (by simp [Act.eval, Act.put]) (by simp [Act.eval, Act.put]) (by simp [Value.oneCell']) (by unfold maxLen; omega) (by omega) ?_
  intro A7 c7 w7 hr7 hg7 hl7
  have G7 := Lib.hid (Holds.grew' HW.out SW.out hr7 hg7 (by rcases hl7 with h | h; exact .inl h; exact .inr ⟨_, h, Nat.le_refl _⟩))
  have Z7 := Lib.hid (ZD.out.grown hg7 NB.out)
  refine hK.out _ _ ⟨Z7.out, Z7.out.cell 3, Z7.out.cell 4⟩ (fun hHeld => ?_)
  clear hK K hr7 hg7 hl7
  (try simp only [Act.put, List.setIfInBounds_toArray, List.set_cons_zero, List.set_cons_succ])
  refine wpAnyH_take (i := 15) (oi := _) (v := ?_) (by simp only [List.getElem?_toArray, List.getElem?_cons_succ, List.getElem?_cons_zero]; rfl) (by kernel_rfl) (by kernel_rfl) (by kernel_rfl) (fun _ _ _ h => h) (Or.inl ⟨by rfl, ?_⟩) (by assumption) ?_
  rotate_left
  · (intro w hSw; (try dsimp only at hSw); go_simp; (try with_reducible rfl))
  (try simp only [Act.put, List.setIfInBounds_toArray, List.set_cons_zero, List.set_cons_succ])
  refine wpAnyH_done (by kernel_rfl) ?_ _
  refine NoPanic.normal ?_
  clear hH9 y4 y10 z9 z10 f9 f10
  go_wp2_with fail
  go_ret
  exact ⟨_, _, _, ({ S with kept := true, keptAt := now } : CS), rfl, ⟨AL.out.id, AL.out.n, AL.out.life, AL.out.session, AL.out.seq, AL.out.had, AL.out.til, AL.out.L, AL.out.op⟩, G7.out.drop⟩
theorem tick1_send_first (h : Holds B w0 w (star (cliP b S) Q)) (hQ : Stable Q) (hid : 0 ≤ S.id ∧ S.id < 8) (hn : S.n = 3) (o : Oc) (ho : S.op = some o) (hr : 30 ≤ wrap64 (now - o.sent)) (hs : 0 < S.session) (hk : S.kept = false) :
    Calls Try.prog 16 #[.pointer (some ⟨b, 0, none⟩), .int .i64 now] w (TickPost B w0 b S Q) := by
  have hu := Try.underlying62
  have hu2 := Try.underlying40
  have hu3 := Try.underlying66
  have QQ := Lib.hid hQ
  have HH := Lib.hid h
  have HI := Lib.hid hid
  have D1 := decide_eq_true hs
  have hkb := Lib.hid hk
  obtain ⟨ob, A0, c0, Z0, O0⟩ := x_open1 h ho
  have z7 := Z0.cell 7
  have o6 := O0.cell 6
  have DR := decide_eq_true hr
  have z1 : w.cell? ⟨b, 1, none⟩ = some (.int .i64 3) := by rw [Z0.cell 1]; show some (Value.int .i64 S.n) = _; rw [hn]
  have z3 := Z0.cell 3
  obtain ⟨⟨v3, t3⟩, f3, G1⟩ := x_cell (g := 0) h hQ (i := 3) (.int .i64 (((wrap64 (S.server + 1)).tmod 3))) ({ S with server := ((wrap64 (S.server + 1)).tmod 3) } : CS) (by omega) rfl rfl (fun p A c => rfl)
  have G1' : Holds B w0 (w.setCell ⟨b, 3, none⟩ (.int .i64 (((wrap64 (S.server + 1)).tmod 3)))) (star (cliP b (({ S with server := ((wrap64 (S.server + 1)).tmod 3) } : CS).withOp (some o))) Q) := by
    have e : ({ S with server := ((wrap64 (S.server + 1)).tmod 3) } : CS).withOp (some o) = { S with server := ((wrap64 (S.server + 1)).tmod 3) } := by unfold CS.withOp; rw [← ho]
    rw [e]; exact G1
  have HSEND := Lib.hid (fun (X : World) (hX : Keep Nothing _ X) => x_send (G1'.kept ((cliP_stable _ _).star QQ.out) hX) QQ.out HI.out now)
  have HO := Lib.hid ho
  clear h hQ hid ho hn hr Z0 O0 G1 G1' hs hk
  go_enter Try.func16, Try.ntmps16
  go_wp2_with fail
  go_region
  all_goals
    go_wp2_with fail
    refine (HSEND.out _ (by repeat (first | with_reducible (exact Keep.same _ _) | with_reducible (apply Keep.drew) | with_reducible (apply Keep.alloc)))).mono ?_
    rintro e w9 ⟨g, rfl, h9⟩
    have H2 := Lib.hid (show Holds B w0 w9 (star (rowP 40 20 (.slice (some ⟨g, 0, none⟩) 1 1) 1 (askCs ({ S with server := ((wrap64 (S.server + 1)).tmod 3) } : CS) o).toList) (star (cliP b (({ S with server := ((wrap64 (S.server + 1)).tmod 3), op := some ⟨o.cmd, o.first, now⟩ } : CS))) Q)) from h9)
    have AL := Lib.hid (show Alike S (({ S with server := ((wrap64 (S.server + 1)).tmod 3), op := some ⟨o.cmd, o.first, now⟩ } : CS)) from ⟨rfl, rfl, rfl, rfl, rfl, rfl, rfl, rfl, ⟨fun h => by (rw [HO.out] at h; cases h), fun o' h => by (rw [HO.out] at h; injection h with h; subst h; exact ⟨now, rfl⟩)⟩⟩)
    clear h9 z7 o6 z1 z3 t3 f3
    obtain ⟨p8, A8, c8, Z8⟩ := x_blk (show Holds B w0 w9 (star (cliP b ({ S with server := ((wrap64 (S.server + 1)).tmod 3), op := some ⟨o.cmd, o.first, now⟩ } : CS)) (star (rowP 40 20 (.slice (some ⟨g, 0, none⟩) 1 1) 1 (askCs ({ S with server := ((wrap64 (S.server + 1)).tmod 3) } : CS) o).toList) Q)) from Holds.flip H2.out)
    have y4 := Z8.cell 4
    have zk : w9.cell? ⟨b, 9, none⟩ = some (.bool false) := by rw [Z8.cell 9]; show some (Value.bool S.kept) = _; rw [hkb.out]
    have y10 := Z8.cell 10
    have G3 := x_cell (g := 0) (show Holds B w0 w9 (star (cliP b ({ S with server := ((wrap64 (S.server + 1)).tmod 3), op := some ⟨o.cmd, o.first, now⟩ } : CS)) (star (rowP 40 20 (.slice (some ⟨g, 0, none⟩) 1 1) 1 (askCs ({ S with server := ((wrap64 (S.server + 1)).tmod 3) } : CS) o).toList) Q)) from Holds.flip H2.out) ((rowP_stable _ _ _ _ _).star QQ.out) (i := 9) (.bool true) (({ ({ S with server := ((wrap64 (S.server + 1)).tmod 3), op := some ⟨o.cmd, o.first, now⟩ } : CS) with kept := true } : CS)) (by omega) rfl rfl (fun p A c => rfl)
    obtain ⟨⟨v9, z9⟩, f9, G4⟩ := G3
    obtain ⟨⟨v10, z10⟩, f10, G5⟩ := x_cell (g := 0) G4 ((rowP_stable _ _ _ _ _).star QQ.out) (i := 10) (.int .i64 now) (({ ({ S with server := ((wrap64 (S.server + 1)).tmod 3), op := some ⟨o.cmd, o.first, now⟩ } : CS) with kept := true, keptAt := now } : CS)) (by omega) rfl rfl (fun p A c => rfl)
    have H5 := Lib.hid G5
    obtain ⟨p9, A9, c9, Z9⟩ := x_blk G5
    have HN := Lib.hid (fun w' (hb : Blk w' b 62 ((({ ({ S with server := ((wrap64 (S.server + 1)).tmod 3), op := some ⟨o.cmd, o.first, now⟩ } : CS) with kept := true, keptAt := now } : CS)).cs p9 A9 ({ S with server := ((wrap64 (S.server + 1)).tmod 3), op := some ⟨o.cmd, o.first, now⟩ } : CS).L.length c9)) => node22 w' b (({ ({ S with server := ((wrap64 (S.server + 1)).tmod 3), op := some ⟨o.cmd, o.first, now⟩ } : CS) with kept := true, keptAt := now } : CS)) p9 A9 ({ S with server := ((wrap64 (S.server + 1)).tmod 3), op := some ⟨o.cmd, o.first, now⟩ } : CS).L.length c9 hb HI.out)
    have hH9 : (fun w' => Blk w' b 62 ((({ ({ S with server := ((wrap64 (S.server + 1)).tmod 3), op := some ⟨o.cmd, o.first, now⟩ } : CS) with kept := true, keptAt := now } : CS)).cs p9 A9 ({ S with server := ((wrap64 (S.server + 1)).tmod 3), op := some ⟨o.cmd, o.first, now⟩ } : CS).L.length c9) ∧ w'.cell? ⟨b, 3, none⟩ = some (.int .i64 ({ S with server := ((wrap64 (S.server + 1)).tmod 3), op := some ⟨o.cmd, o.first, now⟩ } : CS).server) ∧ w'.cell? ⟨b, 4, none⟩ = some (.int .i64 ({ S with server := ((wrap64 (S.server + 1)).tmod 3), op := some ⟨o.cmd, o.first, now⟩ } : CS).session)) ((w9.setCell ⟨b, 9, none⟩ (.bool true)).setCell ⟨b, 10, none⟩ (.int .i64 now)) := ⟨Z9, Z9.cell 3, Z9.cell 4⟩
    dsimp only at hH9
    have RW := Lib.hid ((show Holds B w0 _ (star (rowP 40 20 (.slice (some ⟨g, 0, none⟩) 1 1) 1 (askCs ({ S with server := ((wrap64 (S.server + 1)).tmod 3) } : CS) o).toList) (star (cliP b (({ ({ S with server := ((wrap64 (S.server + 1)).tmod 3), op := some ⟨o.cmd, o.first, now⟩ } : CS) with kept := true, keptAt := now } : CS))) Q)) from Holds.flip G5).row)
    have NB := Lib.hid (show ((.slice (some ⟨g, 0, none⟩) 1 1) : Value).ownBlock ≠ some b from RW.out.apart Z9 (by decide))
    have ZZ := Lib.hid Z9
    clear G4 G5 Z9 Z8
    go_wp2_with fail
    have KSIZE : ((w9.setCell ⟨b, 9, none⟩ (.bool true)).setCell ⟨b, 10, none⟩ (.int .i64 now)).heap.size = w9.heap.size := by simp
    have SRC := Lib.hid (show U.Src ((((w9.setCell ⟨b, 9, none⟩ (.bool true)).setCell ⟨b, 10, none⟩ (.int .i64 now)).alloc (.cells #[.int .i64 13, .int .i64 (5 + S.id), .int .i64 ({ S with server := ((wrap64 (S.server + 1)).tmod 3), op := some ⟨o.cmd, o.first, now⟩ } : CS).server, .int .i64 0, .int .i64 0, .int .i64 now, .int .i64 ({ S with server := ((wrap64 (S.server + 1)).tmod 3), op := some ⟨o.cmd, o.first, now⟩ } : CS).session, .int .i64 0, .slice none 0 0, .int .i64 0, .int .i64 0, .int .i64 0, .string ⟨#[]⟩, .int .i64 0, .int .i64 0, .int .i64 0, .int .i64 0, .int .u64 0, .int .i64 0, .string ⟨#[]⟩] 40)).drew) (some ⟨w9.heap.size, 0, none⟩) 20 1 (#[.int .i64 13, .int .i64 (5 + S.id), .int .i64 ({ S with server := ((wrap64 (S.server + 1)).tmod 3), op := some ⟨o.cmd, o.first, now⟩ } : CS).server, .int .i64 0, .int .i64 0, .int .i64 now, .int .i64 ({ S with server := ((wrap64 (S.server + 1)).tmod 3), op := some ⟨o.cmd, o.first, now⟩ } : CS).session, .int .i64 0, .slice none 0 0, .int .i64 0, .int .i64 0, .int .i64 0, .string ⟨#[]⟩, .int .i64 0, .int .i64 0, .int .i64 0, .int .i64 0, .int .u64 0, .int .i64 0, .string ⟨#[]⟩]).toList from by
      have h := U.Src.fresh ((w9.setCell ⟨b, 9, none⟩ (.bool true)).setCell ⟨b, 10, none⟩ (.int .i64 now)) #[.int .i64 13, .int .i64 (5 + S.id), .int .i64 ({ S with server := ((wrap64 (S.server + 1)).tmod 3), op := some ⟨o.cmd, o.first, now⟩ } : CS).server, .int .i64 0, .int .i64 0, .int .i64 now, .int .i64 ({ S with server := ((wrap64 (S.server + 1)).tmod 3), op := some ⟨o.cmd, o.first, now⟩ } : CS).session, .int .i64 0, .slice none 0 0, .int .i64 0, .int .i64 0, .int .i64 0, .string ⟨#[]⟩, .int .i64 0, .int .i64 0, .int .i64 0, .int .i64 0, .int .u64 0, .int .i64 0, .string ⟨#[]⟩] 40 20 1 rfl
      rw [KSIZE] at h
      exact h)
    have ROWD := Lib.hid (RW.out.keep (((Keep.same Nothing ((w9.setCell ⟨b, 9, none⟩ (.bool true)).setCell ⟨b, 10, none⟩ (.int .i64 now))).alloc (.cells #[.int .i64 13, .int .i64 (5 + S.id), .int .i64 ({ S with server := ((wrap64 (S.server + 1)).tmod 3), op := some ⟨o.cmd, o.first, now⟩ } : CS).server, .int .i64 0, .int .i64 0, .int .i64 now, .int .i64 ({ S with server := ((wrap64 (S.server + 1)).tmod 3), op := some ⟨o.cmd, o.first, now⟩ } : CS).session, .int .i64 0, .slice none 0 0, .int .i64 0, .int .i64 0, .int .i64 0, .string ⟨#[]⟩, .int .i64 0, .int .i64 0, .int .i64 0, .int .i64 0, .int .u64 0, .int .i64 0, .string ⟨#[]⟩] 40)).drew) (fun _ _ h => h))
    have ZD := Lib.hid (ZZ.out.keep (((Keep.same Nothing ((w9.setCell ⟨b, 9, none⟩ (.bool true)).setCell ⟨b, 10, none⟩ (.int .i64 now))).alloc (.cells #[.int .i64 13, .int .i64 (5 + S.id), .int .i64 ({ S with server := ((wrap64 (S.server + 1)).tmod 3), op := some ⟨o.cmd, o.first, now⟩ } : CS).server, .int .i64 0, .int .i64 0, .int .i64 now, .int .i64 ({ S with server := ((wrap64 (S.server + 1)).tmod 3), op := some ⟨o.cmd, o.first, now⟩ } : CS).session, .int .i64 0, .slice none 0 0, .int .i64 0, .int .i64 0, .int .i64 0, .string ⟨#[]⟩, .int .i64 0, .int .i64 0, .int .i64 0, .int .i64 0, .int .u64 0, .int .i64 0, .string ⟨#[]⟩] 40)).drew) (fun h => h))
    have SW := Lib.hid ((cliP_stable b (({ ({ S with server := ((wrap64 (S.server + 1)).tmod 3), op := some ⟨o.cmd, o.first, now⟩ } : CS) with kept := true, keptAt := now } : CS))).star QQ.out)
    have HW := Lib.hid ((show Holds B w0 ((w9.setCell ⟨b, 9, none⟩ (.bool true)).setCell ⟨b, 10, none⟩ (.int .i64 now)) (star (rowP 40 20 (.slice (some ⟨g, 0, none⟩) 1 1) 1 (askCs ({ S with server := ((wrap64 (S.server + 1)).tmod 3) } : CS) o).toList) (star (cliP b (({ ({ S with server := ((wrap64 (S.server + 1)).tmod 3), op := some ⟨o.cmd, o.first, now⟩ } : CS) with kept := true, keptAt := now } : CS))) Q)) from Holds.flip H5.out).kept ((rowP_stable _ _ _ _ _).star SW.out) (((Keep.same Nothing ((w9.setCell ⟨b, 9, none⟩ (.bool true)).setCell ⟨b, 10, none⟩ (.int .i64 now))).alloc (.cells #[.int .i64 13, .int .i64 (5 + S.id), .int .i64 ({ S with server := ((wrap64 (S.server + 1)).tmod 3), op := some ⟨o.cmd, o.first, now⟩ } : CS).server, .int .i64 0, .int .i64 0, .int .i64 now, .int .i64 ({ S with server := ((wrap64 (S.server + 1)).tmod 3), op := some ⟨o.cmd, o.first, now⟩ } : CS).session, .int .i64 0, .slice none 0 0, .int .i64 0, .int .i64 0, .int .i64 0, .string ⟨#[]⟩, .int .i64 0, .int .i64 0, .int .i64 0, .int .i64 0, .int .u64 0, .int .i64 0, .string ⟨#[]⟩] 40)).drew))
    clear KSIZE
    have KA := Lib.hid (show ∀ w', (fun w' => Blk w' b 62 ((({ ({ S with server := ((wrap64 (S.server + 1)).tmod 3), op := some ⟨o.cmd, o.first, now⟩ } : CS) with kept := true, keptAt := now } : CS)).cs p9 A9 ({ S with server := ((wrap64 (S.server + 1)).tmod 3), op := some ⟨o.cmd, o.first, now⟩ } : CS).L.length c9) ∧ w'.cell? ⟨b, 3, none⟩ = some (.int .i64 ({ S with server := ((wrap64 (S.server + 1)).tmod 3), op := some ⟨o.cmd, o.first, now⟩ } : CS).server) ∧ w'.cell? ⟨b, 4, none⟩ = some (.int .i64 ({ S with server := ((wrap64 (S.server + 1)).tmod 3), op := some ⟨o.cmd, o.first, now⟩ } : CS).session)) w' → (fun w' => Blk w' b 62 ((({ ({ S with server := ((wrap64 (S.server + 1)).tmod 3), op := some ⟨o.cmd, o.first, now⟩ } : CS) with kept := true, keptAt := now } : CS)).cs p9 A9 ({ S with server := ((wrap64 (S.server + 1)).tmod 3), op := some ⟨o.cmd, o.first, now⟩ } : CS).L.length c9) ∧ w'.cell? ⟨b, 3, none⟩ = some (.int .i64 ({ S with server := ((wrap64 (S.server + 1)).tmod 3), op := some ⟨o.cmd, o.first, now⟩ } : CS).server) ∧ w'.cell? ⟨b, 4, none⟩ = some (.int .i64 ({ S with server := ((wrap64 (S.server + 1)).tmod 3), op := some ⟨o.cmd, o.first, now⟩ } : CS).session)) (w'.alloc (.cells #[.int .i64 13, .int .i64 (5 + S.id), .int .i64 ({ S with server := ((wrap64 (S.server + 1)).tmod 3), op := some ⟨o.cmd, o.first, now⟩ } : CS).server, .int .i64 0, .int .i64 0, .int .i64 now, .int .i64 ({ S with server := ((wrap64 (S.server + 1)).tmod 3), op := some ⟨o.cmd, o.first, now⟩ } : CS).session, .int .i64 0, .slice none 0 0, .int .i64 0, .int .i64 0, .int .i64 0, .string ⟨#[]⟩, .int .i64 0, .int .i64 0, .int .i64 0, .int .i64 0, .int .u64 0, .int .i64 0, .string ⟨#[]⟩] 40)) from fun w' h => ⟨h.1.alloc _, (h.1.alloc _).cell 3, (h.1.alloc _).cell 4⟩)
    refine wp_region_noPanic ?_
    refine wp_region_held_drew (S := (fun w' => Blk w' b 62 ((({ ({ S with server := ((wrap64 (S.server + 1)).tmod 3), op := some ⟨o.cmd, o.first, now⟩ } : CS) with kept := true, keptAt := now } : CS)).cs p9 A9 ({ S with server := ((wrap64 (S.server + 1)).tmod 3), op := some ⟨o.cmd, o.first, now⟩ } : CS).L.length c9) ∧ w'.cell? ⟨b, 3, none⟩ = some (.int .i64 ({ S with server := ((wrap64 (S.server + 1)).tmod 3), op := some ⟨o.cmd, o.first, now⟩ } : CS).server) ∧ w'.cell? ⟨b, 4, none⟩ = some (.int .i64 ({ S with server := ((wrap64 (S.server + 1)).tmod 3), op := some ⟨o.cmd, o.first, now⟩ } : CS).session))) (by kernel_rfl) hH9 (fun hHeld => ?_)
    refine wpAnyH_take (i := 0) (oi := _) (v := ?_) (by simp only [List.getElem?_toArray, List.getElem?_cons_succ, List.getElem?_cons_zero]; rfl) (by kernel_rfl) (by kernel_rfl) (by kernel_rfl) (fun _ _ _ h => h) (Or.inl ⟨by rfl, ?_⟩) (by assumption) ?_
    rotate_left
    · (intro w hSw; (try dsimp only at hSw); go_simp; (try with_reducible rfl))
    (try simp only [Act.put, List.setIfInBounds_toArray, List.set_cons_zero, List.set_cons_succ])
    refine wpAnyH_take (i := 1) (oi := _) (v := ?_) (by simp only [List.getElem?_toArray, List.getElem?_cons_succ, List.getElem?_cons_zero]; rfl) (by kernel_rfl) (by kernel_rfl) (by kernel_rfl) (fun _ _ _ h => h) (Or.inl ⟨by rfl, ?_⟩) (by assumption) ?_
    rotate_left
    · (intro w hSw; (try dsimp only at hSw); go_simp; (try with_reducible rfl))
    (try simp only [Act.put, List.setIfInBounds_toArray, List.set_cons_zero, List.set_cons_succ])
    refine wpAnyH_take (i := 3) (oi := _) (v := ?_) (by simp only [List.getElem?_toArray, List.getElem?_cons_succ, List.getElem?_cons_zero]; rfl) (by kernel_rfl) (by kernel_rfl) (by kernel_rfl) (fun _ _ _ h => h) (Or.inl ⟨by rfl, ?_⟩) (by assumption) ?_
    rotate_left
    · (intro w hSw; (try dsimp only at hSw); go_simp; (try with_reducible rfl))
    (try simp only [Act.put, List.setIfInBounds_toArray, List.set_cons_zero, List.set_cons_succ])
    refine wpAnyH_take (i := 4) (oi := _) (v := ?_) (by simp only [List.getElem?_toArray, List.getElem?_cons_succ, List.getElem?_cons_zero]; rfl) (by kernel_rfl) (by kernel_rfl) (by kernel_rfl) (fun _ _ _ h => h) (Or.inl ⟨by rfl, ?_⟩) (by assumption) ?_
    rotate_left
    · (intro w hSw; (try dsimp only at hSw); go_simp; (try with_reducible rfl))
    (try simp only [Act.put, List.setIfInBounds_toArray, List.set_cons_zero, List.set_cons_succ])
    refine wpAnyH_take (i := 5) (oi := _) (v := ?_) (by simp only [List.getElem?_toArray, List.getElem?_cons_succ, List.getElem?_cons_zero]; rfl) (by kernel_rfl) (by kernel_rfl) (by kernel_rfl) (fun _ _ _ h => h) (Or.inl ⟨by rfl, ?_⟩) (by assumption) ?_
    rotate_left
    · (intro w hSw; (try dsimp only at hSw); go_simp; (try with_reducible rfl))
    (try simp only [Act.put, List.setIfInBounds_toArray, List.set_cons_zero, List.set_cons_succ])
    refine wpAnyH_take (i := 6) (oi := _) (v := ?_) (by simp only [List.getElem?_toArray, List.getElem?_cons_succ, List.getElem?_cons_zero]; rfl) (by kernel_rfl) (by kernel_rfl) (by kernel_rfl) (fun _ _ _ h => h) (Or.inl ⟨by rfl, ?_⟩) (by assumption) ?_
    rotate_left
    · (intro w hSw; (try dsimp only at hSw); go_simp; (try with_reducible rfl))
    (try simp only [Act.put, List.setIfInBounds_toArray, List.set_cons_zero, List.set_cons_succ])
    refine wpAnyH_take (i := 7) (oi := _) (v := ?_) (by simp only [List.getElem?_toArray, List.getElem?_cons_succ, List.getElem?_cons_zero]; rfl) (by kernel_rfl) (by kernel_rfl) (by kernel_rfl) (fun _ _ _ h => h) (Or.inl ⟨by rfl, ?_⟩) (by assumption) ?_
    rotate_left
    · (intro w hSw; (try dsimp only at hSw); go_simp; (try with_reducible rfl))
    (try simp only [Act.put, List.setIfInBounds_toArray, List.set_cons_zero, List.set_cons_succ])
    refine wpAnyH_take (i := 8) (oi := _) (v := ?_) (by simp only [List.getElem?_toArray, List.getElem?_cons_succ, List.getElem?_cons_zero]; rfl) (by kernel_rfl) (by kernel_rfl) (by kernel_rfl) (fun _ _ _ h => h) (Or.inl ⟨by rfl, ?_⟩) (by assumption) ?_
    rotate_left
    · (intro w hSw; (try dsimp only at hSw); go_simp; (try with_reducible rfl))
    (try simp only [Act.put, List.setIfInBounds_toArray, List.set_cons_zero, List.set_cons_succ])
    refine wpAnyH_take (i := 9) (oi := _) (v := ?_) (by simp only [List.getElem?_toArray, List.getElem?_cons_succ, List.getElem?_cons_zero]; rfl) (by kernel_rfl) (by kernel_rfl) (by kernel_rfl) (fun _ _ _ h => h) (Or.inl ⟨by rfl, ?_⟩) (by assumption) ?_
    rotate_left
    · (intro w hSw; (try dsimp only at hSw); go_simp; (try with_reducible rfl))
    (try simp only [Act.put, List.setIfInBounds_toArray, List.set_cons_zero, List.set_cons_succ])
    refine wpAnyH_take (i := 10) (oi := _) (v := ?_) (by simp only [List.getElem?_toArray, List.getElem?_cons_succ, List.getElem?_cons_zero]; rfl) (by kernel_rfl) (by kernel_rfl) (by kernel_rfl) (fun _ _ _ h => h) (Or.inl ⟨by rfl, ?_⟩) (by assumption) ?_
    rotate_left
    · (intro w hSw; (try dsimp only at hSw); go_simp; (try with_reducible rfl))
    (try simp only [Act.put, List.setIfInBounds_toArray, List.set_cons_zero, List.set_cons_succ])
    refine wpAnyH_take (i := 11) (oi := _) (v := ?_) (by simp only [List.getElem?_toArray, List.getElem?_cons_succ, List.getElem?_cons_zero]; rfl) (by kernel_rfl) (by kernel_rfl) (by kernel_rfl) (fun _ _ _ h => h) (Or.inl ⟨by rfl, ?_⟩) (by assumption) ?_
    rotate_left
    · (intro w hSw; (try dsimp only at hSw); go_simp; (try with_reducible rfl))
    (try simp only [Act.put, List.setIfInBounds_toArray, List.set_cons_zero, List.set_cons_succ])
    refine wpAnyH_ready (rs := [2]) (by kernel_rfl) (by simp) ?_
    refine AllReadyH.cons (o := _) (by simp only [List.getElem?_toArray, List.getElem?_cons_succ, List.getElem?_cons_zero]; rfl) (fun K hK => ?_) AllReadyH.nil
    go_simp
    refine (HN.out _ (by first | exact hHeld.1 | exact hH9.1)).mono ?_
    rintro e w7 ⟨rfl, rfl⟩
    (try go_wp2_with fail)
    refine hK.out _ _ (by first | exact hHeld | exact hH9) (fun hHeld => ?_)
    clear hK K
    (try simp only [Act.put, List.setIfInBounds_toArray, List.set_cons_zero, List.set_cons_succ])
    refine wpAnyH_take (i := 12) (oi := _) (v := ?_) (by simp only [List.getElem?_toArray, List.getElem?_cons_succ, List.getElem?_cons_zero]; rfl) (by kernel_rfl) (by kernel_rfl) (by kernel_rfl) (fun _ _ _ h => h) (Or.inl ⟨by rfl, ?_⟩) (by assumption) ?_
    rotate_left
    · (intro w hSw; (try dsimp only at hSw); go_simp; (try with_reducible rfl))
    (try simp only [Act.put, List.setIfInBounds_toArray, List.set_cons_zero, List.set_cons_succ])
    refine wpAnyH_ready (rs := [13]) (by kernel_rfl) (by simp) ?_
    refine AllReadyH.cons (o := _) (by simp only [List.getElem?_toArray, List.getElem?_cons_succ, List.getElem?_cons_zero]; rfl) (fun K hK => ?_) AllReadyH.nil
    go_simp
    refine hK.out _ _ (KA.out _ hHeld) (fun hHeld => ?_)
    clear hK K
    (try simp only [Act.put, List.setIfInBounds_toArray, List.set_cons_zero, List.set_cons_succ])
    refine wpAnyH_ready (rs := [14]) (by kernel_rfl) (by simp) ?_
    refine AllReadyH.cons (o := _) (by simp only [List.getElem?_toArray, List.getElem?_cons_succ, List.getElem?_cons_zero]; rfl) (fun K hK => ?_) AllReadyH.nil
    refine step_app _ (by rfl) E40 (.tmp 69) (.tmp 82) (by rfl) ROWD.out SRC.out 1 (by simp [Act.eval, Act.put]) (by simp [Act.eval, Act.put]) (by simp [Value.oneCell']) (by unfold maxLen; omega) (by omega) ?_
    intro A7 c7 w7 hr7 hg7 hl7
    have G7 := Lib.hid (Holds.grew' HW.out SW.out hr7 hg7 (by rcases hl7 with h | h; exact .inl h; exact .inr ⟨_, h, Nat.le_refl _⟩))
    have Z7 := Lib.hid (ZD.out.grown hg7 NB.out)
    refine hK.out _ _ ⟨Z7.out, Z7.out.cell 3, Z7.out.cell 4⟩ (fun hHeld => ?_)
    clear hK K hr7 hg7 hl7
    (try simp only [Act.put, List.setIfInBounds_toArray, List.set_cons_zero, List.set_cons_succ])
    refine wpAnyH_take (i := 15) (oi := _) (v := ?_) (by simp only [List.getElem?_toArray, List.getElem?_cons_succ, List.getElem?_cons_zero]; rfl) (by kernel_rfl) (by kernel_rfl) (by kernel_rfl) (fun _ _ _ h => h) (Or.inl ⟨by rfl, ?_⟩) (by assumption) ?_
    rotate_left
    · (intro w hSw; (try dsimp only at hSw); go_simp; (try with_reducible rfl))
    (try simp only [Act.put, List.setIfInBounds_toArray, List.set_cons_zero, List.set_cons_succ])
    refine wpAnyH_done (by kernel_rfl) ?_ _
    refine NoPanic.normal ?_
    clear hH9 y4 y10 z9 z10 f9 f10
    go_wp2_with fail
    go_ret
    exact ⟨_, _, _, ({ ({ S with server := ((wrap64 (S.server + 1)).tmod 3), op := some ⟨o.cmd, o.first, now⟩ } : CS) with kept := true, keptAt := now } : CS), rfl, ⟨AL.out.id, AL.out.n, AL.out.life, AL.out.session, AL.out.seq, AL.out.had, AL.out.til, AL.out.L, AL.out.op⟩, G7.out.drop⟩
theorem tick1_wait_on (h : Holds B w0 w (star (cliP b S) Q)) (hQ : Stable Q) (hid : 0 ≤ S.id ∧ S.id < 8) (hn : S.n = 3) (o : Oc) (ho : S.op = some o) (hr : ¬ 30 ≤ wrap64 (now - o.sent)) (hs : 0 < S.session) (hk : S.kept = true) (ht : 100 ≤ wrap64 (now - S.keptAt)) :
    Calls Try.prog 16 #[.pointer (some ⟨b, 0, none⟩), .int .i64 now] w (TickPost B w0 b S Q) := by
  have hu := Try.underlying62
  have hu2 := Try.underlying40
  have hu3 := Try.underlying66
  have QQ := Lib.hid hQ
  have HH := Lib.hid h
  have HI := Lib.hid hid
  have D1 := decide_eq_true hs
  have D2 := decide_eq_true ht
  have hkb := Lib.hid hk
  obtain ⟨ob, A0, c0, Z0, O0⟩ := x_open1 h ho
  have z7 := Z0.cell 7
  have o6 := O0.cell 6
  have DR := decide_eq_false hr
  have H2 := Lib.hid (h.newRow ((cliP_stable _ _).star hQ) (Row.nil _ 40 20) (Keep.same _ _) (fun k hk => by simp [Value.ownBlock] at hk))
  have AL := Lib.hid (show Alike S S from ⟨rfl, rfl, rfl, rfl, rfl, rfl, rfl, rfl, fun h => h, fun o h => ⟨o.sent, h⟩⟩)
  have zk : w.cell? ⟨b, 9, none⟩ = some (.bool true) := by rw [Z0.cell 9]; show some (Value.bool S.kept) = _; rw [hk]
  clear h hQ hid ho hn hr Z0 O0 hs hk ht
  go_enter Try.func16, Try.ntmps16
  obtain ⟨p8, A8, c8, Z8⟩ := x_blk (show Holds B w0 w (star (cliP b S) (star (rowP 40 20 (.slice none 0 0) 0 []) Q)) from Holds.flip H2.out)
  have y4 := Z8.cell 4
  have y10 := Z8.cell 10
  have G3 := x_cell (g := 0) (show Holds B w0 w (star (cliP b S) (star (rowP 40 20 (.slice none 0 0) 0 []) Q)) from Holds.flip H2.out) ((rowP_stable _ _ _ _ _).star QQ.out) (i := 9) (.bool true) (({ S with kept := true } : CS)) (by omega) rfl rfl (fun p A c => rfl)
  obtain ⟨⟨v9, z9⟩, f9, G4⟩ := G3
  obtain ⟨⟨v10, z10⟩, f10, G5⟩ := x_cell (g := 0) G4 ((rowP_stable _ _ _ _ _).star QQ.out) (i := 10) (.int .i64 now) (({ S with kept := true, keptAt := now } : CS)) (by omega) rfl rfl (fun p A c => rfl)
  have H5 := Lib.hid G5
  obtain ⟨p9, A9, c9, Z9⟩ := x_blk G5
  have HN := Lib.hid (fun w' (hb : Blk w' b 62 ((({ S with kept := true, keptAt := now } : CS)).cs p9 A9 S.L.length c9)) => node22 w' b (({ S with kept := true, keptAt := now } : CS)) p9 A9 S.L.length c9 hb HI.out)
  have hH9 : (fun w' => Blk w' b 62 ((({ S with kept := true, keptAt := now } : CS)).cs p9 A9 S.L.length c9) ∧ w'.cell? ⟨b, 3, none⟩ = some (.int .i64 S.server) ∧ w'.cell? ⟨b, 4, none⟩ = some (.int .i64 S.session)) ((w.setCell ⟨b, 9, none⟩ (.bool true)).setCell ⟨b, 10, none⟩ (.int .i64 now)) := ⟨Z9, Z9.cell 3, Z9.cell 4⟩
  dsimp only at hH9
  have RW := Lib.hid ((show Holds B w0 _ (star (rowP 40 20 (.slice none 0 0) 0 []) (star (cliP b (({ S with kept := true, keptAt := now } : CS))) Q)) from Holds.flip G5).row)
  have NB := Lib.hid (show ((.slice none 0 0) : Value).ownBlock ≠ some b from RW.out.apart Z9 (by decide))
  have ZZ := Lib.hid Z9
  clear G4 G5 Z9 Z8
  go_wp2_with fail
  have KSIZE : ((w.setCell ⟨b, 9, none⟩ (.bool true)).setCell ⟨b, 10, none⟩ (.int .i64 now)).heap.size = w.heap.size := by simp
  have SRC := Lib.hid (show U.Src ((((w.setCell ⟨b, 9, none⟩ (.bool true)).setCell ⟨b, 10, none⟩ (.int .i64 now)).alloc (.cells #[.int .i64 13, .int .i64 (5 + S.id), .int .i64 S.server, .int .i64 0, .int .i64 0, .int .i64 now, .int .i64 S.session, .int .i64 0, .slice none 0 0, .int .i64 0, .int .i64 0, .int .i64 0, .string ⟨#[]⟩, .int .i64 0, .int .i64 0, .int .i64 0, .int .i64 0, .int .u64 0, .int .i64 0, .string ⟨#[]⟩] 40)).drew) (some ⟨w.heap.size, 0, none⟩) 20 1 (#[.int .i64 13, .int .i64 (5 + S.id), .int .i64 S.server, .int .i64 0, .int .i64 0, .int .i64 now, .int .i64 S.session, .int .i64 0, .slice none 0 0, .int .i64 0, .int .i64 0, .int .i64 0, .string ⟨#[]⟩, .int .i64 0, .int .i64 0, .int .i64 0, .int .i64 0, .int .u64 0, .int .i64 0, .string ⟨#[]⟩]).toList from by
    have h := U.Src.fresh ((w.setCell ⟨b, 9, none⟩ (.bool true)).setCell ⟨b, 10, none⟩ (.int .i64 now)) #[.int .i64 13, .int .i64 (5 + S.id), .int .i64 S.server, .int .i64 0, .int .i64 0, .int .i64 now, .int .i64 S.session, .int .i64 0, .slice none 0 0, .int .i64 0, .int .i64 0, .int .i64 0, .string ⟨#[]⟩, .int .i64 0, .int .i64 0, .int .i64 0, .int .i64 0, .int .u64 0, .int .i64 0, .string ⟨#[]⟩] 40 20 1 rfl
    rw [KSIZE] at h
    exact h)
  have ROWD := Lib.hid (RW.out.keep (((Keep.same Nothing ((w.setCell ⟨b, 9, none⟩ (.bool true)).setCell ⟨b, 10, none⟩ (.int .i64 now))).alloc (.cells #[.int .i64 13, .int .i64 (5 + S.id), .int .i64 S.server, .int .i64 0, .int .i64 0, .int .i64 now, .int .i64 S.session, .int .i64 0, .slice none 0 0, .int .i64 0, .int .i64 0, .int .i64 0, .string ⟨#[]⟩, .int .i64 0, .int .i64 0, .int .i64 0, .int .i64 0, .int .u64 0, .int .i64 0, .string ⟨#[]⟩] 40)).drew) (fun _ _ h => h))
  have ZD := Lib.hid (ZZ.out.keep (((Keep.same Nothing ((w.setCell ⟨b, 9, none⟩ (.bool true)).setCell ⟨b, 10, none⟩ (.int .i64 now))).alloc (.cells #[.int .i64 13, .int .i64 (5 + S.id), .int .i64 S.server, .int .i64 0, .int .i64 0, .int .i64 now, .int .i64 S.session, .int .i64 0, .slice none 0 0, .int .i64 0, .int .i64 0, .int .i64 0, .string ⟨#[]⟩, .int .i64 0, .int .i64 0, .int .i64 0, .int .i64 0, .int .u64 0, .int .i64 0, .string ⟨#[]⟩] 40)).drew) (fun h => h))
  have SW := Lib.hid ((cliP_stable b (({ S with kept := true, keptAt := now } : CS))).star QQ.out)
  have HW := Lib.hid ((show Holds B w0 ((w.setCell ⟨b, 9, none⟩ (.bool true)).setCell ⟨b, 10, none⟩ (.int .i64 now)) (star (rowP 40 20 (.slice none 0 0) 0 []) (star (cliP b (({ S with kept := true, keptAt := now } : CS))) Q)) from Holds.flip H5.out).kept ((rowP_stable _ _ _ _ _).star SW.out) (((Keep.same Nothing ((w.setCell ⟨b, 9, none⟩ (.bool true)).setCell ⟨b, 10, none⟩ (.int .i64 now))).alloc (.cells #[.int .i64 13, .int .i64 (5 + S.id), .int .i64 S.server, .int .i64 0, .int .i64 0, .int .i64 now, .int .i64 S.session, .int .i64 0, .slice none 0 0, .int .i64 0, .int .i64 0, .int .i64 0, .string ⟨#[]⟩, .int .i64 0, .int .i64 0, .int .i64 0, .int .i64 0, .int .u64 0, .int .i64 0, .string ⟨#[]⟩] 40)).drew))
  clear KSIZE
  have KA := Lib.hid (show ∀ w', (fun w' => Blk w' b 62 ((({ S with kept := true, keptAt := now } : CS)).cs p9 A9 S.L.length c9) ∧ w'.cell? ⟨b, 3, none⟩ = some (.int .i64 S.server) ∧ w'.cell? ⟨b, 4, none⟩ = some (.int .i64 S.session)) w' → (fun w' => Blk w' b 62 ((({ S with kept := true, keptAt := now } : CS)).cs p9 A9 S.L.length c9) ∧ w'.cell? ⟨b, 3, none⟩ = some (.int .i64 S.server) ∧ w'.cell? ⟨b, 4, none⟩ = some (.int .i64 S.session)) (w'.alloc (.cells #[.int .i64 13, .int .i64 (5 + S.id), .int .i64 S.server, .int .i64 0, .int .i64 0, .int .i64 now, .int .i64 S.session, .int .i64 0, .slice none 0 0, .int .i64 0, .int .i64 0, .int .i64 0, .string ⟨#[]⟩, .int .i64 0, .int .i64 0, .int .i64 0, .int .i64 0, .int .u64 0, .int .i64 0, .string ⟨#[]⟩] 40)) from fun w' h => ⟨h.1.alloc _, (h.1.alloc _).cell 3, (h.1.alloc _).cell 4⟩)
  refine wp_region_noPanic ?_
  refine wp_region_held_drew (S := (fun w' => Blk w' b 62 ((({ S with kept := true, keptAt := now } : CS)).cs p9 A9 S.L.length c9) ∧ w'.cell? ⟨b, 3, none⟩ = some (.int .i64 S.server) ∧ w'.cell? ⟨b, 4, none⟩ = some (.int .i64 S.session))) (by kernel_rfl) hH9 (fun hHeld => ?_)
  refine wpAnyH_take (i := 0) (oi := _) (v := ?_) (by simp only [List.getElem?_toArray, List.getElem?_cons_succ, List.getElem?_cons_zero]; rfl) (by kernel_rfl) (by kernel_rfl) (by kernel_rfl) (fun _ _ _ h => h) (Or.inl ⟨by rfl, ?_⟩) (by assumption) ?_
  rotate_left
  · (intro w hSw; (try dsimp only at hSw); go_simp; (try with_reducible rfl))
  (try simp only [Act.put, List.setIfInBounds_toArray, List.set_cons_zero, List.set_cons_succ])
  refine wpAnyH_take (i := 1) (oi := _) (v := ?_) (by simp only [List.getElem?_toArray, List.getElem?_cons_succ, List.getElem?_cons_zero]; rfl) (by kernel_rfl) (by kernel_rfl) (by kernel_rfl) (fun _ _ _ h => h) (Or.inl ⟨by rfl, ?_⟩) (by assumption) ?_
  rotate_left
  · (intro w hSw; (try dsimp only at hSw); go_simp; (try with_reducible rfl))
  (try simp only [Act.put, List.setIfInBounds_toArray, List.set_cons_zero, List.set_cons_succ])
  refine wpAnyH_take (i := 3) (oi := _) (v := ?_) (by simp only [List.getElem?_toArray, List.getElem?_cons_succ, List.getElem?_cons_zero]; rfl) (by kernel_rfl) (by kernel_rfl) (by kernel_rfl) (fun _ _ _ h => h) (Or.inl ⟨by rfl, ?_⟩) (by assumption) ?_
  rotate_left
  · (intro w hSw; (try dsimp only at hSw); go_simp; (try with_reducible rfl))
  (try simp only [Act.put, List.setIfInBounds_toArray, List.set_cons_zero, List.set_cons_succ])
  refine wpAnyH_take (i := 4) (oi := _) (v := ?_) (by simp only [List.getElem?_toArray, List.getElem?_cons_succ, List.getElem?_cons_zero]; rfl) (by kernel_rfl) (by kernel_rfl) (by kernel_rfl) (fun _ _ _ h => h) (Or.inl ⟨by rfl, ?_⟩) (by assumption) ?_
  rotate_left
  · (intro w hSw; (try dsimp only at hSw); go_simp; (try with_reducible rfl))
  (try simp only [Act.put, List.setIfInBounds_toArray, List.set_cons_zero, List.set_cons_succ])
  refine wpAnyH_take (i := 5) (oi := _) (v := ?_) (by simp only [List.getElem?_toArray, List.getElem?_cons_succ, List.getElem?_cons_zero]; rfl) (by kernel_rfl) (by kernel_rfl) (by kernel_rfl) (fun _ _ _ h => h) (Or.inl ⟨by rfl, ?_⟩) (by assumption) ?_
  rotate_left
  · (intro w hSw; (try dsimp only at hSw); go_simp; (try with_reducible rfl))
  (try simp only [Act.put, List.setIfInBounds_toArray, List.set_cons_zero, List.set_cons_succ])
  refine wpAnyH_take (i := 6) (oi := _) (v := ?_) (by simp only [List.getElem?_toArray, List.getElem?_cons_succ, List.getElem?_cons_zero]; rfl) (by kernel_rfl) (by kernel_rfl) (by kernel_rfl) (fun _ _ _ h => h) (Or.inl ⟨by rfl, ?_⟩) (by assumption) ?_
  rotate_left
  · (intro w hSw; (try dsimp only at hSw); go_simp; (try with_reducible rfl))
  (try simp only [Act.put, List.setIfInBounds_toArray, List.set_cons_zero, List.set_cons_succ])
  refine wpAnyH_take (i := 7) (oi := _) (v := ?_) (by simp only [List.getElem?_toArray, List.getElem?_cons_succ, List.getElem?_cons_zero]; rfl) (by kernel_rfl) (by kernel_rfl) (by kernel_rfl) (fun _ _ _ h => h) (Or.inl ⟨by rfl, ?_⟩) (by assumption) ?_
  rotate_left
  · (intro w hSw; (try dsimp only at hSw); go_simp; (try with_reducible rfl))
  (try simp only [Act.put, List.setIfInBounds_toArray, List.set_cons_zero, List.set_cons_succ])
  refine wpAnyH_take (i := 8) (oi := _) (v := ?_) (by simp only [List.getElem?_toArray, List.getElem?_cons_succ, List.getElem?_cons_zero]; rfl) (by kernel_rfl) (by kernel_rfl) (by kernel_rfl) (fun _ _ _ h => h) (Or.inl ⟨by rfl, ?_⟩) (by assumption) ?_
  rotate_left
  · (intro w hSw; (try dsimp only at hSw); go_simp; (try with_reducible rfl))
  (try simp only [Act.put, List.setIfInBounds_toArray, List.set_cons_zero, List.set_cons_succ])
  refine wpAnyH_take (i := 9) (oi := _) (v := ?_) (by simp only [List.getElem?_toArray, List.getElem?_cons_succ, List.getElem?_cons_zero]; rfl) (by kernel_rfl) (by kernel_rfl) (by kernel_rfl) (fun _ _ _ h => h) (Or.inl ⟨by rfl, ?_⟩) (by assumption) ?_
  rotate_left
  · (intro w hSw; (try dsimp only at hSw); go_simp; (try with_reducible rfl))
  (try simp only [Act.put, List.setIfInBounds_toArray, List.set_cons_zero, List.set_cons_succ])
  refine wpAnyH_take (i := 10) (oi := _) (v := ?_) (by simp only [List.getElem?_toArray, List.getElem?_cons_succ, List.getElem?_cons_zero]; rfl) (by kernel_rfl) (by kernel_rfl) (by kernel_rfl) (fun _ _ _ h => h) (Or.inl ⟨by rfl, ?_⟩) (by assumption) ?_
  rotate_left
  · (intro w hSw; (try dsimp only at hSw); go_simp; (try with_reducible rfl))
  (try simp only [Act.put, List.setIfInBounds_toArray, List.set_cons_zero, List.set_cons_succ])
  refine wpAnyH_take (i := 11) (oi := _) (v := ?_) (by simp only [List.getElem?_toArray, List.getElem?_cons_succ, List.getElem?_cons_zero]; rfl) (by kernel_rfl) (by kernel_rfl) (by kernel_rfl) (fun _ _ _ h => h) (Or.inl ⟨by rfl, ?_⟩) (by assumption) ?_
  rotate_left
  · (intro w hSw; (try dsimp only at hSw); go_simp; (try with_reducible rfl))
  (try simp only [Act.put, List.setIfInBounds_toArray, List.set_cons_zero, List.set_cons_succ])
  refine wpAnyH_ready (rs := [2]) (by kernel_rfl) (by simp) ?_
  refine AllReadyH.cons (o := _) (by simp only [List.getElem?_toArray, List.getElem?_cons_succ, List.getElem?_cons_zero]; rfl) (fun K hK => ?_) AllReadyH.nil
  go_simp
  refine (HN.out _ (by first | exact hHeld.1 | exact hH9.1)).mono ?_
  rintro e w7 ⟨rfl, rfl⟩
  (try go_wp2_with fail)
  refine hK.out _ _ (by first | exact hHeld | exact hH9) (fun hHeld => ?_)
  clear hK K
  (try simp only [Act.put, List.setIfInBounds_toArray, List.set_cons_zero, List.set_cons_succ])
  refine wpAnyH_take (i := 12) (oi := _) (v := ?_) (by simp only [List.getElem?_toArray, List.getElem?_cons_succ, List.getElem?_cons_zero]; rfl) (by kernel_rfl) (by kernel_rfl) (by kernel_rfl) (fun _ _ _ h => h) (Or.inl ⟨by rfl, ?_⟩) (by assumption) ?_
  rotate_left
  · (intro w hSw; (try dsimp only at hSw); go_simp; (try with_reducible rfl))
  (try simp only [Act.put, List.setIfInBounds_toArray, List.set_cons_zero, List.set_cons_succ])
  refine wpAnyH_ready (rs := [13]) (by kernel_rfl) (by simp) ?_
  refine AllReadyH.cons (o := _) (by simp only [List.getElem?_toArray, List.getElem?_cons_succ, List.getElem?_cons_zero]; rfl) (fun K hK => ?_) AllReadyH.nil
  go_simp
  refine hK.out _ _ (KA.out _ hHeld) (fun hHeld => ?_)
  clear hK K
  (try simp only [Act.put, List.setIfInBounds_toArray, List.set_cons_zero, List.set_cons_succ])
  refine wpAnyH_ready (rs := [14]) (by kernel_rfl) (by simp) ?_
  refine AllReadyH.cons (o := _) (by simp only [List.getElem?_toArray, List.getElem?_cons_succ, List.getElem?_cons_zero]; rfl) (fun K hK => ?_) AllReadyH.nil
  refine step_app _ (by rfl) E40 (.tmp 69) (.tmp 82) (by rfl) ROWD.out SRC.out 1 (by simp [Act.eval, Act.put]) (by simp [Act.eval, Act.put]) (by simp [Value.oneCell']) (by unfold maxLen; omega) (by omega) ?_
  intro A7 c7 w7 hr7 hg7 hl7
  have G7 := Lib.hid (Holds.grew' HW.out SW.out hr7 hg7 (by rcases hl7 with h | h; exact .inl h; exact .inr ⟨_, h, Nat.le_refl _⟩))
  have Z7 := Lib.hid (ZD.out.grown hg7 NB.out)
  refine hK.out _ _ ⟨Z7.out, Z7.out.cell 3, Z7.out.cell 4⟩ (fun hHeld => ?_)
  clear hK K hr7 hg7 hl7
  (try simp only [Act.put, List.setIfInBounds_toArray, List.set_cons_zero, List.set_cons_succ])
  refine wpAnyH_take (i := 15) (oi := _) (v := ?_) (by simp only [List.getElem?_toArray, List.getElem?_cons_succ, List.getElem?_cons_zero]; rfl) (by kernel_rfl) (by kernel_rfl) (by kernel_rfl) (fun _ _ _ h => h) (Or.inl ⟨by rfl, ?_⟩) (by assumption) ?_
  rotate_left
  · (intro w hSw; (try dsimp only at hSw); go_simp; (try with_reducible rfl))
  (try simp only [Act.put, List.setIfInBounds_toArray, List.set_cons_zero, List.set_cons_succ])
  refine wpAnyH_done (by kernel_rfl) ?_ _
  refine NoPanic.normal ?_
  clear hH9 y4 y10 z9 z10 f9 f10
  go_wp2_with fail
  go_ret
  exact ⟨_, _, _, ({ S with kept := true, keptAt := now } : CS), rfl, ⟨AL.out.id, AL.out.n, AL.out.life, AL.out.session, AL.out.seq, AL.out.had, AL.out.til, AL.out.L, AL.out.op⟩, G7.out.drop⟩
theorem tick1_send_on (h : Holds B w0 w (star (cliP b S) Q)) (hQ : Stable Q) (hid : 0 ≤ S.id ∧ S.id < 8) (hn : S.n = 3) (o : Oc) (ho : S.op = some o) (hr : 30 ≤ wrap64 (now - o.sent)) (hs : 0 < S.session) (hk : S.kept = true) (ht : 100 ≤ wrap64 (now - S.keptAt)) :
    Calls Try.prog 16 #[.pointer (some ⟨b, 0, none⟩), .int .i64 now] w (TickPost B w0 b S Q) := by
  have hu := Try.underlying62
  have hu2 := Try.underlying40
  have hu3 := Try.underlying66
  have QQ := Lib.hid hQ
  have HH := Lib.hid h
  have HI := Lib.hid hid
  have D1 := decide_eq_true hs
  have D2 := decide_eq_true ht
  have hkb := Lib.hid hk
  obtain ⟨ob, A0, c0, Z0, O0⟩ := x_open1 h ho
  have z7 := Z0.cell 7
  have o6 := O0.cell 6
  have DR := decide_eq_true hr
  have z1 : w.cell? ⟨b, 1, none⟩ = some (.int .i64 3) := by rw [Z0.cell 1]; show some (Value.int .i64 S.n) = _; rw [hn]
  have z3 := Z0.cell 3
  obtain ⟨⟨v3, t3⟩, f3, G1⟩ := x_cell (g := 0) h hQ (i := 3) (.int .i64 (((wrap64 (S.server + 1)).tmod 3))) ({ S with server := ((wrap64 (S.server + 1)).tmod 3) } : CS) (by omega) rfl rfl (fun p A c => rfl)
  have G1' : Holds B w0 (w.setCell ⟨b, 3, none⟩ (.int .i64 (((wrap64 (S.server + 1)).tmod 3)))) (star (cliP b (({ S with server := ((wrap64 (S.server + 1)).tmod 3) } : CS).withOp (some o))) Q) := by
    have e : ({ S with server := ((wrap64 (S.server + 1)).tmod 3) } : CS).withOp (some o) = { S with server := ((wrap64 (S.server + 1)).tmod 3) } := by unfold CS.withOp; rw [← ho]
    rw [e]; exact G1
  have HSEND := Lib.hid (fun (X : World) (hX : Keep Nothing _ X) => x_send (G1'.kept ((cliP_stable _ _).star QQ.out) hX) QQ.out HI.out now)
  have HO := Lib.hid ho
  clear h hQ hid ho hn hr Z0 O0 G1 G1' hs hk ht
  go_enter Try.func16, Try.ntmps16
  go_wp2_with fail
  go_region
  all_goals
    go_wp2_with fail
    refine (HSEND.out _ (by repeat (first | with_reducible (exact Keep.same _ _) | with_reducible (apply Keep.drew) | with_reducible (apply Keep.alloc)))).mono ?_
    rintro e w9 ⟨g, rfl, h9⟩
    have H2 := Lib.hid (show Holds B w0 w9 (star (rowP 40 20 (.slice (some ⟨g, 0, none⟩) 1 1) 1 (askCs ({ S with server := ((wrap64 (S.server + 1)).tmod 3) } : CS) o).toList) (star (cliP b (({ S with server := ((wrap64 (S.server + 1)).tmod 3), op := some ⟨o.cmd, o.first, now⟩ } : CS))) Q)) from h9)
    have AL := Lib.hid (show Alike S (({ S with server := ((wrap64 (S.server + 1)).tmod 3), op := some ⟨o.cmd, o.first, now⟩ } : CS)) from ⟨rfl, rfl, rfl, rfl, rfl, rfl, rfl, rfl, ⟨fun h => by (rw [HO.out] at h; cases h), fun o' h => by (rw [HO.out] at h; injection h with h; subst h; exact ⟨now, rfl⟩)⟩⟩)
    clear h9 z7 o6 z1 z3 t3 f3
    obtain ⟨p8, A8, c8, Z8⟩ := x_blk (show Holds B w0 w9 (star (cliP b ({ S with server := ((wrap64 (S.server + 1)).tmod 3), op := some ⟨o.cmd, o.first, now⟩ } : CS)) (star (rowP 40 20 (.slice (some ⟨g, 0, none⟩) 1 1) 1 (askCs ({ S with server := ((wrap64 (S.server + 1)).tmod 3) } : CS) o).toList) Q)) from Holds.flip H2.out)
    have y4 := Z8.cell 4
    have zk : w9.cell? ⟨b, 9, none⟩ = some (.bool true) := by rw [Z8.cell 9]; show some (Value.bool S.kept) = _; rw [hkb.out]
    have y10 := Z8.cell 10
    have G3 := x_cell (g := 0) (show Holds B w0 w9 (star (cliP b ({ S with server := ((wrap64 (S.server + 1)).tmod 3), op := some ⟨o.cmd, o.first, now⟩ } : CS)) (star (rowP 40 20 (.slice (some ⟨g, 0, none⟩) 1 1) 1 (askCs ({ S with server := ((wrap64 (S.server + 1)).tmod 3) } : CS) o).toList) Q)) from Holds.flip H2.out) ((rowP_stable _ _ _ _ _).star QQ.out) (i := 9) (.bool true) (({ ({ S with server := ((wrap64 (S.server + 1)).tmod 3), op := some ⟨o.cmd, o.first, now⟩ } : CS) with kept := true } : CS)) (by omega) rfl rfl (fun p A c => rfl)
    obtain ⟨⟨v9, z9⟩, f9, G4⟩ := G3
    obtain ⟨⟨v10, z10⟩, f10, G5⟩ := x_cell (g := 0) G4 ((rowP_stable _ _ _ _ _).star QQ.out) (i := 10) (.int .i64 now) (({ ({ S with server := ((wrap64 (S.server + 1)).tmod 3), op := some ⟨o.cmd, o.first, now⟩ } : CS) with kept := true, keptAt := now } : CS)) (by omega) rfl rfl (fun p A c => rfl)
    have H5 := Lib.hid G5
    obtain ⟨p9, A9, c9, Z9⟩ := x_blk G5
    have HN := Lib.hid (fun w' (hb : Blk w' b 62 ((({ ({ S with server := ((wrap64 (S.server + 1)).tmod 3), op := some ⟨o.cmd, o.first, now⟩ } : CS) with kept := true, keptAt := now } : CS)).cs p9 A9 ({ S with server := ((wrap64 (S.server + 1)).tmod 3), op := some ⟨o.cmd, o.first, now⟩ } : CS).L.length c9)) => node22 w' b (({ ({ S with server := ((wrap64 (S.server + 1)).tmod 3), op := some ⟨o.cmd, o.first, now⟩ } : CS) with kept := true, keptAt := now } : CS)) p9 A9 ({ S with server := ((wrap64 (S.server + 1)).tmod 3), op := some ⟨o.cmd, o.first, now⟩ } : CS).L.length c9 hb HI.out)
    have hH9 : (fun w' => Blk w' b 62 ((({ ({ S with server := ((wrap64 (S.server + 1)).tmod 3), op := some ⟨o.cmd, o.first, now⟩ } : CS) with kept := true, keptAt := now } : CS)).cs p9 A9 ({ S with server := ((wrap64 (S.server + 1)).tmod 3), op := some ⟨o.cmd, o.first, now⟩ } : CS).L.length c9) ∧ w'.cell? ⟨b, 3, none⟩ = some (.int .i64 ({ S with server := ((wrap64 (S.server + 1)).tmod 3), op := some ⟨o.cmd, o.first, now⟩ } : CS).server) ∧ w'.cell? ⟨b, 4, none⟩ = some (.int .i64 ({ S with server := ((wrap64 (S.server + 1)).tmod 3), op := some ⟨o.cmd, o.first, now⟩ } : CS).session)) ((w9.setCell ⟨b, 9, none⟩ (.bool true)).setCell ⟨b, 10, none⟩ (.int .i64 now)) := ⟨Z9, Z9.cell 3, Z9.cell 4⟩
    dsimp only at hH9
    have RW := Lib.hid ((show Holds B w0 _ (star (rowP 40 20 (.slice (some ⟨g, 0, none⟩) 1 1) 1 (askCs ({ S with server := ((wrap64 (S.server + 1)).tmod 3) } : CS) o).toList) (star (cliP b (({ ({ S with server := ((wrap64 (S.server + 1)).tmod 3), op := some ⟨o.cmd, o.first, now⟩ } : CS) with kept := true, keptAt := now } : CS))) Q)) from Holds.flip G5).row)
    have NB := Lib.hid (show ((.slice (some ⟨g, 0, none⟩) 1 1) : Value).ownBlock ≠ some b from RW.out.apart Z9 (by decide))
    have ZZ := Lib.hid Z9
    clear G4 G5 Z9 Z8
    go_wp2_with fail
    have KSIZE : ((w9.setCell ⟨b, 9, none⟩ (.bool true)).setCell ⟨b, 10, none⟩ (.int .i64 now)).heap.size = w9.heap.size := by simp
    have SRC := Lib.hid (show U.Src ((((w9.setCell ⟨b, 9, none⟩ (.bool true)).setCell ⟨b, 10, none⟩ (.int .i64 now)).alloc (.cells #[.int .i64 13, .int .i64 (5 + S.id), .int .i64 ({ S with server := ((wrap64 (S.server + 1)).tmod 3), op := some ⟨o.cmd, o.first, now⟩ } : CS).server, .int .i64 0, .int .i64 0, .int .i64 now, .int .i64 ({ S with server := ((wrap64 (S.server + 1)).tmod 3), op := some ⟨o.cmd, o.first, now⟩ } : CS).session, .int .i64 0, .slice none 0 0, .int .i64 0, .int .i64 0, .int .i64 0, .string ⟨#[]⟩, .int .i64 0, .int .i64 0, .int .i64 0, .int .i64 0, .int .u64 0, .int .i64 0, .string ⟨#[]⟩] 40)).drew) (some ⟨w9.heap.size, 0, none⟩) 20 1 (#[.int .i64 13, .int .i64 (5 + S.id), .int .i64 ({ S with server := ((wrap64 (S.server + 1)).tmod 3), op := some ⟨o.cmd, o.first, now⟩ } : CS).server, .int .i64 0, .int .i64 0, .int .i64 now, .int .i64 ({ S with server := ((wrap64 (S.server + 1)).tmod 3), op := some ⟨o.cmd, o.first, now⟩ } : CS).session, .int .i64 0, .slice none 0 0, .int .i64 0, .int .i64 0, .int .i64 0, .string ⟨#[]⟩, .int .i64 0, .int .i64 0, .int .i64 0, .int .i64 0, .int .u64 0, .int .i64 0, .string ⟨#[]⟩]).toList from by
      have h := U.Src.fresh ((w9.setCell ⟨b, 9, none⟩ (.bool true)).setCell ⟨b, 10, none⟩ (.int .i64 now)) #[.int .i64 13, .int .i64 (5 + S.id), .int .i64 ({ S with server := ((wrap64 (S.server + 1)).tmod 3), op := some ⟨o.cmd, o.first, now⟩ } : CS).server, .int .i64 0, .int .i64 0, .int .i64 now, .int .i64 ({ S with server := ((wrap64 (S.server + 1)).tmod 3), op := some ⟨o.cmd, o.first, now⟩ } : CS).session, .int .i64 0, .slice none 0 0, .int .i64 0, .int .i64 0, .int .i64 0, .string ⟨#[]⟩, .int .i64 0, .int .i64 0, .int .i64 0, .int .i64 0, .int .u64 0, .int .i64 0, .string ⟨#[]⟩] 40 20 1 rfl
      rw [KSIZE] at h
      exact h)
    have ROWD := Lib.hid (RW.out.keep (((Keep.same Nothing ((w9.setCell ⟨b, 9, none⟩ (.bool true)).setCell ⟨b, 10, none⟩ (.int .i64 now))).alloc (.cells #[.int .i64 13, .int .i64 (5 + S.id), .int .i64 ({ S with server := ((wrap64 (S.server + 1)).tmod 3), op := some ⟨o.cmd, o.first, now⟩ } : CS).server, .int .i64 0, .int .i64 0, .int .i64 now, .int .i64 ({ S with server := ((wrap64 (S.server + 1)).tmod 3), op := some ⟨o.cmd, o.first, now⟩ } : CS).session, .int .i64 0, .slice none 0 0, .int .i64 0, .int .i64 0, .int .i64 0, .string ⟨#[]⟩, .int .i64 0, .int .i64 0, .int .i64 0, .int .i64 0, .int .u64 0, .int .i64 0, .string ⟨#[]⟩] 40)).drew) (fun _ _ h => h))
    have ZD := Lib.hid (ZZ.out.keep (((Keep.same Nothing ((w9.setCell ⟨b, 9, none⟩ (.bool true)).setCell ⟨b, 10, none⟩ (.int .i64 now))).alloc (.cells #[.int .i64 13, .int .i64 (5 + S.id), .int .i64 ({ S with server := ((wrap64 (S.server + 1)).tmod 3), op := some ⟨o.cmd, o.first, now⟩ } : CS).server, .int .i64 0, .int .i64 0, .int .i64 now, .int .i64 ({ S with server := ((wrap64 (S.server + 1)).tmod 3), op := some ⟨o.cmd, o.first, now⟩ } : CS).session, .int .i64 0, .slice none 0 0, .int .i64 0, .int .i64 0, .int .i64 0, .string ⟨#[]⟩, .int .i64 0, .int .i64 0, .int .i64 0, .int .i64 0, .int .u64 0, .int .i64 0, .string ⟨#[]⟩] 40)).drew) (fun h => h))
    have SW := Lib.hid ((cliP_stable b (({ ({ S with server := ((wrap64 (S.server + 1)).tmod 3), op := some ⟨o.cmd, o.first, now⟩ } : CS) with kept := true, keptAt := now } : CS))).star QQ.out)
    have HW := Lib.hid ((show Holds B w0 ((w9.setCell ⟨b, 9, none⟩ (.bool true)).setCell ⟨b, 10, none⟩ (.int .i64 now)) (star (rowP 40 20 (.slice (some ⟨g, 0, none⟩) 1 1) 1 (askCs ({ S with server := ((wrap64 (S.server + 1)).tmod 3) } : CS) o).toList) (star (cliP b (({ ({ S with server := ((wrap64 (S.server + 1)).tmod 3), op := some ⟨o.cmd, o.first, now⟩ } : CS) with kept := true, keptAt := now } : CS))) Q)) from Holds.flip H5.out).kept ((rowP_stable _ _ _ _ _).star SW.out) (((Keep.same Nothing ((w9.setCell ⟨b, 9, none⟩ (.bool true)).setCell ⟨b, 10, none⟩ (.int .i64 now))).alloc (.cells #[.int .i64 13, .int .i64 (5 + S.id), .int .i64 ({ S with server := ((wrap64 (S.server + 1)).tmod 3), op := some ⟨o.cmd, o.first, now⟩ } : CS).server, .int .i64 0, .int .i64 0, .int .i64 now, .int .i64 ({ S with server := ((wrap64 (S.server + 1)).tmod 3), op := some ⟨o.cmd, o.first, now⟩ } : CS).session, .int .i64 0, .slice none 0 0, .int .i64 0, .int .i64 0, .int .i64 0, .string ⟨#[]⟩, .int .i64 0, .int .i64 0, .int .i64 0, .int .i64 0, .int .u64 0, .int .i64 0, .string ⟨#[]⟩] 40)).drew))
    clear KSIZE
    have KA := Lib.hid (show ∀ w', (fun w' => Blk w' b 62 ((({ ({ S with server := ((wrap64 (S.server + 1)).tmod 3), op := some ⟨o.cmd, o.first, now⟩ } : CS) with kept := true, keptAt := now } : CS)).cs p9 A9 ({ S with server := ((wrap64 (S.server + 1)).tmod 3), op := some ⟨o.cmd, o.first, now⟩ } : CS).L.length c9) ∧ w'.cell? ⟨b, 3, none⟩ = some (.int .i64 ({ S with server := ((wrap64 (S.server + 1)).tmod 3), op := some ⟨o.cmd, o.first, now⟩ } : CS).server) ∧ w'.cell? ⟨b, 4, none⟩ = some (.int .i64 ({ S with server := ((wrap64 (S.server + 1)).tmod 3), op := some ⟨o.cmd, o.first, now⟩ } : CS).session)) w' → (fun w' => Blk w' b 62 ((({ ({ S with server := ((wrap64 (S.server + 1)).tmod 3), op := some ⟨o.cmd, o.first, now⟩ } : CS) with kept := true, keptAt := now } : CS)).cs p9 A9 ({ S with server := ((wrap64 (S.server + 1)).tmod 3), op := some ⟨o.cmd, o.first, now⟩ } : CS).L.length c9) ∧ w'.cell? ⟨b, 3, none⟩ = some (.int .i64 ({ S with server := ((wrap64 (S.server + 1)).tmod 3), op := some ⟨o.cmd, o.first, now⟩ } : CS).server) ∧ w'.cell? ⟨b, 4, none⟩ = some (.int .i64 ({ S with server := ((wrap64 (S.server + 1)).tmod 3), op := some ⟨o.cmd, o.first, now⟩ } : CS).session)) (w'.alloc (.cells #[.int .i64 13, .int .i64 (5 + S.id), .int .i64 ({ S with server := ((wrap64 (S.server + 1)).tmod 3), op := some ⟨o.cmd, o.first, now⟩ } : CS).server, .int .i64 0, .int .i64 0, .int .i64 now, .int .i64 ({ S with server := ((wrap64 (S.server + 1)).tmod 3), op := some ⟨o.cmd, o.first, now⟩ } : CS).session, .int .i64 0, .slice none 0 0, .int .i64 0, .int .i64 0, .int .i64 0, .string ⟨#[]⟩, .int .i64 0, .int .i64 0, .int .i64 0, .int .i64 0, .int .u64 0, .int .i64 0, .string ⟨#[]⟩] 40)) from fun w' h => ⟨h.1.alloc _, (h.1.alloc _).cell 3, (h.1.alloc _).cell 4⟩)
    refine wp_region_noPanic ?_
    refine wp_region_held_drew (S := (fun w' => Blk w' b 62 ((({ ({ S with server := ((wrap64 (S.server + 1)).tmod 3), op := some ⟨o.cmd, o.first, now⟩ } : CS) with kept := true, keptAt := now } : CS)).cs p9 A9 ({ S with server := ((wrap64 (S.server + 1)).tmod 3), op := some ⟨o.cmd, o.first, now⟩ } : CS).L.length c9) ∧ w'.cell? ⟨b, 3, none⟩ = some (.int .i64 ({ S with server := ((wrap64 (S.server + 1)).tmod 3), op := some ⟨o.cmd, o.first, now⟩ } : CS).server) ∧ w'.cell? ⟨b, 4, none⟩ = some (.int .i64 ({ S with server := ((wrap64 (S.server + 1)).tmod 3), op := some ⟨o.cmd, o.first, now⟩ } : CS).session))) (by kernel_rfl) hH9 (fun hHeld => ?_)
    refine wpAnyH_take (i := 0) (oi := _) (v := ?_) (by simp only [List.getElem?_toArray, List.getElem?_cons_succ, List.getElem?_cons_zero]; rfl) (by kernel_rfl) (by kernel_rfl) (by kernel_rfl) (fun _ _ _ h => h) (Or.inl ⟨by rfl, ?_⟩) (by assumption) ?_
    rotate_left
    · (intro w hSw; (try dsimp only at hSw); go_simp; (try with_reducible rfl))
    (try simp only [Act.put, List.setIfInBounds_toArray, List.set_cons_zero, List.set_cons_succ])
    refine wpAnyH_take (i := 1) (oi := _) (v := ?_) (by simp only [List.getElem?_toArray, List.getElem?_cons_succ, List.getElem?_cons_zero]; rfl) (by kernel_rfl) (by kernel_rfl) (by kernel_rfl) (fun _ _ _ h => h) (Or.inl ⟨by rfl, ?_⟩) (by assumption) ?_
    rotate_left
    · (intro w hSw; (try dsimp only at hSw); go_simp; (try with_reducible rfl))
    (try simp only [Act.put, List.setIfInBounds_toArray, List.set_cons_zero, List.set_cons_succ])
    refine wpAnyH_take (i := 3) (oi := _) (v := ?_) (by simp only [List.getElem?_toArray, List.getElem?_cons_succ, List.getElem?_cons_zero]; rfl) (by kernel_rfl) (by kernel_rfl) (by kernel_rfl) (fun _ _ _ h => h) (Or.inl ⟨by rfl, ?_⟩) (by assumption) ?_
    rotate_left
    · (intro w hSw; (try dsimp only at hSw); go_simp; (try with_reducible rfl))
    (try simp only [Act.put, List.setIfInBounds_toArray, List.set_cons_zero, List.set_cons_succ])
    refine wpAnyH_take (i := 4) (oi := _) (v := ?_) (by simp only [List.getElem?_toArray, List.getElem?_cons_succ, List.getElem?_cons_zero]; rfl) (by kernel_rfl) (by kernel_rfl) (by kernel_rfl) (fun _ _ _ h => h) (Or.inl ⟨by rfl, ?_⟩) (by assumption) ?_
    rotate_left
    · (intro w hSw; (try dsimp only at hSw); go_simp; (try with_reducible rfl))
    (try simp only [Act.put, List.setIfInBounds_toArray, List.set_cons_zero, List.set_cons_succ])
    refine wpAnyH_take (i := 5) (oi := _) (v := ?_) (by simp only [List.getElem?_toArray, List.getElem?_cons_succ, List.getElem?_cons_zero]; rfl) (by kernel_rfl) (by kernel_rfl) (by kernel_rfl) (fun _ _ _ h => h) (Or.inl ⟨by rfl, ?_⟩) (by assumption) ?_
    rotate_left
    · (intro w hSw; (try dsimp only at hSw); go_simp; (try with_reducible rfl))
    (try simp only [Act.put, List.setIfInBounds_toArray, List.set_cons_zero, List.set_cons_succ])
    refine wpAnyH_take (i := 6) (oi := _) (v := ?_) (by simp only [List.getElem?_toArray, List.getElem?_cons_succ, List.getElem?_cons_zero]; rfl) (by kernel_rfl) (by kernel_rfl) (by kernel_rfl) (fun _ _ _ h => h) (Or.inl ⟨by rfl, ?_⟩) (by assumption) ?_
    rotate_left
    · (intro w hSw; (try dsimp only at hSw); go_simp; (try with_reducible rfl))
    (try simp only [Act.put, List.setIfInBounds_toArray, List.set_cons_zero, List.set_cons_succ])
    refine wpAnyH_take (i := 7) (oi := _) (v := ?_) (by simp only [List.getElem?_toArray, List.getElem?_cons_succ, List.getElem?_cons_zero]; rfl) (by kernel_rfl) (by kernel_rfl) (by kernel_rfl) (fun _ _ _ h => h) (Or.inl ⟨by rfl, ?_⟩) (by assumption) ?_
    rotate_left
    · (intro w hSw; (try dsimp only at hSw); go_simp; (try with_reducible rfl))
    (try simp only [Act.put, List.setIfInBounds_toArray, List.set_cons_zero, List.set_cons_succ])
    refine wpAnyH_take (i := 8) (oi := _) (v := ?_) (by simp only [List.getElem?_toArray, List.getElem?_cons_succ, List.getElem?_cons_zero]; rfl) (by kernel_rfl) (by kernel_rfl) (by kernel_rfl) (fun _ _ _ h => h) (Or.inl ⟨by rfl, ?_⟩) (by assumption) ?_
    rotate_left
    · (intro w hSw; (try dsimp only at hSw); go_simp; (try with_reducible rfl))
    (try simp only [Act.put, List.setIfInBounds_toArray, List.set_cons_zero, List.set_cons_succ])
    refine wpAnyH_take (i := 9) (oi := _) (v := ?_) (by simp only [List.getElem?_toArray, List.getElem?_cons_succ, List.getElem?_cons_zero]; rfl) (by kernel_rfl) (by kernel_rfl) (by kernel_rfl) (fun _ _ _ h => h) (Or.inl ⟨by rfl, ?_⟩) (by assumption) ?_
    rotate_left
    · (intro w hSw; (try dsimp only at hSw); go_simp; (try with_reducible rfl))
    (try simp only [Act.put, List.setIfInBounds_toArray, List.set_cons_zero, List.set_cons_succ])
    refine wpAnyH_take (i := 10) (oi := _) (v := ?_) (by simp only [List.getElem?_toArray, List.getElem?_cons_succ, List.getElem?_cons_zero]; rfl) (by kernel_rfl) (by kernel_rfl) (by kernel_rfl) (fun _ _ _ h => h) (Or.inl ⟨by rfl, ?_⟩) (by assumption) ?_
    rotate_left
    · (intro w hSw; (try dsimp only at hSw); go_simp; (try with_reducible rfl))
    (try simp only [Act.put, List.setIfInBounds_toArray, List.set_cons_zero, List.set_cons_succ])
    refine wpAnyH_take (i := 11) (oi := _) (v := ?_) (by simp only [List.getElem?_toArray, List.getElem?_cons_succ, List.getElem?_cons_zero]; rfl) (by kernel_rfl) (by kernel_rfl) (by kernel_rfl) (fun _ _ _ h => h) (Or.inl ⟨by rfl, ?_⟩) (by assumption) ?_
    rotate_left
    · (intro w hSw; (try dsimp only at hSw); go_simp; (try with_reducible rfl))
    (try simp only [Act.put, List.setIfInBounds_toArray, List.set_cons_zero, List.set_cons_succ])
    refine wpAnyH_ready (rs := [2]) (by kernel_rfl) (by simp) ?_
    refine AllReadyH.cons (o := _) (by simp only [List.getElem?_toArray, List.getElem?_cons_succ, List.getElem?_cons_zero]; rfl) (fun K hK => ?_) AllReadyH.nil
    go_simp
    refine (HN.out _ (by first | exact hHeld.1 | exact hH9.1)).mono ?_
    rintro e w7 ⟨rfl, rfl⟩
    (try go_wp2_with fail)
    refine hK.out _ _ (by first | exact hHeld | exact hH9) (fun hHeld => ?_)
    clear hK K
    (try simp only [Act.put, List.setIfInBounds_toArray, List.set_cons_zero, List.set_cons_succ])
    refine wpAnyH_take (i := 12) (oi := _) (v := ?_) (by simp only [List.getElem?_toArray, List.getElem?_cons_succ, List.getElem?_cons_zero]; rfl) (by kernel_rfl) (by kernel_rfl) (by kernel_rfl) (fun _ _ _ h => h) (Or.inl ⟨by rfl, ?_⟩) (by assumption) ?_
    rotate_left
    · (intro w hSw; (try dsimp only at hSw); go_simp; (try with_reducible rfl))
    (try simp only [Act.put, List.setIfInBounds_toArray, List.set_cons_zero, List.set_cons_succ])
    refine wpAnyH_ready (rs := [13]) (by kernel_rfl) (by simp) ?_
    refine AllReadyH.cons (o := _) (by simp only [List.getElem?_toArray, List.getElem?_cons_succ, List.getElem?_cons_zero]; rfl) (fun K hK => ?_) AllReadyH.nil
    go_simp
    refine hK.out _ _ (KA.out _ hHeld) (fun hHeld => ?_)
    clear hK K
    (try simp only [Act.put, List.setIfInBounds_toArray, List.set_cons_zero, List.set_cons_succ])
    refine wpAnyH_ready (rs := [14]) (by kernel_rfl) (by simp) ?_
    refine AllReadyH.cons (o := _) (by simp only [List.getElem?_toArray, List.getElem?_cons_succ, List.getElem?_cons_zero]; rfl) (fun K hK => ?_) AllReadyH.nil
    refine step_app _ (by rfl) E40 (.tmp 69) (.tmp 82) (by rfl) ROWD.out SRC.out 1 (by simp [Act.eval, Act.put]) (by simp [Act.eval, Act.put]) (by simp [Value.oneCell']) (by unfold maxLen; omega) (by omega) ?_
    intro A7 c7 w7 hr7 hg7 hl7
    have G7 := Lib.hid (Holds.grew' HW.out SW.out hr7 hg7 (by rcases hl7 with h | h; exact .inl h; exact .inr ⟨_, h, Nat.le_refl _⟩))
    have Z7 := Lib.hid (ZD.out.grown hg7 NB.out)
    refine hK.out _ _ ⟨Z7.out, Z7.out.cell 3, Z7.out.cell 4⟩ (fun hHeld => ?_)
    clear hK K hr7 hg7 hl7
    (try simp only [Act.put, List.setIfInBounds_toArray, List.set_cons_zero, List.set_cons_succ])
    refine wpAnyH_take (i := 15) (oi := _) (v := ?_) (by simp only [List.getElem?_toArray, List.getElem?_cons_succ, List.getElem?_cons_zero]; rfl) (by kernel_rfl) (by kernel_rfl) (by kernel_rfl) (fun _ _ _ h => h) (Or.inl ⟨by rfl, ?_⟩) (by assumption) ?_
    rotate_left
    · (intro w hSw; (try dsimp only at hSw); go_simp; (try with_reducible rfl))
    (try simp only [Act.put, List.setIfInBounds_toArray, List.set_cons_zero, List.set_cons_succ])
    refine wpAnyH_done (by kernel_rfl) ?_ _
    refine NoPanic.normal ?_
    clear hH9 y4 y10 z9 z10 f9 f10
    go_wp2_with fail
    go_ret
    exact ⟨_, _, _, ({ ({ S with server := ((wrap64 (S.server + 1)).tmod 3), op := some ⟨o.cmd, o.first, now⟩ } : CS) with kept := true, keptAt := now } : CS), rfl, ⟨AL.out.id, AL.out.n, AL.out.life, AL.out.session, AL.out.seq, AL.out.had, AL.out.til, AL.out.L, AL.out.op⟩, G7.out.drop⟩
theorem tick1_wait_off (h : Holds B w0 w (star (cliP b S) Q)) (hQ : Stable Q) (hid : 0 ≤ S.id ∧ S.id < 8) (hn : S.n = 3) (o : Oc) (ho : S.op = some o) (hr : ¬ 30 ≤ wrap64 (now - o.sent)) (hs : 0 < S.session) (hk : S.kept = true) (ht : ¬ 100 ≤ wrap64 (now - S.keptAt)) :
    Calls Try.prog 16 #[.pointer (some ⟨b, 0, none⟩), .int .i64 now] w (TickPost B w0 b S Q) := by
  have hu := Try.underlying62
  have hu2 := Try.underlying40
  have hu3 := Try.underlying66
  have QQ := Lib.hid hQ
  have HH := Lib.hid h
  have HI := Lib.hid hid
  have D1 := decide_eq_true hs
  have D2 := decide_eq_false ht
  have hkb := Lib.hid hk
  obtain ⟨ob, A0, c0, Z0, O0⟩ := x_open1 h ho
  have z7 := Z0.cell 7
  have o6 := O0.cell 6
  have DR := decide_eq_false hr
  have H2 := Lib.hid (h.newRow ((cliP_stable _ _).star hQ) (Row.nil _ 40 20) (Keep.same _ _) (fun k hk => by simp [Value.ownBlock] at hk))
  have AL := Lib.hid (show Alike S S from ⟨rfl, rfl, rfl, rfl, rfl, rfl, rfl, rfl, fun h => h, fun o h => ⟨o.sent, h⟩⟩)
  have zk : w.cell? ⟨b, 9, none⟩ = some (.bool true) := by rw [Z0.cell 9]; show some (Value.bool S.kept) = _; rw [hk]
  clear h hQ hid ho hn hr Z0 O0 hs hk ht
  go_enter Try.func16, Try.ntmps16
  obtain ⟨p8, A8, c8, Z8⟩ := x_blk (show Holds B w0 w (star (cliP b S) (star (rowP 40 20 (.slice none 0 0) 0 []) Q)) from Holds.flip H2.out)
  have y4 := Z8.cell 4
  have y10 := Z8.cell 10
  clear Z8
  go_wp2_with fail
  go_ret
  exact ⟨_, _, _, S, rfl, AL.out, (H2.out.drop).kept ((cliP_stable _ _).star QQ.out) (by repeat (first | with_reducible (exact Keep.same _ _) | with_reducible (apply Keep.drew) | with_reducible (apply Keep.alloc)))⟩
theorem tick1_send_off (h : Holds B w0 w (star (cliP b S) Q)) (hQ : Stable Q) (hid : 0 ≤ S.id ∧ S.id < 8) (hn : S.n = 3) (o : Oc) (ho : S.op = some o) (hr : 30 ≤ wrap64 (now - o.sent)) (hs : 0 < S.session) (hk : S.kept = true) (ht : ¬ 100 ≤ wrap64 (now - S.keptAt)) :
    Calls Try.prog 16 #[.pointer (some ⟨b, 0, none⟩), .int .i64 now] w (TickPost B w0 b S Q) := by
  have hu := Try.underlying62
  have hu2 := Try.underlying40
  have hu3 := Try.underlying66
  have QQ := Lib.hid hQ
  have HH := Lib.hid h
  have HI := Lib.hid hid
  have D1 := decide_eq_true hs
  have D2 := decide_eq_false ht
  have hkb := Lib.hid hk
  obtain ⟨ob, A0, c0, Z0, O0⟩ := x_open1 h ho
  have z7 := Z0.cell 7
  have o6 := O0.cell 6
  have DR := decide_eq_true hr
  have z1 : w.cell? ⟨b, 1, none⟩ = some (.int .i64 3) := by rw [Z0.cell 1]; show some (Value.int .i64 S.n) = _; rw [hn]
  have z3 := Z0.cell 3
  obtain ⟨⟨v3, t3⟩, f3, G1⟩ := x_cell (g := 0) h hQ (i := 3) (.int .i64 (((wrap64 (S.server + 1)).tmod 3))) ({ S with server := ((wrap64 (S.server + 1)).tmod 3) } : CS) (by omega) rfl rfl (fun p A c => rfl)
  have G1' : Holds B w0 (w.setCell ⟨b, 3, none⟩ (.int .i64 (((wrap64 (S.server + 1)).tmod 3)))) (star (cliP b (({ S with server := ((wrap64 (S.server + 1)).tmod 3) } : CS).withOp (some o))) Q) := by
    have e : ({ S with server := ((wrap64 (S.server + 1)).tmod 3) } : CS).withOp (some o) = { S with server := ((wrap64 (S.server + 1)).tmod 3) } := by unfold CS.withOp; rw [← ho]
    rw [e]; exact G1
  have HSEND := Lib.hid (fun (X : World) (hX : Keep Nothing _ X) => x_send (G1'.kept ((cliP_stable _ _).star QQ.out) hX) QQ.out HI.out now)
  have HO := Lib.hid ho
  clear h hQ hid ho hn hr Z0 O0 G1 G1' hs hk ht
  go_enter Try.func16, Try.ntmps16
  go_wp2_with fail
  go_region
  all_goals
    go_wp2_with fail
    refine (HSEND.out _ (by repeat (first | with_reducible (exact Keep.same _ _) | with_reducible (apply Keep.drew) | with_reducible (apply Keep.alloc)))).mono ?_
    rintro e w9 ⟨g, rfl, h9⟩
    have H2 := Lib.hid (show Holds B w0 w9 (star (rowP 40 20 (.slice (some ⟨g, 0, none⟩) 1 1) 1 (askCs ({ S with server := ((wrap64 (S.server + 1)).tmod 3) } : CS) o).toList) (star (cliP b (({ S with server := ((wrap64 (S.server + 1)).tmod 3), op := some ⟨o.cmd, o.first, now⟩ } : CS))) Q)) from h9)
    have AL := Lib.hid (show Alike S (({ S with server := ((wrap64 (S.server + 1)).tmod 3), op := some ⟨o.cmd, o.first, now⟩ } : CS)) from ⟨rfl, rfl, rfl, rfl, rfl, rfl, rfl, rfl, ⟨fun h => by (rw [HO.out] at h; cases h), fun o' h => by (rw [HO.out] at h; injection h with h; subst h; exact ⟨now, rfl⟩)⟩⟩)
    clear h9 z7 o6 z1 z3 t3 f3
    obtain ⟨p8, A8, c8, Z8⟩ := x_blk (show Holds B w0 w9 (star (cliP b ({ S with server := ((wrap64 (S.server + 1)).tmod 3), op := some ⟨o.cmd, o.first, now⟩ } : CS)) (star (rowP 40 20 (.slice (some ⟨g, 0, none⟩) 1 1) 1 (askCs ({ S with server := ((wrap64 (S.server + 1)).tmod 3) } : CS) o).toList) Q)) from Holds.flip H2.out)
    have y4 := Z8.cell 4
    have zk : w9.cell? ⟨b, 9, none⟩ = some (.bool true) := by rw [Z8.cell 9]; show some (Value.bool S.kept) = _; rw [hkb.out]
    have y10 := Z8.cell 10
    clear Z8
    go_wp2_with fail
    go_ret
    exact ⟨_, _, _, ({ S with server := ((wrap64 (S.server + 1)).tmod 3), op := some ⟨o.cmd, o.first, now⟩ } : CS), rfl, AL.out, (H2.out.drop).kept ((cliP_stable _ _).star QQ.out) (by repeat (first | with_reducible (exact Keep.same _ _) | with_reducible (apply Keep.drew) | with_reducible (apply Keep.alloc)))⟩
theorem x_tick (h : Holds B w0 w (star (cliP b S) Q)) (hQ : Stable Q) (hid : 0 ≤ S.id ∧ S.id < 8) (hn : S.n = 3) (now : Int) :
    Calls Try.prog 16 #[.pointer (some ⟨b, 0, none⟩), .int .i64 now] w (TickPost B w0 b S Q) := by
  have hc : ¬ 0 < S.session ∨ (0 < S.session ∧ (S.kept = false ∨ (S.kept = true ∧ (100 ≤ wrap64 (now - S.keptAt) ∨ ¬ 100 ≤ wrap64 (now - S.keptAt))))) := by
    by_cases h0 : 0 < S.session
    · refine .inr ⟨h0, ?_⟩
      cases S.kept with
      | false => exact .inl rfl
      | true => exact .inr ⟨rfl, by omega⟩
    · exact .inl h0
  cases ho : S.op with
  | none =>
    rcases hc with hs | ⟨hs, hk | ⟨hk, ht | ht⟩⟩
    · exact tick0_no h hQ hid ho hs
    · exact tick0_first h hQ hid ho hs hk
    · exact tick0_on h hQ hid ho hs hk ht
    · exact tick0_off h hQ hid ho hs hk ht
  | some o =>
    by_cases hr : 30 ≤ wrap64 (now - o.sent)
    · rcases hc with hs | ⟨hs, hk | ⟨hk, ht | ht⟩⟩
      · exact tick1_send_no h hQ hid hn o ho hr hs
      · exact tick1_send_first h hQ hid hn o ho hr hs hk
      · exact tick1_send_on h hQ hid hn o ho hr hs hk ht
      · exact tick1_send_off h hQ hid hn o ho hr hs hk ht
    · rcases hc with hs | ⟨hs, hk | ⟨hk, ht | ht⟩⟩
      · exact tick1_wait_no h hQ hid hn o ho hr hs
      · exact tick1_wait_first h hQ hid hn o ho hr hs hk
      · exact tick1_wait_on h hQ hid hn o ho hr hs hk ht
      · exact tick1_wait_off h hQ hid hn o ho hr hs hk ht
end
end Go.Proofs.Ythlfcinjmljbjaa.A
