/-
  The scheduler: find, of mutexes and groups. Printed by gen_ya.py.
-/
import Derived.Test.YtmohpjkbhpgidaaTK
import Derived.Test.YtmohpjkbhpgidaaYA
namespace Go.Proofs.Ytmohpjkbhpgidaa.A
open Go.RowKit Go.Proofs.Ytmohpjkbhpgidaa.U
set_option linter.unusedVariables false
set_option linter.unusedSimpArgs false
set_option maxRecDepth 100000
set_option maxHeartbeats 1600000

section
variable {B : Nat} {w0 w : World} {Q : SP} {b bm : Nat} {X : List (Nat × Tk)} {O : List Ob}
theorem find_old1_0 (h : Holds B w0 w (star (schP b X bm O) Q)) (hQ : Stable Q) (x : Op3) (hk : x.k = 1) (hn : x.n = 0) (i : Nat) (o : Ob) (ho : O[i]? = some o) (hon : o.key = (109, x.obj)) (hl : lookM (obM O) (109, x.obj) = some o.v) (hf : ∀ (j : Nat) (o' : Ob), j < i → O[j]? = some o' → o'.key ≠ (109, x.obj)) :
    Calls Try.prog 91 #[.pointer (some ⟨b, 0, none⟩), x.val] w (FindPost B w0 b X bm O (109, x.obj) Q) := by
  have hu := Try.underlying139
  have hu2 := Try.underlying97
  have hu3 := Try.underlying180
  have HQ := Lib.hid hQ
  have SQ := Lib.hid (show Stable (star (schP b X bm O) Q) from schP_stable.star hQ)
  have h1 := h.newBlk SQ.out 97 x.cs
  have h2 := h1.newBlk ((blkP_stable _ _ _).star SQ.out) 180 #[.int .u8 109, .int .i64 x.obj]
  rw [size_alloc] at h2
  have H2 := Lib.hid h2
  have X1 := blk_at' h1
  have K2 := Lib.hid (blk_at' h2)
  have h3 : Holds B w0 ((w.alloc (.cells x.cs 97)).alloc (.cells #[.int .u8 109, .int .i64 x.obj] 180)) (star (coreP b X bm) (star (mapP bm (obM O)) (star (obsP O) (star (blkP (w.heap.size + 1) 180 #[.int .u8 109, .int .i64 x.obj]) (star (blkP w.heap.size 97 x.cs) Q))))) := h2.perm (by unfold schP; ac_rfl)
  have h4 : Holds B w0 ((w.alloc (.cells x.cs 97)).alloc (.cells #[.int .u8 109, .int .i64 x.obj] 180)) (star (mapP bm (obM O)) (star (coreP b X bm) (star (obsP O) (star (blkP (w.heap.size + 1) 180 #[.int .u8 109, .int .i64 x.obj]) (star (blkP w.heap.size 97 x.cs) Q))))) := h2.perm (by unfold schP; ac_rfl)
  obtain ⟨A1, c1, Z⟩ := core_blk h3
  have H3 := Lib.hid h3
  have H4 := Lib.hid h4
  have x0 := X1.cell 0
  have x1 := X1.cell 1
  have x2 := X1.cell 2
  have hH : (fun w' => MapN w' bm (obM O) ∧ w'.cell? ⟨b, 1, none⟩ = some (.map (some bm)) ∧ w'.cell? ⟨w.heap.size + 1, 0, none⟩ = some (.int .u8 109) ∧ w'.cell? ⟨w.heap.size + 1, 1, none⟩ = some (.int .i64 x.obj)) ((w.alloc (.cells x.cs 97)).alloc (.cells #[.int .u8 109, .int .i64 x.obj] 180)) := ⟨map_at h4, Z.cell 1, K2.out.cell 0, K2.out.cell 1⟩
  dsimp only at hH
  clear h1 h2 h3 h4 Z X1
  have D1 : (x.k == 1) = true := by simp [hk]
  have DN : (x.n == 0) = true := by simp [hn]
  have LK := Lib.hid (show lookM (obM O) (109, x.obj) = some (Value.iface 172 (.agg #[.pointer (some ⟨o.g, 0, none⟩)])) by rw [hl]; unfold Ob.v; rw [(Prod.mk.inj hon).1]; rfl)
  have HV := Lib.hid (show Value.iface 172 (.agg #[.pointer (some ⟨o.g, 0, none⟩)]) = o.v by unfold Ob.v; rw [(Prod.mk.inj hon).1]; rfl)
  have HO := Lib.hid ho
  have HON := Lib.hid hon
  have HF := Lib.hid hf
  have hH2 := hH
  clear h hQ hk hn hl ho hon hf
  unfold Op3.val Op3.cs
  go_enter Try.func91, Try.ntmps91
  go_wp2_with fail
  refine wp_region_noPanic ?_
  refine wp_region_held_drew (S := (fun w' => MapN w' bm (obM O) ∧ w'.cell? ⟨b, 1, none⟩ = some (.map (some bm)) ∧ w'.cell? ⟨w.heap.size + 1, 0, none⟩ = some (.int .u8 109) ∧ w'.cell? ⟨w.heap.size + 1, 1, none⟩ = some (.int .i64 x.obj))) (by kernel_rfl) hH (fun hHeld => ?_)
  refine tk 0 ?_
  (try simp only [pn])
  refine tk 1 ?_
  (try simp only [pn])
  refine tk 2 ?_
  (try simp only [pn])
  refine tk 3 ?_
  (try simp only [pn])
  refine tk 4 ?_
  (try simp only [pn])
  refine wpAnyH_take (i := 5) (oi := _) (v := ?_) (by simp only [List.getElem?_toArray, List.getElem?_cons_succ, List.getElem?_cons_zero]; rfl) (by kernel_rfl) (by kernel_rfl) (by kernel_rfl) (fun _ _ _ h => h) (Or.inl ⟨by rfl, ?_⟩) (by assumption) ?_
  rotate_left
  · (intro w hSw; (try dsimp only at hSw); have hlk := run_lookN hSw.1 (109, x.obj); rw [LK.out] at hlk; simp only [Option.getD_some, Option.getD_none] at hlk; go_simp; (try with_reducible rfl))
  (try simp only [pn])
  refine tk 6 ?_
  (try simp only [pn])
  refine wpAnyH_done (by kernel_rfl) ?_ _
  refine NoPanic.normal ?_
  clear hH
  go_wp2_with fail
  refine wp_region_noPanic ?_
  refine wp_region_held_drew (S := (fun w' => MapN w' bm (obM O) ∧ w'.cell? ⟨b, 1, none⟩ = some (.map (some bm)) ∧ w'.cell? ⟨w.heap.size + 1, 0, none⟩ = some (.int .u8 109) ∧ w'.cell? ⟨w.heap.size + 1, 1, none⟩ = some (.int .i64 x.obj))) (by kernel_rfl) hH2 (fun hHeld => ?_)
  refine tk 0 ?_
  (try simp only [pn])
  refine tk 1 ?_
  (try simp only [pn])
  refine tk 2 ?_
  (try simp only [pn])
  refine tk 3 ?_
  (try simp only [pn])
  refine tk 4 ?_
  (try simp only [pn])
  refine wpAnyH_take (i := 5) (oi := _) (v := ?_) (by simp only [List.getElem?_toArray, List.getElem?_cons_succ, List.getElem?_cons_zero]; rfl) (by kernel_rfl) (by kernel_rfl) (by kernel_rfl) (fun _ _ _ h => h) (Or.inl ⟨by rfl, ?_⟩) (by assumption) ?_
  rotate_left
  · (intro w hSw; (try dsimp only at hSw); have hlk := run_lookN hSw.1 (109, x.obj); rw [LK.out] at hlk; simp only [Option.getD_some, Option.getD_none] at hlk; go_simp; (try with_reducible rfl))
  (try simp only [pn])
  refine tk 6 ?_
  (try simp only [pn])
  refine wpAnyH_done (by kernel_rfl) ?_ _
  refine NoPanic.normal ?_
  clear hH2
  go_wp2_with fail
  go_ret
  refine ⟨O, i, o, by (rw [← HV.out]; rfl), HO.out, HON.out, HF.out, .inl rfl, ?_⟩
  have g : Holds B w0 ((w.alloc (.cells x.cs 97)).alloc (.cells #[.int .u8 109, .int .i64 x.obj] 180)) (star (blkP (w.heap.size + 1) 180 #[.int .u8 109, .int .i64 x.obj]) (star (blkP w.heap.size 97 x.cs) (star (schP b X bm O) Q))) := H2.out
  exact g.drop.drop.kept SQ.out kn
theorem find_new1_0 (h : Holds B w0 w (star (schP b X bm O) Q)) (hQ : Stable Q) (x : Op3) (hk : x.k = 1) (hn : x.n = 0) (hl : lookM (obM O) (109, x.obj) = none) (hf : ∀ o ∈ O, o.key ≠ (109, x.obj)) :
    Calls Try.prog 91 #[.pointer (some ⟨b, 0, none⟩), x.val] w (FindPost B w0 b X bm O (109, x.obj) Q) := by
  have hu := Try.underlying139
  have hu2 := Try.underlying97
  have hu3 := Try.underlying180
  have HQ := Lib.hid hQ
  have SQ := Lib.hid (show Stable (star (schP b X bm O) Q) from schP_stable.star hQ)
  have h1 := h.newBlk SQ.out 97 x.cs
  have h2 := h1.newBlk ((blkP_stable _ _ _).star SQ.out) 180 #[.int .u8 109, .int .i64 x.obj]
  rw [size_alloc] at h2
  have H2 := Lib.hid h2
  have X1 := blk_at' h1
  have K2 := Lib.hid (blk_at' h2)
  have h3 : Holds B w0 ((w.alloc (.cells x.cs 97)).alloc (.cells #[.int .u8 109, .int .i64 x.obj] 180)) (star (coreP b X bm) (star (mapP bm (obM O)) (star (obsP O) (star (blkP (w.heap.size + 1) 180 #[.int .u8 109, .int .i64 x.obj]) (star (blkP w.heap.size 97 x.cs) Q))))) := h2.perm (by unfold schP; ac_rfl)
  have h4 : Holds B w0 ((w.alloc (.cells x.cs 97)).alloc (.cells #[.int .u8 109, .int .i64 x.obj] 180)) (star (mapP bm (obM O)) (star (coreP b X bm) (star (obsP O) (star (blkP (w.heap.size + 1) 180 #[.int .u8 109, .int .i64 x.obj]) (star (blkP w.heap.size 97 x.cs) Q))))) := h2.perm (by unfold schP; ac_rfl)
  obtain ⟨A1, c1, Z⟩ := core_blk h3
  have H3 := Lib.hid h3
  have H4 := Lib.hid h4
  have x0 := X1.cell 0
  have x1 := X1.cell 1
  have x2 := X1.cell 2
  have hH : (fun w' => MapN w' bm (obM O) ∧ w'.cell? ⟨b, 1, none⟩ = some (.map (some bm)) ∧ w'.cell? ⟨w.heap.size + 1, 0, none⟩ = some (.int .u8 109) ∧ w'.cell? ⟨w.heap.size + 1, 1, none⟩ = some (.int .i64 x.obj)) ((w.alloc (.cells x.cs 97)).alloc (.cells #[.int .u8 109, .int .i64 x.obj] 180)) := ⟨map_at h4, Z.cell 1, K2.out.cell 0, K2.out.cell 1⟩
  dsimp only at hH
  clear h1 h2 h3 h4 Z X1
  have D1 : (x.k == 1) = true := by simp [hk]
  have DN : (x.n == 0) = true := by simp [hn]
  have LK := Lib.hid hl
  have LN := LK
  have HF := Lib.hid hf
  have SM := Lib.hid (show Stable (star (OS.P (w.heap.size + 1 + 1) (.m false 0 [])) (star (coreP b X bm) (star (obsP O) (star (blkP (w.heap.size + 1) 180 #[.int .u8 109, .int .i64 x.obj]) (star (blkP w.heap.size 97 x.cs) Q))))) from (OS.P_stable _ _).star ((coreP_stable _ _ _).star ((obsP_stable _).star ((blkP_stable _ _ _).star ((blkP_stable _ _ _).star hQ)))))
  have n1 := H4.out.more ((mapP_stable bm (obM O)).star ((coreP_stable b X bm).star ((obsP_stable O).star ((blkP_stable (w.heap.size + 1) 180 #[.int .u8 109, .int .i64 x.obj]).star ((blkP_stable w.heap.size 97 x.cs).star hQ))))) (F := fun k => k = ((w.alloc (.cells x.cs 97)).alloc (.cells #[.int .u8 109, .int .i64 x.obj] 180)).heap.size) (new_m ((w.alloc (.cells x.cs 97)).alloc (.cells #[.int .u8 109, .int .i64 x.obj] 180))) ((Keep.same _ _).alloc _) (fun k hk => by omega)
  rw [size_alloc, size_alloc] at n1
  have NM := Lib.hid (show Holds B w0 (((w.alloc (.cells x.cs 97)).alloc (.cells #[.int .u8 109, .int .i64 x.obj] 180)).alloc (.cells #[.slice none 0 0, .bool false, .int .i64 0] 128)) (star (mapP bm (obM O)) (star (OS.P (w.heap.size + 1 + 1) (.m false 0 [])) (star (coreP b X bm) (star (obsP O) (star (blkP (w.heap.size + 1) 180 #[.int .u8 109, .int .i64 x.obj]) (star (blkP w.heap.size 97 x.cs) Q)))))) from n1.perm (by ac_rfl))
  have SA := Lib.hid (show ∀ X', (fun w' => w'.cell? ⟨b, 1, none⟩ = some (.map (some bm)) ∧ w'.cell? ⟨w.heap.size + 1, 0, none⟩ = some (.int .u8 109) ∧ w'.cell? ⟨w.heap.size + 1, 1, none⟩ = some (.int .i64 x.obj)) X' → (fun w' => w'.cell? ⟨b, 1, none⟩ = some (.map (some bm)) ∧ w'.cell? ⟨w.heap.size + 1, 0, none⟩ = some (.int .u8 109) ∧ w'.cell? ⟨w.heap.size + 1, 1, none⟩ = some (.int .i64 x.obj)) (X'.alloc (.cells #[.slice none 0 0, .bool false, .int .i64 0] 128)) from fun X' hx => ⟨((Keep.same Nothing X').alloc _).cell hx.1 (fun h => h), ((Keep.same Nothing X').alloc _).cell hx.2.1 (fun h => h), ((Keep.same Nothing X').alloc _).cell hx.2.2 (fun h => h)⟩)
  clear h hQ hk hn hl hf n1
  unfold Op3.val Op3.cs
  go_enter Try.func91, Try.ntmps91
  go_wp2_with fail
  refine wp_region_noPanic ?_
  refine wp_region_held_drew (S := (fun w' => MapN w' bm (obM O) ∧ w'.cell? ⟨b, 1, none⟩ = some (.map (some bm)) ∧ w'.cell? ⟨w.heap.size + 1, 0, none⟩ = some (.int .u8 109) ∧ w'.cell? ⟨w.heap.size + 1, 1, none⟩ = some (.int .i64 x.obj))) (by kernel_rfl) hH (fun hHeld => ?_)
  refine tk 0 ?_
  (try simp only [pn])
  refine tk 1 ?_
  (try simp only [pn])
  refine tk 2 ?_
  (try simp only [pn])
  refine tk 3 ?_
  (try simp only [pn])
  refine tk 4 ?_
  (try simp only [pn])
  refine wpAnyH_take (i := 5) (oi := _) (v := ?_) (by simp only [List.getElem?_toArray, List.getElem?_cons_succ, List.getElem?_cons_zero]; rfl) (by kernel_rfl) (by kernel_rfl) (by kernel_rfl) (fun _ _ _ h => h) (Or.inl ⟨by rfl, ?_⟩) (by assumption) ?_
  rotate_left
  · (intro w hSw; (try dsimp only at hSw); have hlk := run_lookN hSw.1 (109, x.obj); rw [LK.out] at hlk; simp only [Option.getD_some, Option.getD_none] at hlk; go_simp; (try with_reducible rfl))
  (try simp only [pn])
  refine tk 6 ?_
  (try simp only [pn])
  refine wpAnyH_done (by kernel_rfl) ?_ _
  refine NoPanic.normal ?_
  go_wp2_with fail
  refine wp_region_noPanic ?_
  refine wp_region_held_drew (S := (fun w' => w'.cell? ⟨b, 1, none⟩ = some (.map (some bm)) ∧ w'.cell? ⟨w.heap.size + 1, 0, none⟩ = some (.int .u8 109) ∧ w'.cell? ⟨w.heap.size + 1, 1, none⟩ = some (.int .i64 x.obj))) (by kernel_rfl) hH.2 (fun hHeld => ?_)
  refine tk 0 ?_
  (try simp only [pn])
  refine tk 1 ?_
  (try simp only [pn])
  refine tk 2 ?_
  (try simp only [pn])
  refine tk 3 ?_
  (try simp only [pn])
  refine tk 4 ?_
  (try simp only [pn])
  refine tk 5 ?_
  (try simp only [pn])
  refine rd 6 (fun K hK => ?_)
  go_simp
  refine (make104 _).mono ?_
  rintro e w6 ⟨rfl, rfl⟩
  (try go_wp2_with fail)
  refine hK.out _ _ (SA.out _ hHeld) (fun hHeld => ?_)
  clear hK K
  (try simp only [pn])
  refine rd 7 (fun K hK => ?_)
  have NK := Lib.hid (NM.out.kept ((mapP_stable _ _).star SM.out) kn : Holds B w0 ((((w.alloc (.cells x.cs 97)).alloc (.cells #[.int .u8 109, .int .i64 x.obj] 180)).alloc (.cells #[.slice none 0 0, .bool false, .int .i64 0] 128)).drew.drew) (star (mapP bm (obM O)) (star (OS.P (w.heap.size + 1 + 1) (.m false 0 [])) (star (coreP b X bm) (star (obsP O) (star (blkP (w.heap.size + 1) 180 #[.int .u8 109, .int .i64 x.obj]) (star (blkP w.heap.size 97 x.cs) Q)))))))
  refine step_putN (by rfl) (.tmp 42) (.tmp 43) (.tmp 45) (by rfl) (map_at NK.out) (109, x.obj) LN.out (Value.iface 172 (Value.agg #[Value.pointer (some (⟨w.heap.size + 1 + 1, 0, none⟩ : Addr))])) (by simp [Act.eval, Act.put]) (by simp [Act.eval, Act.put]) (by simp [Act.eval, Act.put]) ?_
  intro w7 hm7 hk7
  have N7 := Lib.hid (map_put NK.out SM.out hm7 hk7)
  have n7 : Holds B w0 w7 (star (coreP b X bm) (star (mapP bm (obM O ++ [((109, x.obj), (Value.iface 172 (Value.agg #[Value.pointer (some (⟨w.heap.size + 1 + 1, 0, none⟩ : Addr))])))])) (star (OS.P (w.heap.size + 1 + 1) (.m false 0 [])) (star (obsP O) (star (blkP (w.heap.size + 1) 180 #[.int .u8 109, .int .i64 x.obj]) (star (blkP w.heap.size 97 x.cs) Q)))))) := N7.out.perm (by ac_rfl)
  have n8 : Holds B w0 w7 (star (blkP (w.heap.size + 1) 180 #[.int .u8 109, .int .i64 x.obj]) (star (coreP b X bm) (star (mapP bm (obM O ++ [((109, x.obj), (Value.iface 172 (Value.agg #[Value.pointer (some (⟨w.heap.size + 1 + 1, 0, none⟩ : Addr))])))])) (star (OS.P (w.heap.size + 1 + 1) (.m false 0 [])) (star (obsP O) (star (blkP w.heap.size 97 x.cs) Q)))))) := N7.out.perm (by ac_rfl)
  obtain ⟨A7, c7, Z7⟩ := core_blk n7
  have K7 := blk_at' n8
  have LK := Lib.hid (show lookM (obM O ++ [((109, x.obj), (Value.iface 172 (Value.agg #[Value.pointer (some (⟨w.heap.size + 1 + 1, 0, none⟩ : Addr))])))]) (109, x.obj) = some (Value.iface 172 (Value.agg #[Value.pointer (some (⟨w.heap.size + 1 + 1, 0, none⟩ : Addr))])) by rw [lookM_app, LN.out]; simp)
  have hH2 : (fun w' => MapN w' bm (obM O ++ [((109, x.obj), (Value.iface 172 (Value.agg #[Value.pointer (some (⟨w.heap.size + 1 + 1, 0, none⟩ : Addr))])))]) ∧ w'.cell? ⟨b, 1, none⟩ = some (.map (some bm)) ∧ w'.cell? ⟨w.heap.size + 1, 0, none⟩ = some (.int .u8 109) ∧ w'.cell? ⟨w.heap.size + 1, 1, none⟩ = some (.int .i64 x.obj)) w7 := ⟨hm7, Z7.cell 1, K7.cell 0, K7.cell 1⟩
  have hHS := hH2.2
  dsimp only at hH2
  clear hm7 hk7 n7 n8 Z7 K7
  refine hK.out _ _ hHS (fun hHeld => ?_)
  clear hK K
  (try simp only [pn])
  refine wpAnyH_done (by kernel_rfl) ?_ _
  refine NoPanic.normal ?_
  clear hH hHS
  go_wp2_with fail
  refine wp_region_noPanic ?_
  refine wp_region_held_drew (S := (fun w' => MapN w' bm (obM O ++ [((109, x.obj), (Value.iface 172 (Value.agg #[Value.pointer (some (⟨w.heap.size + 1 + 1, 0, none⟩ : Addr))])))]) ∧ w'.cell? ⟨b, 1, none⟩ = some (.map (some bm)) ∧ w'.cell? ⟨w.heap.size + 1, 0, none⟩ = some (.int .u8 109) ∧ w'.cell? ⟨w.heap.size + 1, 1, none⟩ = some (.int .i64 x.obj))) (by kernel_rfl) hH2 (fun hHeld => ?_)
  refine tk 0 ?_
  (try simp only [pn])
  refine tk 1 ?_
  (try simp only [pn])
  refine tk 2 ?_
  (try simp only [pn])
  refine tk 3 ?_
  (try simp only [pn])
  refine tk 4 ?_
  (try simp only [pn])
  refine wpAnyH_take (i := 5) (oi := _) (v := ?_) (by simp only [List.getElem?_toArray, List.getElem?_cons_succ, List.getElem?_cons_zero]; rfl) (by kernel_rfl) (by kernel_rfl) (by kernel_rfl) (fun _ _ _ h => h) (Or.inl ⟨by rfl, ?_⟩) (by assumption) ?_
  rotate_left
  · (intro w hSw; (try dsimp only at hSw); have hlk := run_lookN hSw.1 (109, x.obj); rw [LK.out] at hlk; simp only [Option.getD_some, Option.getD_none] at hlk; go_simp; (try with_reducible rfl))
  (try simp only [pn])
  refine tk 6 ?_
  (try simp only [pn])
  refine wpAnyH_done (by kernel_rfl) ?_ _
  refine NoPanic.normal ?_
  clear hH2
  go_wp2_with fail
  go_ret
  refine ⟨O ++ [⟨x.obj, w.heap.size + 1 + 1, .m false 0 []⟩], O.length, ⟨x.obj, w.heap.size + 1 + 1, .m false 0 []⟩, rfl, by simp, rfl, fun j o' hj ho' => HF.out o' (List.mem_of_getElem? (by rw [List.getElem?_append_left hj] at ho'; exact ho')), .inr ⟨rfl, rfl, HF.out⟩, ?_⟩
  have g : Holds B w0 w7 (star (blkP (w.heap.size + 1) 180 #[.int .u8 109, .int .i64 x.obj]) (star (blkP w.heap.size 97 x.cs) (star (schP b X bm (O ++ [⟨x.obj, w.heap.size + 1 + 1, .m false 0 []⟩])) Q))) := N7.out.perm (by
    unfold schP
    rw [obsP_push, show obM (O ++ [⟨x.obj, w.heap.size + 1 + 1, .m false 0 []⟩]) = obM O ++ [((109, x.obj), (Value.iface 172 (Value.agg #[Value.pointer (some (⟨w.heap.size + 1 + 1, 0, none⟩ : Addr))])))] by simp [obM]; exact ⟨rfl, rfl⟩]
    show star (mapP bm _) (star (OS.P (w.heap.size + 1 + 1) (.m false 0 [])) (star (coreP b X bm) (star (obsP O) (star (blkP (w.heap.size + 1) 180 #[.int .u8 109, .int .i64 x.obj]) (star (blkP w.heap.size 97 x.cs) Q))))) = star _ (star _ (star (star (coreP b X bm) (star (mapP bm _) (star (OS.P (w.heap.size + 1 + 1) (.m false 0 [])) (obsP O)))) Q))
    ac_rfl)
  exact g.drop.drop.kept (schP_stable.star HQ.out) kn
theorem find_old2_0 (h : Holds B w0 w (star (schP b X bm O) Q)) (hQ : Stable Q) (x : Op3) (hk : x.k = 2) (hn : x.n = 0) (i : Nat) (o : Ob) (ho : O[i]? = some o) (hon : o.key = (109, x.obj)) (hl : lookM (obM O) (109, x.obj) = some o.v) (hf : ∀ (j : Nat) (o' : Ob), j < i → O[j]? = some o' → o'.key ≠ (109, x.obj)) :
    Calls Try.prog 91 #[.pointer (some ⟨b, 0, none⟩), x.val] w (FindPost B w0 b X bm O (109, x.obj) Q) := by
  have hu := Try.underlying139
  have hu2 := Try.underlying97
  have hu3 := Try.underlying180
  have HQ := Lib.hid hQ
  have SQ := Lib.hid (show Stable (star (schP b X bm O) Q) from schP_stable.star hQ)
  have h1 := h.newBlk SQ.out 97 x.cs
  have h2 := h1.newBlk ((blkP_stable _ _ _).star SQ.out) 180 #[.int .u8 109, .int .i64 x.obj]
  rw [size_alloc] at h2
  have H2 := Lib.hid h2
  have X1 := blk_at' h1
  have K2 := Lib.hid (blk_at' h2)
  have h3 : Holds B w0 ((w.alloc (.cells x.cs 97)).alloc (.cells #[.int .u8 109, .int .i64 x.obj] 180)) (star (coreP b X bm) (star (mapP bm (obM O)) (star (obsP O) (star (blkP (w.heap.size + 1) 180 #[.int .u8 109, .int .i64 x.obj]) (star (blkP w.heap.size 97 x.cs) Q))))) := h2.perm (by unfold schP; ac_rfl)
  have h4 : Holds B w0 ((w.alloc (.cells x.cs 97)).alloc (.cells #[.int .u8 109, .int .i64 x.obj] 180)) (star (mapP bm (obM O)) (star (coreP b X bm) (star (obsP O) (star (blkP (w.heap.size + 1) 180 #[.int .u8 109, .int .i64 x.obj]) (star (blkP w.heap.size 97 x.cs) Q))))) := h2.perm (by unfold schP; ac_rfl)
  obtain ⟨A1, c1, Z⟩ := core_blk h3
  have H3 := Lib.hid h3
  have H4 := Lib.hid h4
  have x0 := X1.cell 0
  have x1 := X1.cell 1
  have x2 := X1.cell 2
  have hH : (fun w' => MapN w' bm (obM O) ∧ w'.cell? ⟨b, 1, none⟩ = some (.map (some bm)) ∧ w'.cell? ⟨w.heap.size + 1, 0, none⟩ = some (.int .u8 109) ∧ w'.cell? ⟨w.heap.size + 1, 1, none⟩ = some (.int .i64 x.obj)) ((w.alloc (.cells x.cs 97)).alloc (.cells #[.int .u8 109, .int .i64 x.obj] 180)) := ⟨map_at h4, Z.cell 1, K2.out.cell 0, K2.out.cell 1⟩
  dsimp only at hH
  clear h1 h2 h3 h4 Z X1
  have D1 : (x.k == 1) = false := by simp [hk]
  have D2 : (x.k == 2) = true := by simp [hk]
  have DN : (x.n == 0) = true := by simp [hn]
  have LK := Lib.hid (show lookM (obM O) (109, x.obj) = some (Value.iface 172 (.agg #[.pointer (some ⟨o.g, 0, none⟩)])) by rw [hl]; unfold Ob.v; rw [(Prod.mk.inj hon).1]; rfl)
  have HV := Lib.hid (show Value.iface 172 (.agg #[.pointer (some ⟨o.g, 0, none⟩)]) = o.v by unfold Ob.v; rw [(Prod.mk.inj hon).1]; rfl)
  have HO := Lib.hid ho
  have HON := Lib.hid hon
  have HF := Lib.hid hf
  have hH2 := hH
  clear h hQ hk hn hl ho hon hf
  unfold Op3.val Op3.cs
  go_enter Try.func91, Try.ntmps91
  go_wp2_with fail
  refine wp_region_noPanic ?_
  refine wp_region_held_drew (S := (fun w' => MapN w' bm (obM O) ∧ w'.cell? ⟨b, 1, none⟩ = some (.map (some bm)) ∧ w'.cell? ⟨w.heap.size + 1, 0, none⟩ = some (.int .u8 109) ∧ w'.cell? ⟨w.heap.size + 1, 1, none⟩ = some (.int .i64 x.obj))) (by kernel_rfl) hH (fun hHeld => ?_)
  refine tk 0 ?_
  (try simp only [pn])
  refine tk 1 ?_
  (try simp only [pn])
  refine tk 2 ?_
  (try simp only [pn])
  refine tk 3 ?_
  (try simp only [pn])
  refine tk 4 ?_
  (try simp only [pn])
  refine wpAnyH_take (i := 5) (oi := _) (v := ?_) (by simp only [List.getElem?_toArray, List.getElem?_cons_succ, List.getElem?_cons_zero]; rfl) (by kernel_rfl) (by kernel_rfl) (by kernel_rfl) (fun _ _ _ h => h) (Or.inl ⟨by rfl, ?_⟩) (by assumption) ?_
  rotate_left
  · (intro w hSw; (try dsimp only at hSw); have hlk := run_lookN hSw.1 (109, x.obj); rw [LK.out] at hlk; simp only [Option.getD_some, Option.getD_none] at hlk; go_simp; (try with_reducible rfl))
  (try simp only [pn])
  refine tk 6 ?_
  (try simp only [pn])
  refine wpAnyH_done (by kernel_rfl) ?_ _
  refine NoPanic.normal ?_
  clear hH
  go_wp2_with fail
  refine wp_region_noPanic ?_
  refine wp_region_held_drew (S := (fun w' => MapN w' bm (obM O) ∧ w'.cell? ⟨b, 1, none⟩ = some (.map (some bm)) ∧ w'.cell? ⟨w.heap.size + 1, 0, none⟩ = some (.int .u8 109) ∧ w'.cell? ⟨w.heap.size + 1, 1, none⟩ = some (.int .i64 x.obj))) (by kernel_rfl) hH2 (fun hHeld => ?_)
  refine tk 0 ?_
  (try simp only [pn])
  refine tk 1 ?_
  (try simp only [pn])
  refine tk 2 ?_
  (try simp only [pn])
  refine tk 3 ?_
  (try simp only [pn])
  refine tk 4 ?_
  (try simp only [pn])
  refine wpAnyH_take (i := 5) (oi := _) (v := ?_) (by simp only [List.getElem?_toArray, List.getElem?_cons_succ, List.getElem?_cons_zero]; rfl) (by kernel_rfl) (by kernel_rfl) (by kernel_rfl) (fun _ _ _ h => h) (Or.inl ⟨by rfl, ?_⟩) (by assumption) ?_
  rotate_left
  · (intro w hSw; (try dsimp only at hSw); have hlk := run_lookN hSw.1 (109, x.obj); rw [LK.out] at hlk; simp only [Option.getD_some, Option.getD_none] at hlk; go_simp; (try with_reducible rfl))
  (try simp only [pn])
  refine tk 6 ?_
  (try simp only [pn])
  refine wpAnyH_done (by kernel_rfl) ?_ _
  refine NoPanic.normal ?_
  clear hH2
  go_wp2_with fail
  go_ret
  refine ⟨O, i, o, by (rw [← HV.out]; rfl), HO.out, HON.out, HF.out, .inl rfl, ?_⟩
  have g : Holds B w0 ((w.alloc (.cells x.cs 97)).alloc (.cells #[.int .u8 109, .int .i64 x.obj] 180)) (star (blkP (w.heap.size + 1) 180 #[.int .u8 109, .int .i64 x.obj]) (star (blkP w.heap.size 97 x.cs) (star (schP b X bm O) Q))) := H2.out
  exact g.drop.drop.kept SQ.out kn
theorem find_new2_0 (h : Holds B w0 w (star (schP b X bm O) Q)) (hQ : Stable Q) (x : Op3) (hk : x.k = 2) (hn : x.n = 0) (hl : lookM (obM O) (109, x.obj) = none) (hf : ∀ o ∈ O, o.key ≠ (109, x.obj)) :
    Calls Try.prog 91 #[.pointer (some ⟨b, 0, none⟩), x.val] w (FindPost B w0 b X bm O (109, x.obj) Q) := by
  have hu := Try.underlying139
  have hu2 := Try.underlying97
  have hu3 := Try.underlying180
  have HQ := Lib.hid hQ
  have SQ := Lib.hid (show Stable (star (schP b X bm O) Q) from schP_stable.star hQ)
  have h1 := h.newBlk SQ.out 97 x.cs
  have h2 := h1.newBlk ((blkP_stable _ _ _).star SQ.out) 180 #[.int .u8 109, .int .i64 x.obj]
  rw [size_alloc] at h2
  have H2 := Lib.hid h2
  have X1 := blk_at' h1
  have K2 := Lib.hid (blk_at' h2)
  have h3 : Holds B w0 ((w.alloc (.cells x.cs 97)).alloc (.cells #[.int .u8 109, .int .i64 x.obj] 180)) (star (coreP b X bm) (star (mapP bm (obM O)) (star (obsP O) (star (blkP (w.heap.size + 1) 180 #[.int .u8 109, .int .i64 x.obj]) (star (blkP w.heap.size 97 x.cs) Q))))) := h2.perm (by unfold schP; ac_rfl)
  have h4 : Holds B w0 ((w.alloc (.cells x.cs 97)).alloc (.cells #[.int .u8 109, .int .i64 x.obj] 180)) (star (mapP bm (obM O)) (star (coreP b X bm) (star (obsP O) (star (blkP (w.heap.size + 1) 180 #[.int .u8 109, .int .i64 x.obj]) (star (blkP w.heap.size 97 x.cs) Q))))) := h2.perm (by unfold schP; ac_rfl)
  obtain ⟨A1, c1, Z⟩ := core_blk h3
  have H3 := Lib.hid h3
  have H4 := Lib.hid h4
  have x0 := X1.cell 0
  have x1 := X1.cell 1
  have x2 := X1.cell 2
  have hH : (fun w' => MapN w' bm (obM O) ∧ w'.cell? ⟨b, 1, none⟩ = some (.map (some bm)) ∧ w'.cell? ⟨w.heap.size + 1, 0, none⟩ = some (.int .u8 109) ∧ w'.cell? ⟨w.heap.size + 1, 1, none⟩ = some (.int .i64 x.obj)) ((w.alloc (.cells x.cs 97)).alloc (.cells #[.int .u8 109, .int .i64 x.obj] 180)) := ⟨map_at h4, Z.cell 1, K2.out.cell 0, K2.out.cell 1⟩
  dsimp only at hH
  clear h1 h2 h3 h4 Z X1
  have D1 : (x.k == 1) = false := by simp [hk]
  have D2 : (x.k == 2) = true := by simp [hk]
  have DN : (x.n == 0) = true := by simp [hn]
  have LK := Lib.hid hl
  have LN := LK
  have HF := Lib.hid hf
  have SM := Lib.hid (show Stable (star (OS.P (w.heap.size + 1 + 1) (.m false 0 [])) (star (coreP b X bm) (star (obsP O) (star (blkP (w.heap.size + 1) 180 #[.int .u8 109, .int .i64 x.obj]) (star (blkP w.heap.size 97 x.cs) Q))))) from (OS.P_stable _ _).star ((coreP_stable _ _ _).star ((obsP_stable _).star ((blkP_stable _ _ _).star ((blkP_stable _ _ _).star hQ)))))
  have n1 := H4.out.more ((mapP_stable bm (obM O)).star ((coreP_stable b X bm).star ((obsP_stable O).star ((blkP_stable (w.heap.size + 1) 180 #[.int .u8 109, .int .i64 x.obj]).star ((blkP_stable w.heap.size 97 x.cs).star hQ))))) (F := fun k => k = ((w.alloc (.cells x.cs 97)).alloc (.cells #[.int .u8 109, .int .i64 x.obj] 180)).heap.size) (new_m ((w.alloc (.cells x.cs 97)).alloc (.cells #[.int .u8 109, .int .i64 x.obj] 180))) ((Keep.same _ _).alloc _) (fun k hk => by omega)
  rw [size_alloc, size_alloc] at n1
  have NM := Lib.hid (show Holds B w0 (((w.alloc (.cells x.cs 97)).alloc (.cells #[.int .u8 109, .int .i64 x.obj] 180)).alloc (.cells #[.slice none 0 0, .bool false, .int .i64 0] 128)) (star (mapP bm (obM O)) (star (OS.P (w.heap.size + 1 + 1) (.m false 0 [])) (star (coreP b X bm) (star (obsP O) (star (blkP (w.heap.size + 1) 180 #[.int .u8 109, .int .i64 x.obj]) (star (blkP w.heap.size 97 x.cs) Q)))))) from n1.perm (by ac_rfl))
  have SA := Lib.hid (show ∀ X', (fun w' => w'.cell? ⟨b, 1, none⟩ = some (.map (some bm)) ∧ w'.cell? ⟨w.heap.size + 1, 0, none⟩ = some (.int .u8 109) ∧ w'.cell? ⟨w.heap.size + 1, 1, none⟩ = some (.int .i64 x.obj)) X' → (fun w' => w'.cell? ⟨b, 1, none⟩ = some (.map (some bm)) ∧ w'.cell? ⟨w.heap.size + 1, 0, none⟩ = some (.int .u8 109) ∧ w'.cell? ⟨w.heap.size + 1, 1, none⟩ = some (.int .i64 x.obj)) (X'.alloc (.cells #[.slice none 0 0, .bool false, .int .i64 0] 128)) from fun X' hx => ⟨((Keep.same Nothing X').alloc _).cell hx.1 (fun h => h), ((Keep.same Nothing X').alloc _).cell hx.2.1 (fun h => h), ((Keep.same Nothing X').alloc _).cell hx.2.2 (fun h => h)⟩)
  clear h hQ hk hn hl hf n1
  unfold Op3.val Op3.cs
  go_enter Try.func91, Try.ntmps91
  go_wp2_with fail
  refine wp_region_noPanic ?_
  refine wp_region_held_drew (S := (fun w' => MapN w' bm (obM O) ∧ w'.cell? ⟨b, 1, none⟩ = some (.map (some bm)) ∧ w'.cell? ⟨w.heap.size + 1, 0, none⟩ = some (.int .u8 109) ∧ w'.cell? ⟨w.heap.size + 1, 1, none⟩ = some (.int .i64 x.obj))) (by kernel_rfl) hH (fun hHeld => ?_)
  refine tk 0 ?_
  (try simp only [pn])
  refine tk 1 ?_
  (try simp only [pn])
  refine tk 2 ?_
  (try simp only [pn])
  refine tk 3 ?_
  (try simp only [pn])
  refine tk 4 ?_
  (try simp only [pn])
  refine wpAnyH_take (i := 5) (oi := _) (v := ?_) (by simp only [List.getElem?_toArray, List.getElem?_cons_succ, List.getElem?_cons_zero]; rfl) (by kernel_rfl) (by kernel_rfl) (by kernel_rfl) (fun _ _ _ h => h) (Or.inl ⟨by rfl, ?_⟩) (by assumption) ?_
  rotate_left
  · (intro w hSw; (try dsimp only at hSw); have hlk := run_lookN hSw.1 (109, x.obj); rw [LK.out] at hlk; simp only [Option.getD_some, Option.getD_none] at hlk; go_simp; (try with_reducible rfl))
  (try simp only [pn])
  refine tk 6 ?_
  (try simp only [pn])
  refine wpAnyH_done (by kernel_rfl) ?_ _
  refine NoPanic.normal ?_
  go_wp2_with fail
  refine wp_region_noPanic ?_
  refine wp_region_held_drew (S := (fun w' => w'.cell? ⟨b, 1, none⟩ = some (.map (some bm)) ∧ w'.cell? ⟨w.heap.size + 1, 0, none⟩ = some (.int .u8 109) ∧ w'.cell? ⟨w.heap.size + 1, 1, none⟩ = some (.int .i64 x.obj))) (by kernel_rfl) hH.2 (fun hHeld => ?_)
  refine tk 0 ?_
  (try simp only [pn])
  refine tk 1 ?_
  (try simp only [pn])
  refine tk 2 ?_
  (try simp only [pn])
  refine tk 3 ?_
  (try simp only [pn])
  refine tk 4 ?_
  (try simp only [pn])
  refine tk 5 ?_
  (try simp only [pn])
  refine rd 6 (fun K hK => ?_)
  go_simp
  refine (make104 _).mono ?_
  rintro e w6 ⟨rfl, rfl⟩
  (try go_wp2_with fail)
  refine hK.out _ _ (SA.out _ hHeld) (fun hHeld => ?_)
  clear hK K
  (try simp only [pn])
  refine rd 7 (fun K hK => ?_)
  have NK := Lib.hid (NM.out.kept ((mapP_stable _ _).star SM.out) kn : Holds B w0 ((((w.alloc (.cells x.cs 97)).alloc (.cells #[.int .u8 109, .int .i64 x.obj] 180)).alloc (.cells #[.slice none 0 0, .bool false, .int .i64 0] 128)).drew.drew) (star (mapP bm (obM O)) (star (OS.P (w.heap.size + 1 + 1) (.m false 0 [])) (star (coreP b X bm) (star (obsP O) (star (blkP (w.heap.size + 1) 180 #[.int .u8 109, .int .i64 x.obj]) (star (blkP w.heap.size 97 x.cs) Q)))))))
  refine step_putN (by rfl) (.tmp 42) (.tmp 43) (.tmp 45) (by rfl) (map_at NK.out) (109, x.obj) LN.out (Value.iface 172 (Value.agg #[Value.pointer (some (⟨w.heap.size + 1 + 1, 0, none⟩ : Addr))])) (by simp [Act.eval, Act.put]) (by simp [Act.eval, Act.put]) (by simp [Act.eval, Act.put]) ?_
  intro w7 hm7 hk7
  have N7 := Lib.hid (map_put NK.out SM.out hm7 hk7)
  have n7 : Holds B w0 w7 (star (coreP b X bm) (star (mapP bm (obM O ++ [((109, x.obj), (Value.iface 172 (Value.agg #[Value.pointer (some (⟨w.heap.size + 1 + 1, 0, none⟩ : Addr))])))])) (star (OS.P (w.heap.size + 1 + 1) (.m false 0 [])) (star (obsP O) (star (blkP (w.heap.size + 1) 180 #[.int .u8 109, .int .i64 x.obj]) (star (blkP w.heap.size 97 x.cs) Q)))))) := N7.out.perm (by ac_rfl)
  have n8 : Holds B w0 w7 (star (blkP (w.heap.size + 1) 180 #[.int .u8 109, .int .i64 x.obj]) (star (coreP b X bm) (star (mapP bm (obM O ++ [((109, x.obj), (Value.iface 172 (Value.agg #[Value.pointer (some (⟨w.heap.size + 1 + 1, 0, none⟩ : Addr))])))])) (star (OS.P (w.heap.size + 1 + 1) (.m false 0 [])) (star (obsP O) (star (blkP w.heap.size 97 x.cs) Q)))))) := N7.out.perm (by ac_rfl)
  obtain ⟨A7, c7, Z7⟩ := core_blk n7
  have K7 := blk_at' n8
  have LK := Lib.hid (show lookM (obM O ++ [((109, x.obj), (Value.iface 172 (Value.agg #[Value.pointer (some (⟨w.heap.size + 1 + 1, 0, none⟩ : Addr))])))]) (109, x.obj) = some (Value.iface 172 (Value.agg #[Value.pointer (some (⟨w.heap.size + 1 + 1, 0, none⟩ : Addr))])) by rw [lookM_app, LN.out]; simp)
  have hH2 : (fun w' => MapN w' bm (obM O ++ [((109, x.obj), (Value.iface 172 (Value.agg #[Value.pointer (some (⟨w.heap.size + 1 + 1, 0, none⟩ : Addr))])))]) ∧ w'.cell? ⟨b, 1, none⟩ = some (.map (some bm)) ∧ w'.cell? ⟨w.heap.size + 1, 0, none⟩ = some (.int .u8 109) ∧ w'.cell? ⟨w.heap.size + 1, 1, none⟩ = some (.int .i64 x.obj)) w7 := ⟨hm7, Z7.cell 1, K7.cell 0, K7.cell 1⟩
  have hHS := hH2.2
  dsimp only at hH2
  clear hm7 hk7 n7 n8 Z7 K7
  refine hK.out _ _ hHS (fun hHeld => ?_)
  clear hK K
  (try simp only [pn])
  refine wpAnyH_done (by kernel_rfl) ?_ _
  refine NoPanic.normal ?_
  clear hH hHS
  go_wp2_with fail
  refine wp_region_noPanic ?_
  refine wp_region_held_drew (S := (fun w' => MapN w' bm (obM O ++ [((109, x.obj), (Value.iface 172 (Value.agg #[Value.pointer (some (⟨w.heap.size + 1 + 1, 0, none⟩ : Addr))])))]) ∧ w'.cell? ⟨b, 1, none⟩ = some (.map (some bm)) ∧ w'.cell? ⟨w.heap.size + 1, 0, none⟩ = some (.int .u8 109) ∧ w'.cell? ⟨w.heap.size + 1, 1, none⟩ = some (.int .i64 x.obj))) (by kernel_rfl) hH2 (fun hHeld => ?_)
  refine tk 0 ?_
  (try simp only [pn])
  refine tk 1 ?_
  (try simp only [pn])
  refine tk 2 ?_
  (try simp only [pn])
  refine tk 3 ?_
  (try simp only [pn])
  refine tk 4 ?_
  (try simp only [pn])
  refine wpAnyH_take (i := 5) (oi := _) (v := ?_) (by simp only [List.getElem?_toArray, List.getElem?_cons_succ, List.getElem?_cons_zero]; rfl) (by kernel_rfl) (by kernel_rfl) (by kernel_rfl) (fun _ _ _ h => h) (Or.inl ⟨by rfl, ?_⟩) (by assumption) ?_
  rotate_left
  · (intro w hSw; (try dsimp only at hSw); have hlk := run_lookN hSw.1 (109, x.obj); rw [LK.out] at hlk; simp only [Option.getD_some, Option.getD_none] at hlk; go_simp; (try with_reducible rfl))
  (try simp only [pn])
  refine tk 6 ?_
  (try simp only [pn])
  refine wpAnyH_done (by kernel_rfl) ?_ _
  refine NoPanic.normal ?_
  clear hH2
  go_wp2_with fail
  go_ret
  refine ⟨O ++ [⟨x.obj, w.heap.size + 1 + 1, .m false 0 []⟩], O.length, ⟨x.obj, w.heap.size + 1 + 1, .m false 0 []⟩, rfl, by simp, rfl, fun j o' hj ho' => HF.out o' (List.mem_of_getElem? (by rw [List.getElem?_append_left hj] at ho'; exact ho')), .inr ⟨rfl, rfl, HF.out⟩, ?_⟩
  have g : Holds B w0 w7 (star (blkP (w.heap.size + 1) 180 #[.int .u8 109, .int .i64 x.obj]) (star (blkP w.heap.size 97 x.cs) (star (schP b X bm (O ++ [⟨x.obj, w.heap.size + 1 + 1, .m false 0 []⟩])) Q))) := N7.out.perm (by
    unfold schP
    rw [obsP_push, show obM (O ++ [⟨x.obj, w.heap.size + 1 + 1, .m false 0 []⟩]) = obM O ++ [((109, x.obj), (Value.iface 172 (Value.agg #[Value.pointer (some (⟨w.heap.size + 1 + 1, 0, none⟩ : Addr))])))] by simp [obM]; exact ⟨rfl, rfl⟩]
    show star (mapP bm _) (star (OS.P (w.heap.size + 1 + 1) (.m false 0 [])) (star (coreP b X bm) (star (obsP O) (star (blkP (w.heap.size + 1) 180 #[.int .u8 109, .int .i64 x.obj]) (star (blkP w.heap.size 97 x.cs) Q))))) = star _ (star _ (star (star (coreP b X bm) (star (mapP bm _) (star (OS.P (w.heap.size + 1 + 1) (.m false 0 [])) (obsP O)))) Q))
    ac_rfl)
  exact g.drop.drop.kept (schP_stable.star HQ.out) kn
theorem find_old5 (h : Holds B w0 w (star (schP b X bm O) Q)) (hQ : Stable Q) (x : Op3) (hk : x.k = 5) (i : Nat) (o : Ob) (ho : O[i]? = some o) (hon : o.key = (103, x.obj)) (hl : lookM (obM O) (103, x.obj) = some o.v) (hf : ∀ (j : Nat) (o' : Ob), j < i → O[j]? = some o' → o'.key ≠ (103, x.obj)) :
    Calls Try.prog 91 #[.pointer (some ⟨b, 0, none⟩), x.val] w (FindPost B w0 b X bm O (103, x.obj) Q) := by
  have hu := Try.underlying139
  have hu2 := Try.underlying97
  have hu3 := Try.underlying180
  have HQ := Lib.hid hQ
  have SQ := Lib.hid (show Stable (star (schP b X bm O) Q) from schP_stable.star hQ)
  have h1 := h.newBlk SQ.out 97 x.cs
  have h2 := h1.newBlk ((blkP_stable _ _ _).star SQ.out) 180 #[.int .u8 103, .int .i64 x.obj]
  rw [size_alloc] at h2
  have H2 := Lib.hid h2
  have X1 := blk_at' h1
  have K2 := Lib.hid (blk_at' h2)
  have h3 : Holds B w0 ((w.alloc (.cells x.cs 97)).alloc (.cells #[.int .u8 103, .int .i64 x.obj] 180)) (star (coreP b X bm) (star (mapP bm (obM O)) (star (obsP O) (star (blkP (w.heap.size + 1) 180 #[.int .u8 103, .int .i64 x.obj]) (star (blkP w.heap.size 97 x.cs) Q))))) := h2.perm (by unfold schP; ac_rfl)
  have h4 : Holds B w0 ((w.alloc (.cells x.cs 97)).alloc (.cells #[.int .u8 103, .int .i64 x.obj] 180)) (star (mapP bm (obM O)) (star (coreP b X bm) (star (obsP O) (star (blkP (w.heap.size + 1) 180 #[.int .u8 103, .int .i64 x.obj]) (star (blkP w.heap.size 97 x.cs) Q))))) := h2.perm (by unfold schP; ac_rfl)
  obtain ⟨A1, c1, Z⟩ := core_blk h3
  have H3 := Lib.hid h3
  have H4 := Lib.hid h4
  have x0 := X1.cell 0
  have x1 := X1.cell 1
  have x2 := X1.cell 2
  have hH : (fun w' => MapN w' bm (obM O) ∧ w'.cell? ⟨b, 1, none⟩ = some (.map (some bm)) ∧ w'.cell? ⟨w.heap.size + 1, 0, none⟩ = some (.int .u8 103) ∧ w'.cell? ⟨w.heap.size + 1, 1, none⟩ = some (.int .i64 x.obj)) ((w.alloc (.cells x.cs 97)).alloc (.cells #[.int .u8 103, .int .i64 x.obj] 180)) := ⟨map_at h4, Z.cell 1, K2.out.cell 0, K2.out.cell 1⟩
  dsimp only at hH
  clear h1 h2 h3 h4 Z X1
  have D1 : (x.k == 1) = false := by simp [hk]
  have D2 : (x.k == 2) = false := by simp [hk]
  have D3 : (x.k == 3) = false := by simp [hk]
  have D4 : (x.k == 4) = false := by simp [hk]
  have D5 : (x.k == 5) = true := by simp [hk]
  have LK := Lib.hid (show lookM (obM O) (103, x.obj) = some (Value.iface 176 (.agg #[.pointer (some ⟨o.g, 0, none⟩)])) by rw [hl]; unfold Ob.v; rw [(Prod.mk.inj hon).1]; rfl)
  have HV := Lib.hid (show Value.iface 176 (.agg #[.pointer (some ⟨o.g, 0, none⟩)]) = o.v by unfold Ob.v; rw [(Prod.mk.inj hon).1]; rfl)
  have HO := Lib.hid ho
  have HON := Lib.hid hon
  have HF := Lib.hid hf
  have hH2 := hH
  clear h hQ hk hl ho hon hf
  unfold Op3.val Op3.cs
  go_enter Try.func91, Try.ntmps91
  go_wp2_with fail
  refine wp_region_noPanic ?_
  refine wp_region_held_drew (S := (fun w' => MapN w' bm (obM O) ∧ w'.cell? ⟨b, 1, none⟩ = some (.map (some bm)) ∧ w'.cell? ⟨w.heap.size + 1, 0, none⟩ = some (.int .u8 103) ∧ w'.cell? ⟨w.heap.size + 1, 1, none⟩ = some (.int .i64 x.obj))) (by kernel_rfl) hH (fun hHeld => ?_)
  refine tk 0 ?_
  (try simp only [pn])
  refine tk 1 ?_
  (try simp only [pn])
  refine tk 2 ?_
  (try simp only [pn])
  refine tk 3 ?_
  (try simp only [pn])
  refine tk 4 ?_
  (try simp only [pn])
  refine wpAnyH_take (i := 5) (oi := _) (v := ?_) (by simp only [List.getElem?_toArray, List.getElem?_cons_succ, List.getElem?_cons_zero]; rfl) (by kernel_rfl) (by kernel_rfl) (by kernel_rfl) (fun _ _ _ h => h) (Or.inl ⟨by rfl, ?_⟩) (by assumption) ?_
  rotate_left
  · (intro w hSw; (try dsimp only at hSw); have hlk := run_lookN hSw.1 (103, x.obj); rw [LK.out] at hlk; simp only [Option.getD_some, Option.getD_none] at hlk; go_simp; (try with_reducible rfl))
  (try simp only [pn])
  refine tk 6 ?_
  (try simp only [pn])
  refine wpAnyH_done (by kernel_rfl) ?_ _
  refine NoPanic.normal ?_
  clear hH
  go_wp2_with fail
  refine wp_region_noPanic ?_
  refine wp_region_held_drew (S := (fun w' => MapN w' bm (obM O) ∧ w'.cell? ⟨b, 1, none⟩ = some (.map (some bm)) ∧ w'.cell? ⟨w.heap.size + 1, 0, none⟩ = some (.int .u8 103) ∧ w'.cell? ⟨w.heap.size + 1, 1, none⟩ = some (.int .i64 x.obj))) (by kernel_rfl) hH2 (fun hHeld => ?_)
  refine tk 0 ?_
  (try simp only [pn])
  refine tk 1 ?_
  (try simp only [pn])
  refine tk 2 ?_
  (try simp only [pn])
  refine tk 3 ?_
  (try simp only [pn])
  refine tk 4 ?_
  (try simp only [pn])
  refine wpAnyH_take (i := 5) (oi := _) (v := ?_) (by simp only [List.getElem?_toArray, List.getElem?_cons_succ, List.getElem?_cons_zero]; rfl) (by kernel_rfl) (by kernel_rfl) (by kernel_rfl) (fun _ _ _ h => h) (Or.inl ⟨by rfl, ?_⟩) (by assumption) ?_
  rotate_left
  · (intro w hSw; (try dsimp only at hSw); have hlk := run_lookN hSw.1 (103, x.obj); rw [LK.out] at hlk; simp only [Option.getD_some, Option.getD_none] at hlk; go_simp; (try with_reducible rfl))
  (try simp only [pn])
  refine tk 6 ?_
  (try simp only [pn])
  refine wpAnyH_done (by kernel_rfl) ?_ _
  refine NoPanic.normal ?_
  clear hH2
  go_wp2_with fail
  go_ret
  refine ⟨O, i, o, by (rw [← HV.out]; rfl), HO.out, HON.out, HF.out, .inl rfl, ?_⟩
  have g : Holds B w0 ((w.alloc (.cells x.cs 97)).alloc (.cells #[.int .u8 103, .int .i64 x.obj] 180)) (star (blkP (w.heap.size + 1) 180 #[.int .u8 103, .int .i64 x.obj]) (star (blkP w.heap.size 97 x.cs) (star (schP b X bm O) Q))) := H2.out
  exact g.drop.drop.kept SQ.out kn
theorem find_new5 (h : Holds B w0 w (star (schP b X bm O) Q)) (hQ : Stable Q) (x : Op3) (hk : x.k = 5) (hl : lookM (obM O) (103, x.obj) = none) (hf : ∀ o ∈ O, o.key ≠ (103, x.obj)) :
    Calls Try.prog 91 #[.pointer (some ⟨b, 0, none⟩), x.val] w (FindPost B w0 b X bm O (103, x.obj) Q) := by
  have hu := Try.underlying139
  have hu2 := Try.underlying97
  have hu3 := Try.underlying180
  have HQ := Lib.hid hQ
  have SQ := Lib.hid (show Stable (star (schP b X bm O) Q) from schP_stable.star hQ)
  have h1 := h.newBlk SQ.out 97 x.cs
  have h2 := h1.newBlk ((blkP_stable _ _ _).star SQ.out) 180 #[.int .u8 103, .int .i64 x.obj]
  rw [size_alloc] at h2
  have H2 := Lib.hid h2
  have X1 := blk_at' h1
  have K2 := Lib.hid (blk_at' h2)
  have h3 : Holds B w0 ((w.alloc (.cells x.cs 97)).alloc (.cells #[.int .u8 103, .int .i64 x.obj] 180)) (star (coreP b X bm) (star (mapP bm (obM O)) (star (obsP O) (star (blkP (w.heap.size + 1) 180 #[.int .u8 103, .int .i64 x.obj]) (star (blkP w.heap.size 97 x.cs) Q))))) := h2.perm (by unfold schP; ac_rfl)
  have h4 : Holds B w0 ((w.alloc (.cells x.cs 97)).alloc (.cells #[.int .u8 103, .int .i64 x.obj] 180)) (star (mapP bm (obM O)) (star (coreP b X bm) (star (obsP O) (star (blkP (w.heap.size + 1) 180 #[.int .u8 103, .int .i64 x.obj]) (star (blkP w.heap.size 97 x.cs) Q))))) := h2.perm (by unfold schP; ac_rfl)
  obtain ⟨A1, c1, Z⟩ := core_blk h3
  have H3 := Lib.hid h3
  have H4 := Lib.hid h4
  have x0 := X1.cell 0
  have x1 := X1.cell 1
  have x2 := X1.cell 2
  have hH : (fun w' => MapN w' bm (obM O) ∧ w'.cell? ⟨b, 1, none⟩ = some (.map (some bm)) ∧ w'.cell? ⟨w.heap.size + 1, 0, none⟩ = some (.int .u8 103) ∧ w'.cell? ⟨w.heap.size + 1, 1, none⟩ = some (.int .i64 x.obj)) ((w.alloc (.cells x.cs 97)).alloc (.cells #[.int .u8 103, .int .i64 x.obj] 180)) := ⟨map_at h4, Z.cell 1, K2.out.cell 0, K2.out.cell 1⟩
  dsimp only at hH
  clear h1 h2 h3 h4 Z X1
  have D1 : (x.k == 1) = false := by simp [hk]
  have D2 : (x.k == 2) = false := by simp [hk]
  have D3 : (x.k == 3) = false := by simp [hk]
  have D4 : (x.k == 4) = false := by simp [hk]
  have D5 : (x.k == 5) = true := by simp [hk]
  have LK := Lib.hid hl
  have LN := LK
  have HF := Lib.hid hf
  have SM := Lib.hid (show Stable (star (OS.P (w.heap.size + 1 + 1) (.g 0 [])) (star (coreP b X bm) (star (obsP O) (star (blkP (w.heap.size + 1) 180 #[.int .u8 103, .int .i64 x.obj]) (star (blkP w.heap.size 97 x.cs) Q))))) from (OS.P_stable _ _).star ((coreP_stable _ _ _).star ((obsP_stable _).star ((blkP_stable _ _ _).star ((blkP_stable _ _ _).star hQ)))))
  have n1 := H4.out.more ((mapP_stable bm (obM O)).star ((coreP_stable b X bm).star ((obsP_stable O).star ((blkP_stable (w.heap.size + 1) 180 #[.int .u8 103, .int .i64 x.obj]).star ((blkP_stable w.heap.size 97 x.cs).star hQ))))) (F := fun k => k = ((w.alloc (.cells x.cs 97)).alloc (.cells #[.int .u8 103, .int .i64 x.obj] 180)).heap.size) (new_g ((w.alloc (.cells x.cs 97)).alloc (.cells #[.int .u8 103, .int .i64 x.obj] 180))) ((Keep.same _ _).alloc _) (fun k hk => by omega)
  rw [size_alloc, size_alloc] at n1
  have NM := Lib.hid (show Holds B w0 (((w.alloc (.cells x.cs 97)).alloc (.cells #[.int .u8 103, .int .i64 x.obj] 180)).alloc (.cells #[.int .i64 0, .slice none 0 0] 135)) (star (mapP bm (obM O)) (star (OS.P (w.heap.size + 1 + 1) (.g 0 [])) (star (coreP b X bm) (star (obsP O) (star (blkP (w.heap.size + 1) 180 #[.int .u8 103, .int .i64 x.obj]) (star (blkP w.heap.size 97 x.cs) Q)))))) from n1.perm (by ac_rfl))
  have SA := Lib.hid (show ∀ X', (fun w' => w'.cell? ⟨b, 1, none⟩ = some (.map (some bm)) ∧ w'.cell? ⟨w.heap.size + 1, 0, none⟩ = some (.int .u8 103) ∧ w'.cell? ⟨w.heap.size + 1, 1, none⟩ = some (.int .i64 x.obj)) X' → (fun w' => w'.cell? ⟨b, 1, none⟩ = some (.map (some bm)) ∧ w'.cell? ⟨w.heap.size + 1, 0, none⟩ = some (.int .u8 103) ∧ w'.cell? ⟨w.heap.size + 1, 1, none⟩ = some (.int .i64 x.obj)) (X'.alloc (.cells #[.int .i64 0, .slice none 0 0] 135)) from fun X' hx => ⟨((Keep.same Nothing X').alloc _).cell hx.1 (fun h => h), ((Keep.same Nothing X').alloc _).cell hx.2.1 (fun h => h), ((Keep.same Nothing X').alloc _).cell hx.2.2 (fun h => h)⟩)
  clear h hQ hk hl hf n1
  unfold Op3.val Op3.cs
  go_enter Try.func91, Try.ntmps91
  go_wp2_with fail
  refine wp_region_noPanic ?_
  refine wp_region_held_drew (S := (fun w' => MapN w' bm (obM O) ∧ w'.cell? ⟨b, 1, none⟩ = some (.map (some bm)) ∧ w'.cell? ⟨w.heap.size + 1, 0, none⟩ = some (.int .u8 103) ∧ w'.cell? ⟨w.heap.size + 1, 1, none⟩ = some (.int .i64 x.obj))) (by kernel_rfl) hH (fun hHeld => ?_)
  refine tk 0 ?_
  (try simp only [pn])
  refine tk 1 ?_
  (try simp only [pn])
  refine tk 2 ?_
  (try simp only [pn])
  refine tk 3 ?_
  (try simp only [pn])
  refine tk 4 ?_
  (try simp only [pn])
  refine wpAnyH_take (i := 5) (oi := _) (v := ?_) (by simp only [List.getElem?_toArray, List.getElem?_cons_succ, List.getElem?_cons_zero]; rfl) (by kernel_rfl) (by kernel_rfl) (by kernel_rfl) (fun _ _ _ h => h) (Or.inl ⟨by rfl, ?_⟩) (by assumption) ?_
  rotate_left
  · (intro w hSw; (try dsimp only at hSw); have hlk := run_lookN hSw.1 (103, x.obj); rw [LK.out] at hlk; simp only [Option.getD_some, Option.getD_none] at hlk; go_simp; (try with_reducible rfl))
  (try simp only [pn])
  refine tk 6 ?_
  (try simp only [pn])
  refine wpAnyH_done (by kernel_rfl) ?_ _
  refine NoPanic.normal ?_
  go_wp2_with fail
  refine wp_region_noPanic ?_
  refine wp_region_held_drew (S := (fun w' => w'.cell? ⟨b, 1, none⟩ = some (.map (some bm)) ∧ w'.cell? ⟨w.heap.size + 1, 0, none⟩ = some (.int .u8 103) ∧ w'.cell? ⟨w.heap.size + 1, 1, none⟩ = some (.int .i64 x.obj))) (by kernel_rfl) hH.2 (fun hHeld => ?_)
  refine tk 0 ?_
  (try simp only [pn])
  refine tk 1 ?_
  (try simp only [pn])
  refine tk 2 ?_
  (try simp only [pn])
  refine tk 3 ?_
  (try simp only [pn])
  refine tk 4 ?_
  (try simp only [pn])
  refine tk 5 ?_
  (try simp only [pn])
  refine rd 6 (fun K hK => ?_)
  go_simp
  refine (make107 _).mono ?_
  rintro e w6 ⟨rfl, rfl⟩
  (try go_wp2_with fail)
  refine hK.out _ _ (SA.out _ hHeld) (fun hHeld => ?_)
  clear hK K
  (try simp only [pn])
  refine rd 7 (fun K hK => ?_)
  have NK := Lib.hid (NM.out.kept ((mapP_stable _ _).star SM.out) kn : Holds B w0 ((((w.alloc (.cells x.cs 97)).alloc (.cells #[.int .u8 103, .int .i64 x.obj] 180)).alloc (.cells #[.int .i64 0, .slice none 0 0] 135)).drew.drew) (star (mapP bm (obM O)) (star (OS.P (w.heap.size + 1 + 1) (.g 0 [])) (star (coreP b X bm) (star (obsP O) (star (blkP (w.heap.size + 1) 180 #[.int .u8 103, .int .i64 x.obj]) (star (blkP w.heap.size 97 x.cs) Q)))))))
  refine step_putN (by rfl) (.tmp 42) (.tmp 43) (.tmp 45) (by rfl) (map_at NK.out) (103, x.obj) LN.out (Value.iface 176 (Value.agg #[Value.pointer (some (⟨w.heap.size + 1 + 1, 0, none⟩ : Addr))])) (by simp [Act.eval, Act.put]) (by simp [Act.eval, Act.put]) (by simp [Act.eval, Act.put]) ?_
  intro w7 hm7 hk7
  have N7 := Lib.hid (map_put NK.out SM.out hm7 hk7)
  have n7 : Holds B w0 w7 (star (coreP b X bm) (star (mapP bm (obM O ++ [((103, x.obj), (Value.iface 176 (Value.agg #[Value.pointer (some (⟨w.heap.size + 1 + 1, 0, none⟩ : Addr))])))])) (star (OS.P (w.heap.size + 1 + 1) (.g 0 [])) (star (obsP O) (star (blkP (w.heap.size + 1) 180 #[.int .u8 103, .int .i64 x.obj]) (star (blkP w.heap.size 97 x.cs) Q)))))) := N7.out.perm (by ac_rfl)
  have n8 : Holds B w0 w7 (star (blkP (w.heap.size + 1) 180 #[.int .u8 103, .int .i64 x.obj]) (star (coreP b X bm) (star (mapP bm (obM O ++ [((103, x.obj), (Value.iface 176 (Value.agg #[Value.pointer (some (⟨w.heap.size + 1 + 1, 0, none⟩ : Addr))])))])) (star (OS.P (w.heap.size + 1 + 1) (.g 0 [])) (star (obsP O) (star (blkP w.heap.size 97 x.cs) Q)))))) := N7.out.perm (by ac_rfl)
  obtain ⟨A7, c7, Z7⟩ := core_blk n7
  have K7 := blk_at' n8
  have LK := Lib.hid (show lookM (obM O ++ [((103, x.obj), (Value.iface 176 (Value.agg #[Value.pointer (some (⟨w.heap.size + 1 + 1, 0, none⟩ : Addr))])))]) (103, x.obj) = some (Value.iface 176 (Value.agg #[Value.pointer (some (⟨w.heap.size + 1 + 1, 0, none⟩ : Addr))])) by rw [lookM_app, LN.out]; simp)
  have hH2 : (fun w' => MapN w' bm (obM O ++ [((103, x.obj), (Value.iface 176 (Value.agg #[Value.pointer (some (⟨w.heap.size + 1 + 1, 0, none⟩ : Addr))])))]) ∧ w'.cell? ⟨b, 1, none⟩ = some (.map (some bm)) ∧ w'.cell? ⟨w.heap.size + 1, 0, none⟩ = some (.int .u8 103) ∧ w'.cell? ⟨w.heap.size + 1, 1, none⟩ = some (.int .i64 x.obj)) w7 := ⟨hm7, Z7.cell 1, K7.cell 0, K7.cell 1⟩
  have hHS := hH2.2
  dsimp only at hH2
  clear hm7 hk7 n7 n8 Z7 K7
  refine hK.out _ _ hHS (fun hHeld => ?_)
  clear hK K
  (try simp only [pn])
  refine wpAnyH_done (by kernel_rfl) ?_ _
  refine NoPanic.normal ?_
  clear hH hHS
  go_wp2_with fail
  refine wp_region_noPanic ?_
  refine wp_region_held_drew (S := (fun w' => MapN w' bm (obM O ++ [((103, x.obj), (Value.iface 176 (Value.agg #[Value.pointer (some (⟨w.heap.size + 1 + 1, 0, none⟩ : Addr))])))]) ∧ w'.cell? ⟨b, 1, none⟩ = some (.map (some bm)) ∧ w'.cell? ⟨w.heap.size + 1, 0, none⟩ = some (.int .u8 103) ∧ w'.cell? ⟨w.heap.size + 1, 1, none⟩ = some (.int .i64 x.obj))) (by kernel_rfl) hH2 (fun hHeld => ?_)
  refine tk 0 ?_
  (try simp only [pn])
  refine tk 1 ?_
  (try simp only [pn])
  refine tk 2 ?_
  (try simp only [pn])
  refine tk 3 ?_
  (try simp only [pn])
  refine tk 4 ?_
  (try simp only [pn])
  refine wpAnyH_take (i := 5) (oi := _) (v := ?_) (by simp only [List.getElem?_toArray, List.getElem?_cons_succ, List.getElem?_cons_zero]; rfl) (by kernel_rfl) (by kernel_rfl) (by kernel_rfl) (fun _ _ _ h => h) (Or.inl ⟨by rfl, ?_⟩) (by assumption) ?_
  rotate_left
  · (intro w hSw; (try dsimp only at hSw); have hlk := run_lookN hSw.1 (103, x.obj); rw [LK.out] at hlk; simp only [Option.getD_some, Option.getD_none] at hlk; go_simp; (try with_reducible rfl))
  (try simp only [pn])
  refine tk 6 ?_
  (try simp only [pn])
  refine wpAnyH_done (by kernel_rfl) ?_ _
  refine NoPanic.normal ?_
  clear hH2
  go_wp2_with fail
  go_ret
  refine ⟨O ++ [⟨x.obj, w.heap.size + 1 + 1, .g 0 []⟩], O.length, ⟨x.obj, w.heap.size + 1 + 1, .g 0 []⟩, rfl, by simp, rfl, fun j o' hj ho' => HF.out o' (List.mem_of_getElem? (by rw [List.getElem?_append_left hj] at ho'; exact ho')), .inr ⟨rfl, rfl, HF.out⟩, ?_⟩
  have g : Holds B w0 w7 (star (blkP (w.heap.size + 1) 180 #[.int .u8 103, .int .i64 x.obj]) (star (blkP w.heap.size 97 x.cs) (star (schP b X bm (O ++ [⟨x.obj, w.heap.size + 1 + 1, .g 0 []⟩])) Q))) := N7.out.perm (by
    unfold schP
    rw [obsP_push, show obM (O ++ [⟨x.obj, w.heap.size + 1 + 1, .g 0 []⟩]) = obM O ++ [((103, x.obj), (Value.iface 176 (Value.agg #[Value.pointer (some (⟨w.heap.size + 1 + 1, 0, none⟩ : Addr))])))] by simp [obM]; exact ⟨rfl, rfl⟩]
    show star (mapP bm _) (star (OS.P (w.heap.size + 1 + 1) (.g 0 [])) (star (coreP b X bm) (star (obsP O) (star (blkP (w.heap.size + 1) 180 #[.int .u8 103, .int .i64 x.obj]) (star (blkP w.heap.size 97 x.cs) Q))))) = star _ (star _ (star (star (coreP b X bm) (star (mapP bm _) (star (OS.P (w.heap.size + 1 + 1) (.g 0 [])) (obsP O)))) Q))
    ac_rfl)
  exact g.drop.drop.kept (schP_stable.star HQ.out) kn
theorem find_old6 (h : Holds B w0 w (star (schP b X bm O) Q)) (hQ : Stable Q) (x : Op3) (hk : x.k = 6) (i : Nat) (o : Ob) (ho : O[i]? = some o) (hon : o.key = (103, x.obj)) (hl : lookM (obM O) (103, x.obj) = some o.v) (hf : ∀ (j : Nat) (o' : Ob), j < i → O[j]? = some o' → o'.key ≠ (103, x.obj)) :
    Calls Try.prog 91 #[.pointer (some ⟨b, 0, none⟩), x.val] w (FindPost B w0 b X bm O (103, x.obj) Q) := by
  have hu := Try.underlying139
  have hu2 := Try.underlying97
  have hu3 := Try.underlying180
  have HQ := Lib.hid hQ
  have SQ := Lib.hid (show Stable (star (schP b X bm O) Q) from schP_stable.star hQ)
  have h1 := h.newBlk SQ.out 97 x.cs
  have h2 := h1.newBlk ((blkP_stable _ _ _).star SQ.out) 180 #[.int .u8 103, .int .i64 x.obj]
  rw [size_alloc] at h2
  have H2 := Lib.hid h2
  have X1 := blk_at' h1
  have K2 := Lib.hid (blk_at' h2)
  have h3 : Holds B w0 ((w.alloc (.cells x.cs 97)).alloc (.cells #[.int .u8 103, .int .i64 x.obj] 180)) (star (coreP b X bm) (star (mapP bm (obM O)) (star (obsP O) (star (blkP (w.heap.size + 1) 180 #[.int .u8 103, .int .i64 x.obj]) (star (blkP w.heap.size 97 x.cs) Q))))) := h2.perm (by unfold schP; ac_rfl)
  have h4 : Holds B w0 ((w.alloc (.cells x.cs 97)).alloc (.cells #[.int .u8 103, .int .i64 x.obj] 180)) (star (mapP bm (obM O)) (star (coreP b X bm) (star (obsP O) (star (blkP (w.heap.size + 1) 180 #[.int .u8 103, .int .i64 x.obj]) (star (blkP w.heap.size 97 x.cs) Q))))) := h2.perm (by unfold schP; ac_rfl)
  obtain ⟨A1, c1, Z⟩ := core_blk h3
  have H3 := Lib.hid h3
  have H4 := Lib.hid h4
  have x0 := X1.cell 0
  have x1 := X1.cell 1
  have x2 := X1.cell 2
  have hH : (fun w' => MapN w' bm (obM O) ∧ w'.cell? ⟨b, 1, none⟩ = some (.map (some bm)) ∧ w'.cell? ⟨w.heap.size + 1, 0, none⟩ = some (.int .u8 103) ∧ w'.cell? ⟨w.heap.size + 1, 1, none⟩ = some (.int .i64 x.obj)) ((w.alloc (.cells x.cs 97)).alloc (.cells #[.int .u8 103, .int .i64 x.obj] 180)) := ⟨map_at h4, Z.cell 1, K2.out.cell 0, K2.out.cell 1⟩
  dsimp only at hH
  clear h1 h2 h3 h4 Z X1
  have D1 : (x.k == 1) = false := by simp [hk]
  have D2 : (x.k == 2) = false := by simp [hk]
  have D3 : (x.k == 3) = false := by simp [hk]
  have D4 : (x.k == 4) = false := by simp [hk]
  have D5 : (x.k == 5) = false := by simp [hk]
  have D6 : (x.k == 6) = true := by simp [hk]
  have LK := Lib.hid (show lookM (obM O) (103, x.obj) = some (Value.iface 176 (.agg #[.pointer (some ⟨o.g, 0, none⟩)])) by rw [hl]; unfold Ob.v; rw [(Prod.mk.inj hon).1]; rfl)
  have HV := Lib.hid (show Value.iface 176 (.agg #[.pointer (some ⟨o.g, 0, none⟩)]) = o.v by unfold Ob.v; rw [(Prod.mk.inj hon).1]; rfl)
  have HO := Lib.hid ho
  have HON := Lib.hid hon
  have HF := Lib.hid hf
  have hH2 := hH
  clear h hQ hk hl ho hon hf
  unfold Op3.val Op3.cs
  go_enter Try.func91, Try.ntmps91
  go_wp2_with fail
  refine wp_region_noPanic ?_
  refine wp_region_held_drew (S := (fun w' => MapN w' bm (obM O) ∧ w'.cell? ⟨b, 1, none⟩ = some (.map (some bm)) ∧ w'.cell? ⟨w.heap.size + 1, 0, none⟩ = some (.int .u8 103) ∧ w'.cell? ⟨w.heap.size + 1, 1, none⟩ = some (.int .i64 x.obj))) (by kernel_rfl) hH (fun hHeld => ?_)
  refine tk 0 ?_
  (try simp only [pn])
  refine tk 1 ?_
  (try simp only [pn])
  refine tk 2 ?_
  (try simp only [pn])
  refine tk 3 ?_
  (try simp only [pn])
  refine tk 4 ?_
  (try simp only [pn])
  refine wpAnyH_take (i := 5) (oi := _) (v := ?_) (by simp only [List.getElem?_toArray, List.getElem?_cons_succ, List.getElem?_cons_zero]; rfl) (by kernel_rfl) (by kernel_rfl) (by kernel_rfl) (fun _ _ _ h => h) (Or.inl ⟨by rfl, ?_⟩) (by assumption) ?_
  rotate_left
  · (intro w hSw; (try dsimp only at hSw); have hlk := run_lookN hSw.1 (103, x.obj); rw [LK.out] at hlk; simp only [Option.getD_some, Option.getD_none] at hlk; go_simp; (try with_reducible rfl))
  (try simp only [pn])
  refine tk 6 ?_
  (try simp only [pn])
  refine wpAnyH_done (by kernel_rfl) ?_ _
  refine NoPanic.normal ?_
  clear hH
  go_wp2_with fail
  refine wp_region_noPanic ?_
  refine wp_region_held_drew (S := (fun w' => MapN w' bm (obM O) ∧ w'.cell? ⟨b, 1, none⟩ = some (.map (some bm)) ∧ w'.cell? ⟨w.heap.size + 1, 0, none⟩ = some (.int .u8 103) ∧ w'.cell? ⟨w.heap.size + 1, 1, none⟩ = some (.int .i64 x.obj))) (by kernel_rfl) hH2 (fun hHeld => ?_)
  refine tk 0 ?_
  (try simp only [pn])
  refine tk 1 ?_
  (try simp only [pn])
  refine tk 2 ?_
  (try simp only [pn])
  refine tk 3 ?_
  (try simp only [pn])
  refine tk 4 ?_
  (try simp only [pn])
  refine wpAnyH_take (i := 5) (oi := _) (v := ?_) (by simp only [List.getElem?_toArray, List.getElem?_cons_succ, List.getElem?_cons_zero]; rfl) (by kernel_rfl) (by kernel_rfl) (by kernel_rfl) (fun _ _ _ h => h) (Or.inl ⟨by rfl, ?_⟩) (by assumption) ?_
  rotate_left
  · (intro w hSw; (try dsimp only at hSw); have hlk := run_lookN hSw.1 (103, x.obj); rw [LK.out] at hlk; simp only [Option.getD_some, Option.getD_none] at hlk; go_simp; (try with_reducible rfl))
  (try simp only [pn])
  refine tk 6 ?_
  (try simp only [pn])
  refine wpAnyH_done (by kernel_rfl) ?_ _
  refine NoPanic.normal ?_
  clear hH2
  go_wp2_with fail
  go_ret
  refine ⟨O, i, o, by (rw [← HV.out]; rfl), HO.out, HON.out, HF.out, .inl rfl, ?_⟩
  have g : Holds B w0 ((w.alloc (.cells x.cs 97)).alloc (.cells #[.int .u8 103, .int .i64 x.obj] 180)) (star (blkP (w.heap.size + 1) 180 #[.int .u8 103, .int .i64 x.obj]) (star (blkP w.heap.size 97 x.cs) (star (schP b X bm O) Q))) := H2.out
  exact g.drop.drop.kept SQ.out kn
theorem find_new6 (h : Holds B w0 w (star (schP b X bm O) Q)) (hQ : Stable Q) (x : Op3) (hk : x.k = 6) (hl : lookM (obM O) (103, x.obj) = none) (hf : ∀ o ∈ O, o.key ≠ (103, x.obj)) :
    Calls Try.prog 91 #[.pointer (some ⟨b, 0, none⟩), x.val] w (FindPost B w0 b X bm O (103, x.obj) Q) := by
  have hu := Try.underlying139
  have hu2 := Try.underlying97
  have hu3 := Try.underlying180
  have HQ := Lib.hid hQ
  have SQ := Lib.hid (show Stable (star (schP b X bm O) Q) from schP_stable.star hQ)
  have h1 := h.newBlk SQ.out 97 x.cs
  have h2 := h1.newBlk ((blkP_stable _ _ _).star SQ.out) 180 #[.int .u8 103, .int .i64 x.obj]
  rw [size_alloc] at h2
  have H2 := Lib.hid h2
  have X1 := blk_at' h1
  have K2 := Lib.hid (blk_at' h2)
  have h3 : Holds B w0 ((w.alloc (.cells x.cs 97)).alloc (.cells #[.int .u8 103, .int .i64 x.obj] 180)) (star (coreP b X bm) (star (mapP bm (obM O)) (star (obsP O) (star (blkP (w.heap.size + 1) 180 #[.int .u8 103, .int .i64 x.obj]) (star (blkP w.heap.size 97 x.cs) Q))))) := h2.perm (by unfold schP; ac_rfl)
  have h4 : Holds B w0 ((w.alloc (.cells x.cs 97)).alloc (.cells #[.int .u8 103, .int .i64 x.obj] 180)) (star (mapP bm (obM O)) (star (coreP b X bm) (star (obsP O) (star (blkP (w.heap.size + 1) 180 #[.int .u8 103, .int .i64 x.obj]) (star (blkP w.heap.size 97 x.cs) Q))))) := h2.perm (by unfold schP; ac_rfl)
  obtain ⟨A1, c1, Z⟩ := core_blk h3
  have H3 := Lib.hid h3
  have H4 := Lib.hid h4
  have x0 := X1.cell 0
  have x1 := X1.cell 1
  have x2 := X1.cell 2
  have hH : (fun w' => MapN w' bm (obM O) ∧ w'.cell? ⟨b, 1, none⟩ = some (.map (some bm)) ∧ w'.cell? ⟨w.heap.size + 1, 0, none⟩ = some (.int .u8 103) ∧ w'.cell? ⟨w.heap.size + 1, 1, none⟩ = some (.int .i64 x.obj)) ((w.alloc (.cells x.cs 97)).alloc (.cells #[.int .u8 103, .int .i64 x.obj] 180)) := ⟨map_at h4, Z.cell 1, K2.out.cell 0, K2.out.cell 1⟩
  dsimp only at hH
  clear h1 h2 h3 h4 Z X1
  have D1 : (x.k == 1) = false := by simp [hk]
  have D2 : (x.k == 2) = false := by simp [hk]
  have D3 : (x.k == 3) = false := by simp [hk]
  have D4 : (x.k == 4) = false := by simp [hk]
  have D5 : (x.k == 5) = false := by simp [hk]
  have D6 : (x.k == 6) = true := by simp [hk]
  have LK := Lib.hid hl
  have LN := LK
  have HF := Lib.hid hf
  have SM := Lib.hid (show Stable (star (OS.P (w.heap.size + 1 + 1) (.g 0 [])) (star (coreP b X bm) (star (obsP O) (star (blkP (w.heap.size + 1) 180 #[.int .u8 103, .int .i64 x.obj]) (star (blkP w.heap.size 97 x.cs) Q))))) from (OS.P_stable _ _).star ((coreP_stable _ _ _).star ((obsP_stable _).star ((blkP_stable _ _ _).star ((blkP_stable _ _ _).star hQ)))))
  have n1 := H4.out.more ((mapP_stable bm (obM O)).star ((coreP_stable b X bm).star ((obsP_stable O).star ((blkP_stable (w.heap.size + 1) 180 #[.int .u8 103, .int .i64 x.obj]).star ((blkP_stable w.heap.size 97 x.cs).star hQ))))) (F := fun k => k = ((w.alloc (.cells x.cs 97)).alloc (.cells #[.int .u8 103, .int .i64 x.obj] 180)).heap.size) (new_g ((w.alloc (.cells x.cs 97)).alloc (.cells #[.int .u8 103, .int .i64 x.obj] 180))) ((Keep.same _ _).alloc _) (fun k hk => by omega)
  rw [size_alloc, size_alloc] at n1
  have NM := Lib.hid (show Holds B w0 (((w.alloc (.cells x.cs 97)).alloc (.cells #[.int .u8 103, .int .i64 x.obj] 180)).alloc (.cells #[.int .i64 0, .slice none 0 0] 135)) (star (mapP bm (obM O)) (star (OS.P (w.heap.size + 1 + 1) (.g 0 [])) (star (coreP b X bm) (star (obsP O) (star (blkP (w.heap.size + 1) 180 #[.int .u8 103, .int .i64 x.obj]) (star (blkP w.heap.size 97 x.cs) Q)))))) from n1.perm (by ac_rfl))
  have SA := Lib.hid (show ∀ X', (fun w' => w'.cell? ⟨b, 1, none⟩ = some (.map (some bm)) ∧ w'.cell? ⟨w.heap.size + 1, 0, none⟩ = some (.int .u8 103) ∧ w'.cell? ⟨w.heap.size + 1, 1, none⟩ = some (.int .i64 x.obj)) X' → (fun w' => w'.cell? ⟨b, 1, none⟩ = some (.map (some bm)) ∧ w'.cell? ⟨w.heap.size + 1, 0, none⟩ = some (.int .u8 103) ∧ w'.cell? ⟨w.heap.size + 1, 1, none⟩ = some (.int .i64 x.obj)) (X'.alloc (.cells #[.int .i64 0, .slice none 0 0] 135)) from fun X' hx => ⟨((Keep.same Nothing X').alloc _).cell hx.1 (fun h => h), ((Keep.same Nothing X').alloc _).cell hx.2.1 (fun h => h), ((Keep.same Nothing X').alloc _).cell hx.2.2 (fun h => h)⟩)
  clear h hQ hk hl hf n1
  unfold Op3.val Op3.cs
  go_enter Try.func91, Try.ntmps91
  go_wp2_with fail
  refine wp_region_noPanic ?_
  refine wp_region_held_drew (S := (fun w' => MapN w' bm (obM O) ∧ w'.cell? ⟨b, 1, none⟩ = some (.map (some bm)) ∧ w'.cell? ⟨w.heap.size + 1, 0, none⟩ = some (.int .u8 103) ∧ w'.cell? ⟨w.heap.size + 1, 1, none⟩ = some (.int .i64 x.obj))) (by kernel_rfl) hH (fun hHeld => ?_)
  refine tk 0 ?_
  (try simp only [pn])
  refine tk 1 ?_
  (try simp only [pn])
  refine tk 2 ?_
  (try simp only [pn])
  refine tk 3 ?_
  (try simp only [pn])
  refine tk 4 ?_
  (try simp only [pn])
  refine wpAnyH_take (i := 5) (oi := _) (v := ?_) (by simp only [List.getElem?_toArray, List.getElem?_cons_succ, List.getElem?_cons_zero]; rfl) (by kernel_rfl) (by kernel_rfl) (by kernel_rfl) (fun _ _ _ h => h) (Or.inl ⟨by rfl, ?_⟩) (by assumption) ?_
  rotate_left
  · (intro w hSw; (try dsimp only at hSw); have hlk := run_lookN hSw.1 (103, x.obj); rw [LK.out] at hlk; simp only [Option.getD_some, Option.getD_none] at hlk; go_simp; (try with_reducible rfl))
  (try simp only [pn])
  refine tk 6 ?_
  (try simp only [pn])
  refine wpAnyH_done (by kernel_rfl) ?_ _
  refine NoPanic.normal ?_
  go_wp2_with fail
  refine wp_region_noPanic ?_
  refine wp_region_held_drew (S := (fun w' => w'.cell? ⟨b, 1, none⟩ = some (.map (some bm)) ∧ w'.cell? ⟨w.heap.size + 1, 0, none⟩ = some (.int .u8 103) ∧ w'.cell? ⟨w.heap.size + 1, 1, none⟩ = some (.int .i64 x.obj))) (by kernel_rfl) hH.2 (fun hHeld => ?_)
  refine tk 0 ?_
  (try simp only [pn])
  refine tk 1 ?_
  (try simp only [pn])
  refine tk 2 ?_
  (try simp only [pn])
  refine tk 3 ?_
  (try simp only [pn])
  refine tk 4 ?_
  (try simp only [pn])
  refine tk 5 ?_
  (try simp only [pn])
  refine rd 6 (fun K hK => ?_)
  go_simp
  refine (make107 _).mono ?_
  rintro e w6 ⟨rfl, rfl⟩
  (try go_wp2_with fail)
  refine hK.out _ _ (SA.out _ hHeld) (fun hHeld => ?_)
  clear hK K
  (try simp only [pn])
  refine rd 7 (fun K hK => ?_)
  have NK := Lib.hid (NM.out.kept ((mapP_stable _ _).star SM.out) kn : Holds B w0 ((((w.alloc (.cells x.cs 97)).alloc (.cells #[.int .u8 103, .int .i64 x.obj] 180)).alloc (.cells #[.int .i64 0, .slice none 0 0] 135)).drew.drew) (star (mapP bm (obM O)) (star (OS.P (w.heap.size + 1 + 1) (.g 0 [])) (star (coreP b X bm) (star (obsP O) (star (blkP (w.heap.size + 1) 180 #[.int .u8 103, .int .i64 x.obj]) (star (blkP w.heap.size 97 x.cs) Q)))))))
  refine step_putN (by rfl) (.tmp 42) (.tmp 43) (.tmp 45) (by rfl) (map_at NK.out) (103, x.obj) LN.out (Value.iface 176 (Value.agg #[Value.pointer (some (⟨w.heap.size + 1 + 1, 0, none⟩ : Addr))])) (by simp [Act.eval, Act.put]) (by simp [Act.eval, Act.put]) (by simp [Act.eval, Act.put]) ?_
  intro w7 hm7 hk7
  have N7 := Lib.hid (map_put NK.out SM.out hm7 hk7)
  have n7 : Holds B w0 w7 (star (coreP b X bm) (star (mapP bm (obM O ++ [((103, x.obj), (Value.iface 176 (Value.agg #[Value.pointer (some (⟨w.heap.size + 1 + 1, 0, none⟩ : Addr))])))])) (star (OS.P (w.heap.size + 1 + 1) (.g 0 [])) (star (obsP O) (star (blkP (w.heap.size + 1) 180 #[.int .u8 103, .int .i64 x.obj]) (star (blkP w.heap.size 97 x.cs) Q)))))) := N7.out.perm (by ac_rfl)
  have n8 : Holds B w0 w7 (star (blkP (w.heap.size + 1) 180 #[.int .u8 103, .int .i64 x.obj]) (star (coreP b X bm) (star (mapP bm (obM O ++ [((103, x.obj), (Value.iface 176 (Value.agg #[Value.pointer (some (⟨w.heap.size + 1 + 1, 0, none⟩ : Addr))])))])) (star (OS.P (w.heap.size + 1 + 1) (.g 0 [])) (star (obsP O) (star (blkP w.heap.size 97 x.cs) Q)))))) := N7.out.perm (by ac_rfl)
  obtain ⟨A7, c7, Z7⟩ := core_blk n7
  have K7 := blk_at' n8
  have LK := Lib.hid (show lookM (obM O ++ [((103, x.obj), (Value.iface 176 (Value.agg #[Value.pointer (some (⟨w.heap.size + 1 + 1, 0, none⟩ : Addr))])))]) (103, x.obj) = some (Value.iface 176 (Value.agg #[Value.pointer (some (⟨w.heap.size + 1 + 1, 0, none⟩ : Addr))])) by rw [lookM_app, LN.out]; simp)
  have hH2 : (fun w' => MapN w' bm (obM O ++ [((103, x.obj), (Value.iface 176 (Value.agg #[Value.pointer (some (⟨w.heap.size + 1 + 1, 0, none⟩ : Addr))])))]) ∧ w'.cell? ⟨b, 1, none⟩ = some (.map (some bm)) ∧ w'.cell? ⟨w.heap.size + 1, 0, none⟩ = some (.int .u8 103) ∧ w'.cell? ⟨w.heap.size + 1, 1, none⟩ = some (.int .i64 x.obj)) w7 := ⟨hm7, Z7.cell 1, K7.cell 0, K7.cell 1⟩
  have hHS := hH2.2
  dsimp only at hH2
  clear hm7 hk7 n7 n8 Z7 K7
  refine hK.out _ _ hHS (fun hHeld => ?_)
  clear hK K
  (try simp only [pn])
  refine wpAnyH_done (by kernel_rfl) ?_ _
  refine NoPanic.normal ?_
  clear hH hHS
  go_wp2_with fail
  refine wp_region_noPanic ?_
  refine wp_region_held_drew (S := (fun w' => MapN w' bm (obM O ++ [((103, x.obj), (Value.iface 176 (Value.agg #[Value.pointer (some (⟨w.heap.size + 1 + 1, 0, none⟩ : Addr))])))]) ∧ w'.cell? ⟨b, 1, none⟩ = some (.map (some bm)) ∧ w'.cell? ⟨w.heap.size + 1, 0, none⟩ = some (.int .u8 103) ∧ w'.cell? ⟨w.heap.size + 1, 1, none⟩ = some (.int .i64 x.obj))) (by kernel_rfl) hH2 (fun hHeld => ?_)
  refine tk 0 ?_
  (try simp only [pn])
  refine tk 1 ?_
  (try simp only [pn])
  refine tk 2 ?_
  (try simp only [pn])
  refine tk 3 ?_
  (try simp only [pn])
  refine tk 4 ?_
  (try simp only [pn])
  refine wpAnyH_take (i := 5) (oi := _) (v := ?_) (by simp only [List.getElem?_toArray, List.getElem?_cons_succ, List.getElem?_cons_zero]; rfl) (by kernel_rfl) (by kernel_rfl) (by kernel_rfl) (fun _ _ _ h => h) (Or.inl ⟨by rfl, ?_⟩) (by assumption) ?_
  rotate_left
  · (intro w hSw; (try dsimp only at hSw); have hlk := run_lookN hSw.1 (103, x.obj); rw [LK.out] at hlk; simp only [Option.getD_some, Option.getD_none] at hlk; go_simp; (try with_reducible rfl))
  (try simp only [pn])
  refine tk 6 ?_
  (try simp only [pn])
  refine wpAnyH_done (by kernel_rfl) ?_ _
  refine NoPanic.normal ?_
  clear hH2
  go_wp2_with fail
  go_ret
  refine ⟨O ++ [⟨x.obj, w.heap.size + 1 + 1, .g 0 []⟩], O.length, ⟨x.obj, w.heap.size + 1 + 1, .g 0 []⟩, rfl, by simp, rfl, fun j o' hj ho' => HF.out o' (List.mem_of_getElem? (by rw [List.getElem?_append_left hj] at ho'; exact ho')), .inr ⟨rfl, rfl, HF.out⟩, ?_⟩
  have g : Holds B w0 w7 (star (blkP (w.heap.size + 1) 180 #[.int .u8 103, .int .i64 x.obj]) (star (blkP w.heap.size 97 x.cs) (star (schP b X bm (O ++ [⟨x.obj, w.heap.size + 1 + 1, .g 0 []⟩])) Q))) := N7.out.perm (by
    unfold schP
    rw [obsP_push, show obM (O ++ [⟨x.obj, w.heap.size + 1 + 1, .g 0 []⟩]) = obM O ++ [((103, x.obj), (Value.iface 176 (Value.agg #[Value.pointer (some (⟨w.heap.size + 1 + 1, 0, none⟩ : Addr))])))] by simp [obM]; exact ⟨rfl, rfl⟩]
    show star (mapP bm _) (star (OS.P (w.heap.size + 1 + 1) (.g 0 [])) (star (coreP b X bm) (star (obsP O) (star (blkP (w.heap.size + 1) 180 #[.int .u8 103, .int .i64 x.obj]) (star (blkP w.heap.size 97 x.cs) Q))))) = star _ (star _ (star (star (coreP b X bm) (star (mapP bm _) (star (OS.P (w.heap.size + 1 + 1) (.g 0 [])) (obsP O)))) Q))
    ac_rfl)
  exact g.drop.drop.kept (schP_stable.star HQ.out) kn
end
end Go.Proofs.Ytmohpjkbhpgidaa.A
