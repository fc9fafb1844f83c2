/-
  The client: let.
-/
import Derived.Test.YthlfcinjmljbjaaE1
import Derived.Test.YthlfcinjmljbjaaD9
namespace Go.Proofs.Ythlfcinjmljbjaa.A
open Go.RowKit Go.Proofs.Ythlfcinjmljbjaa.U
set_option linter.unusedVariables false
set_option linter.unusedSimpArgs false
set_option maxRecDepth 100000

section
variable {B : Nat} {w0 w : World} {b : Nat} {S : CS} {Q R : SP} {p : Option Addr} {o : Oc}
theorem Holds.grew' {w' : World} {e : TypeId} {size n n' : Nat} {v v' : Value} {xs xs' : List Value} (h : Holds B w0 w (star (rowP e size v n xs) Q)) (hQ : Stable Q) (hr : Row w' e size v' n' xs') (hg : w.grownBy w' v.ownBlock)
    (hloc : v'.ownBlock = v.ownBlock ∨ ∃ g, v'.ownBlock = some g ∧ w.heap.size ≤ g) : Holds B w0 w' (star (rowP e size v' n' xs') Q) :=
  h.did_left hQ fun F ⟨_, hF⟩ => ⟨fun k => v'.ownBlock = some k, ⟨hr, fun _ => Iff.rfl⟩, (Keep.same F w).grown hg (fun i hi => .inl ((hF i).2 hi)), fun k hk => by
    rcases hloc with h | ⟨g, h, hle⟩
    · exact .inl ((hF k).2 (by rw [← h, hk]))
    · rw [h] at hk; injection hk with hk; right; omega⟩
def CS.withL (S : CS) (L : List Hd) : CS := { S with L := L }
theorem x_let (h : Holds B w0 w (star (cliP b S) Q)) (hQ : Stable Q) (hn : S.L.length ≤ 1000000) (hr : Rise S.L) (s : ByteArray) (r : Bool) :
    Calls Try.prog 20 #[.pointer (some ⟨b, 0, none⟩), .string s, .bool r] w (fun e w' => unit_ e ∧ Holds B w0 w' (star (cliP b (S.withL (letL S.L s r))) Q)) := by
  have hu := Try.underlying62
  have hu2 := Try.underlying46
  obtain ⟨p, A, c, h1⟩ := cli_open h
  have B1 : Blk w b 62 (S.cs p A S.L.length c) := blk_at h1
  have R1 : Row w 46 3 (.slice A S.L.length c) S.L.length (hds S.L) := (show Holds B w0 w (star (lrow S A c) (star (blkP b 62 (S.cs p A S.L.length c)) (star (opP p S.op) Q))) from h1.perm (by ac_rfl)).row
  have HC := Lib.hid h
  have HA := Lib.hid (at27 w p A c B1 R1.src hn hr s)
  have HH := Lib.hid h1
  have HQ := Lib.hid hQ
  have RI := Lib.hid hr
  have RR := Lib.hid R1
  have BB := Lib.hid B1
  have HN := Lib.hid hn
  clear h h1 B1 R1 hQ hr
  go_enter Try.func20, Try.ntmps20
  go_wp2_with fail
  refine HA.out.mono ?_
  rintro e w3 ⟨k, t, rfl, hk, h2, h3, h4⟩
  have H3 := Lib.hid (HC.out.kept ((cliP_stable _ _).star HQ.out) h4)
  have G3 := Lib.hid (HH.out.kept ((blkP_stable _ _ _).star ((opP_stable _ _).star ((rowP_stable _ _ _ _ _).star HQ.out))) h4)
  have B3 := Lib.hid (BB.out.keep h4 (fun h => h))
  have R3 := Lib.hid (RR.out.keep h4 (fun _ _ h => h))
  have KK := Lib.hid h4
  have F := found_look RI.out h2 h3
  have H2 := Lib.hid h2
  clear h4 h3 h2 HC HH
  rcases F with ⟨rfl, y, hy, he, hl⟩ | ⟨rfl, hl⟩
  · obtain ⟨ad, y', rfl, hy', hat⟩ := hd_at R3.out.src (show k < S.L.length from (List.getElem?_eq_some_iff.1 hy).1)
    obtain rfl : y' = y := by rw [hy] at hy'; injection hy' with e; exact e.symm
    have d1 := hat.2.1
    have b11 := B3.out.cell 11
    have hks := (List.getElem?_eq_some_iff.1 hy).1
    by_cases hyr : y'.rd = r
    · have E := Lib.hid (show letL S.L s r = S.L.take k ++ S.L.drop (k + 1) by
        unfold letL
        rw [hl]
        simp only [if_pos hyr]
        rw [take_low RI.out H2.out (fun z hz => by rw [hy] at hz; injection hz with hz; subst hz; rw [(cmpN_zero _ _).2 he]; exact Int.le_refl _),
          drop_hi (s := s) RI.out (fun j z hj hz => by
            by_cases hjk : j < k
            · have := H2.out j z hjk hz; omega
            · obtain rfl : j = k := by omega
              rw [hy] at hz; injection hz with hz; subst hz; rw [(cmpN_zero _ _).2 he]; exact Int.le_refl _) (fun z hz => by
            have q := rise_at RI.out (show k < k + 1 by omega) hy hz
            rw [he] at q
            have := cmpN_anti s z.nm
            omega)])
      have HD := Lib.hid (hh_delete w3 (.slice (some ad) S.L.length c) S.L.length (hds S.L) R3.out k hks (hds_one S.L) HN.out)
      have hkw : IntKind.i64.wrap ((k : Int) + 1) = (k : Int) + 1 := by rw [IntKind.wrap_i64]; have := HN.out; omega
      have EL := Lib.hid (show hds (S.L.take k ++ S.L.drop (k + 1)) = (hds S.L).take (k * 3) ++ (hds S.L).drop ((k + 1) * 3) by
        rw [hds_app, hds_drop]
        congr 1
        have : hds S.L = hds (S.L.take k) ++ hds (S.L.drop k) := by rw [← hds_app, List.take_append_drop]
        rw [this]
        exact (List.take_left' (by rw [hds_len, List.length_take]; omega)).symm)
      subst hyr
      clear hl hy hy' he hat hk hn
      go_wp2_with fail
      refine HD.out.mono ?_
      rintro e w4 ⟨v', rfl, hr4, hg4, hl4⟩
      have G4 : Holds B w0 w4 (star (rowP 46 3 v' (S.L.length - 1) ((hds S.L).take (k * 3) ++ (hds S.L).drop ((k + 1) * 3))) (star (blkP b 62 (S.cs p (some ad) S.L.length c)) (star (opP p S.op) Q))) :=
        Holds.grew' (G3.out.perm (by
          show _ = star (lrow S (some ad) c) (star (blkP b 62 (S.cs p (some ad) S.L.length c)) (star (opP p S.op) Q))
          ac_rfl)) ((blkP_stable _ _ _).star ((opP_stable _ _).star HQ.out)) hr4 hg4 hl4
      obtain ⟨A', c', rfl, _, _⟩ := hr4.form
      have G5 : Holds B w0 w4 (star (blkP b 62 (S.cs p (some ad) S.L.length c)) (star (opP p S.op) (star (rowP 46 3 (.slice A' (S.L.length - 1) c') (S.L.length - 1) ((hds S.L).take (k * 3) ++ (hds S.L).drop ((k + 1) * 3))) Q))) := G4.perm (by ac_rfl)
      have B4 := blk_at G5
      have e11 := B4.cell 11
      have f11 := B4.free 11
      have G6 := Lib.hid (G5.setBlk ((opP_stable _ _).star ((rowP_stable _ _ _ _ _).star HQ.out)) 11 (.slice A' (S.L.length - 1) c'))
      clear hr4 hg4 hl4 G4 G5 B4
      go_wp2_with fail
      go_end0
      refine ⟨rfl, cli_close (p := p) (A := A') (c := c') ?_⟩
      have hlen : (S.withL (letL S.L s y'.rd)).L.length = S.L.length - 1 := by
        show (letL S.L s y'.rd).length = _
        rw [E.out, List.length_append, List.length_take, List.length_drop]
        omega
      have hcl : hds (S.withL (letL S.L s y'.rd)).L = (hds S.L).take (k * 3) ++ (hds S.L).drop ((k + 1) * 3) := by
        show hds (letL S.L s y'.rd) = _
        rw [E.out, EL.out]
      show Holds B w0 _ (star (blkP b 62 (S.cs p A' (S.withL (letL S.L s y'.rd)).L.length c')) (star (opP p S.op) (star (rowP 46 3 (.slice A' (S.withL (letL S.L s y'.rd)).L.length c') (S.withL (letL S.L s y'.rd)).L.length (hds (S.withL (letL S.L s y'.rd)).L)) Q)))
      rw [hlen, hcl]
      exact G6.out
    · have E := Lib.hid (show letL S.L s r = S.L by unfold letL; rw [hl]; simp only [if_neg hyr])
      have D : (y'.rd == r) = false := by simpa using hyr
      clear hl hy hy' he hat hk hn hyr
      go_wp2_with fail
      go_end0
      exact ⟨rfl, by rw [E.out]; exact H3.out⟩
  · have E := Lib.hid (show letL S.L s r = S.L by unfold letL; rw [hl])
    clear hl hk hn
    go_wp2_with fail
    go_end0
    exact ⟨rfl, by rw [E.out]; exact H3.out⟩
end
end Go.Proofs.Ythlfcinjmljbjaa.A
