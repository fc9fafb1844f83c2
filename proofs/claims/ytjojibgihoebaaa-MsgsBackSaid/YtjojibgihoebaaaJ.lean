/-
  CodecBack.
-/
import Derived.Test.YtjojibgihoebaaaG
import Derived.Deep.RegionHeld3
namespace Go.Proofs.Ytjojibgihoebaaa.A
open Go.RowKit Go.Proofs.Ytjojibgihoebaaa.U
set_option linter.unusedVariables false
set_option linter.unusedSimpArgs false

theorem item_at {w : World} {B : Nat} {A : Option Addr} {len : Nat} {l : List Item} (h : R.Args w B A len 4 Item.cells l) {k : Nat} (hk : k < len) :
    ∃ (ad : Addr) (x : Item), A = some ad ∧ l[k]? = some x ∧ ad.block < B ∧ w.cell? (ad.add (k * 4)) = some (.int .i64 x.k) ∧ w.cell? ⟨(ad.add (k * 4)).block, (ad.add (k * 4)).off + 1, none⟩ = some (.int .i64 x.n) ∧
      w.cell? ⟨(ad.add (k * 4)).block, (ad.add (k * 4)).off + 2, none⟩ = some (.int .u64 x.u) ∧ w.cell? ⟨(ad.add (k * 4)).block, (ad.add (k * 4)).off + 3, none⟩ = some (.string x.s) := by
  have hl := h.1
  obtain ⟨ad, e, hB, hc⟩ := h.2 k (l[k]'(by omega)) (List.getElem?_eq_getElem (by omega))
  exact ⟨ad, _, e, List.getElem?_eq_getElem (by omega), hB, hc 0 _ rfl, by rw [← addLater ad (k * 4) 1 (by omega)]; exact hc 1 _ rfl, by rw [← addLater ad (k * 4) 2 (by omega)]; exact hc 2 _ rfl, by rw [← addLater ad (k * 4) 3 (by omega)]; exact hc 3 _ rfl⟩
/-- What is written of items, all three of each. -/
def backL (l : List Item) : List UInt8 := l.flatMap fun x => u64L (zig x.n) ++ u64L x.u ++ u64L x.s.size ++ x.s.data.toList
theorem backL_app (l m : List Item) : backL (l ++ m) = backL l ++ backL m := by simp [backL]
theorem backL_next {l : List Item} {k : Nat} {x : Item} (h : l[k]? = some x) : backL (l.take (k + 1)) = backL (l.take k) ++ u64L (zig x.n) ++ u64L x.u ++ u64L x.s.size ++ x.s.data.toList := by
  obtain ⟨hk, he⟩ := List.getElem?_eq_some_iff.1 h
  rw [List.take_succ_eq_append_getElem hk, he, backL_app]
  simp [backL]
theorem backL_cut {l : List Item} {j k : Nat} {x : Item} (h : l[j]? = some x) (hjk : j < k) : backL ((l.take k).drop j) = u64L (zig x.n) ++ (u64L x.u ++ (u64L x.s.size ++ (x.s.data.toList ++ backL ((l.take k).drop (j + 1))))) := by
  obtain ⟨hk, he⟩ := List.getElem?_eq_some_iff.1 h
  have hlt : j < (l.take k).length := by rw [List.length_take]; omega
  rw [List.drop_eq_getElem_cons hlt, List.getElem_take, he]
  simp [backL]
theorem from_of (M L : List UInt8) : (ofL (M ++ L)).extract M.length (ofL (M ++ L)).size = ofL L := by
  apply ByteArray.ext
  apply Array.ext'
  rw [ByteArray.data_extract, Array.toList_extract]
  show List.take _ (List.drop M.length (M ++ L)) = L
  rw [List.drop_left, List.take_of_length_le]
  rw [ofL_size, List.length_append]
  omega
theorem u_written (m : Nat) (hm : m < 18446744073709551616) (L : List UInt8) : uV ⟨ofL (u64L m ++ L), false⟩ = m ∧ uN ⟨ofL (u64L m ++ L), false⟩ = ⟨ofL L, false⟩ := by
  have h := rdU_written (ofL (u64L m ++ L)) L m hm rfl
  refine ⟨uV_some rfl h, ?_⟩
  rw [uN_some rfl h, Rd.from_, from_of]
theorem i_written (n : Int) (hn : I64 n) (L : List UInt8) : iV ⟨ofL (u64L (zig n) ++ L), false⟩ = n ∧ uN ⟨ofL (u64L (zig n) ++ L), false⟩ = ⟨ofL L, false⟩ := by
  obtain ⟨h1, h2⟩ := u_written (zig n) (zig_lt hn.1 hn.2) L
  exact ⟨by unfold iV; rw [h1, unzig_zig], h2⟩
theorem t_written (s : ByteArray) (hs : s.size ≤ 524288) (L : List UInt8) : tV ⟨ofL (u64L s.size ++ (s.data.toList ++ L)), false⟩ = s ∧ tN ⟨ofL (u64L s.size ++ (s.data.toList ++ L)), false⟩ = ⟨ofL L, false⟩ := by
  obtain ⟨h1, h2⟩ := u_written s.size (by omega) (s.data.toList ++ L)
  have hl := size_list s
  have hnb : ¬ tooBig (uN ⟨ofL (u64L s.size ++ (s.data.toList ++ L)), false⟩) (uV ⟨ofL (u64L s.size ++ (s.data.toList ++ L)), false⟩) := by
    rw [h1, h2]
    unfold tooBig
    simp only [ofL_size, List.length_append]
    omega
  obtain ⟨e1, e2⟩ := t_ok (by rw [h2]) hnb
  rw [e1, e2, h1, h2]
  constructor
  · apply ByteArray.ext
    apply Array.ext'
    rw [ByteArray.data_extract, Array.toList_extract]
    show List.take (s.size - 0) (List.drop 0 (s.data.toList ++ L)) = _
    rw [List.drop_zero, Nat.sub_zero, ← hl, List.take_left]
  · have := from_of s.data.toList L
    rw [hl] at this
    simp only [Rd.from_, this]
section
variable {B : Nat} {w0 w : World} {Q : SP} {b : Nat} {L : List UInt8}
theorem z_int {n : Int} (h : Holds B w0 w (star (blkP b 97 (Rd.mk (ofL (u64L (zig n) ++ L)) false).cs) Q)) (hQ : Stable Q) (hn : I64 n) :
    Calls Try.prog 25 #[.pointer (some ⟨b, 0, none⟩)] w (fun e w' => e = .returned (.int .i64 n) ∧ Holds B w0 w' (star (blkP b 97 (Rd.mk (ofL L) false).cs) Q)) := by
  obtain ⟨h1, h2⟩ := i_written n hn L
  have := x_rdi h hQ
  rwa [h1, h2] at this
theorem z_u64 {n : Nat} (h : Holds B w0 w (star (blkP b 97 (Rd.mk (ofL (u64L n ++ L)) false).cs) Q)) (hQ : Stable Q) (hn : n < 18446744073709551616) :
    Calls Try.prog 27 #[.pointer (some ⟨b, 0, none⟩)] w (fun e w' => e = .returned (.int .u64 n) ∧ Holds B w0 w' (star (blkP b 97 (Rd.mk (ofL L) false).cs) Q)) := by
  obtain ⟨h1, h2⟩ := u_written n hn L
  have := x_rdu h hQ
  rwa [h1, h2] at this
theorem z_text {s : ByteArray} (h : Holds B w0 w (star (blkP b 97 (Rd.mk (ofL (u64L s.size ++ (s.data.toList ++ L))) false).cs) Q)) (hQ : Stable Q) (hs : s.size ≤ 524288) (hL : L.length ≤ 1000000000) :
    Calls Try.prog 29 #[.pointer (some ⟨b, 0, none⟩)] w (fun e w' => e = .returned (.string s) ∧ Holds B w0 w' (star (blkP b 97 (Rd.mk (ofL L) false).cs) Q)) := by
  obtain ⟨h1, h2⟩ := t_written s hs L
  have hl := size_list s
  have h10 := u64L_len10 s.size (by omega)
  have := x_rdt h hQ (by simp only [ofL_size, List.length_append]; omega)
  rwa [h1, h2] at this
end
theorem item_all {w : World} {B : Nat} {A : Option Addr} {len : Nat} {l : List Item} (h : R.Args w B A len 4 Item.cells l) {k : Nat} (hk : k < len) :
    ∃ (ad : Addr) (x : Item), A = some ad ∧ l[k]? = some x ∧ ∀ w', Below B w w' → w'.cell? ⟨(ad.add (k * 4)).block, (ad.add (k * 4)).off + 1, none⟩ = some (.int .i64 x.n) ∧
      w'.cell? ⟨(ad.add (k * 4)).block, (ad.add (k * 4)).off + 2, none⟩ = some (.int .u64 x.u) ∧ w'.cell? ⟨(ad.add (k * 4)).block, (ad.add (k * 4)).off + 3, none⟩ = some (.string x.s) := by
  obtain ⟨ad, x, e, hx, hB, _, h1, h2, h3⟩ := item_at h hk
  have hb : (ad.add (k * 4)).block < B := by rw [addBlock]; exact hB
  exact ⟨ad, x, e, hx, fun w' hw => ⟨(hw.cell (p := ⟨(ad.add (k * 4)).block, (ad.add (k * 4)).off + 1, none⟩) hb).trans h1, (hw.cell (p := ⟨(ad.add (k * 4)).block, (ad.add (k * 4)).off + 2, none⟩) hb).trans h2, (hw.cell (p := ⟨(ad.add (k * 4)).block, (ad.add (k * 4)).off + 3, none⟩) hb).trans h3⟩⟩
theorem backL_rest (l : List Item) (j : Nat) : ∀ k, j ≤ k → (backL ((l.take k).drop j)).length ≤ (backL (l.take k)).length := by
  intro k hjk
  have e : backL (l.take k) = backL ((l.take k).take j) ++ backL ((l.take k).drop j) := by rw [← backL_app, List.take_append_drop]
  rw [e, List.length_append]
  omega
theorem backL_len (l : List Item) (k : Nat) (h : ∀ i x, i < k → l[i]? = some x → x.s.size ≤ 524288) (hk : k ≤ l.length) : (backL (l.take k)).length ≤ k * 524318 := by
  induction k with
  | zero => simp [backL]
  | succ k ih =>
    have h1 := ih (fun i x hi hx => h i x (by omega) hx) (by omega)
    have hx : l[k]? = some (l[k]'(by omega)) := List.getElem?_eq_getElem (by omega)
    have h2 := h k _ (by omega) hx
    have h3 := u64L_len10 _ (zig_lt (l[k]'(by omega)).hn.1 (l[k]'(by omega)).hn.2)
    have h4 := u64L_len10 _ (l[k]'(by omega)).hu
    have h5 := u64L_len10 (l[k]'(by omega)).s.size (by omega)
    have hl := size_list (l[k]'(by omega)).s
    rw [backL_next hx]
    simp only [List.length_append]
    omega
set_option maxRecDepth 100000 in
set_option maxHeartbeats 1600000 in
theorem back_calls (w : World) (A : Option Addr) (len cap : Nat) (l : List Item) (hA : R.Args w w.heap.size A len 4 Item.cells l) (hlen : len ≤ cap) (hcap : cap ≤ maxLen) :
    Calls Try.prog 6 #[.slice A len cap] w (fun e w' => e = .returned (.bool true) ∧ Keep Nothing w w') := by
  have HA := Lib.hid hA
  have hu27 := Try.underlying27
  have hb : ∀ w', Below w.heap.size w w' → Keep Nothing w w' := fun w' h => Keep.of_below h _
  have H0 := Lib.hid (Holds.start w)
  have SW := Lib.hid wrP_stable
  have SB := Lib.hid blkP_stable
  have SN := Lib.hid none_stable
  have hmax : maxLen = 9223372036854775807 := by rfl
  have HL := Lib.hid hA.1
  clear hA
  go_enter Try.func6, Try.ntmps6
  go_wp2_with fail
  refine (new_calls _).mono ?_
  rintro e w1 ⟨rfl, hw1⟩
  have H1 := Lib.hid (show Holds w.heap.size w w1 (star (wrP w.heap.size []) none_) by rw [hw1]; exact Holds.newWr H0.out none_stable)
  clear hw1
  go_wp2_with fail
  generalize hg1 : w.heap.size = b1 at *
  clear hg1
  go_loopw [4] (fun v wr => ∃ (k : Nat), k ≤ 100 ∧ k ≤ len ∧ v = .int .i64 k ∧ Holds b1 w wr (star (wrP b1 (backL (l.take k))) none_) ∧ (∀ i x, i < k → l[i]? = some x → x.s.size ≤ 524288)) (fun v _ => 100 - (intOf v).toNat)
  case atStart => exact ⟨0, by omega, by omega, by simp, H1.out, fun i x hi => by omega⟩
  case round =>
    obtain ⟨k, hk, hkl, rfl, hh, hsm⟩ := hrel
    have H := Lib.hid hh
    have SM := Lib.hid hsm
    have hbl := backL_len l k hsm (by have := HL.out; omega)
    clear hh hsm
    by_cases hin : k < len ∧ k < 100
    · obtain ⟨hkl, hk1⟩ := hin
      obtain ⟨ad, x, rfl, hx, hB, hc0, hc1, hc2, hc3⟩ := item_at (HA.out.below H.out.below) hkl
      have HX := Lib.hid hx
      have HN := Lib.hid (backL_next hx)
      clear hx
      by_cases hs : x.s.size ≤ 524288
      · have l1 := u64L_len10 _ (zig_lt x.hn.1 x.hn.2)
        have l2 := u64L_len10 _ x.hu
        have g1 : decide ((524288 : Int) < (x.s.size : Int)) = false := decide_eq_false (by omega)
        go_wp2_with fail
        refine (x_int H.out SN.out x.n x.hn (by omega)).mono ?_
        rintro e w2 ⟨rfl, h2⟩
        have H2 := Lib.hid h2
        clear h2 hc0 hc1 hc2 hc3
        obtain ⟨ad', x', had, hx', hB', hc0, hc1, hc2, hc3⟩ := item_at (HA.out.below H2.out.below) hkl
        injection had with had
        subst had
        rw [HX.out] at hx'
        injection hx' with hx'
        subst hx'
        go_wp2_with fail
        refine (x_u64 H2.out SN.out x.u x.hu (by simp only [List.length_append]; omega)).mono ?_
        rintro e w3 ⟨rfl, h3⟩
        have H3 := Lib.hid h3
        clear h3 hc0 hc1 hc2 hc3
        obtain ⟨ad', x', had, hx', hB', hc0, hc1, hc2, hc3⟩ := item_at (HA.out.below H3.out.below) hkl
        injection had with had
        subst had
        rw [HX.out] at hx'
        injection hx' with hx'
        subst hx'
        go_wp2_with fail
        refine (x_text H3.out SN.out x.s (by simp only [List.length_append]; omega)).mono ?_
        rintro e w4 ⟨rfl, h4⟩
        have H4 := Lib.hid h4
        clear h4
        go_wp2_with fail
        go_roundw
        case rel => exact ⟨k + 1, by omega, by omega, by go_num, by rw [HN.out]; exact H4.out, fun i y hi hy => by
          by_cases h : i < k
          · exact SM.out i y h hy
          · obtain rfl : i = k := by omega
            rw [HX.out] at hy
            injection hy with hy
            rw [← hy]; exact hs⟩
        case measure => simp [intOf]; omega
      · have g1 : decide ((524288 : Int) < (x.s.size : Int)) = true := decide_eq_true (by omega)
        go_wp2_with fail
        refine (awake_calls _).mono ?_
        rintro e w3 ⟨rfl, hk3⟩
        have K3 := Lib.hid hk3
        clear hk3
        go_wp2_with fail
        go_ret
        exact ⟨rfl, (hb _ H.out.below).then K3.out⟩
    · rcases (show ¬ k < len ∨ (k < len ∧ ¬ k < 100) by omega) with hex | ⟨hex1, hex2⟩
      all_goals go_wp2_with fail
      all_goals refine (x_string H.out (by omega)).mono ?_
      all_goals rintro e w' ⟨rfl, rfl⟩
      all_goals go_wp2_with fail
      all_goals refine (of_calls _ _).mono ?_
      all_goals rintro e w5 ⟨rfl, hw5⟩
      all_goals have H5 := Lib.hid (show Holds b1 w w5 (star (blkP w'.heap.size 97 (Rd.mk (ofL (backL (l.take k))) false).cs) (star (wrP b1 (backL (l.take k))) none_)) by rw [hw5]; exact H.out.newBlk ((SW.out _ _).star SN.out) 97 _)
      all_goals clear hw5
      all_goals go_wp2_with fail
      · generalize hg3 : w'.heap.size = b3 at *
        clear hg3
        have SQ := Lib.hid ((SW.out b1 (backL (l.take k))).star SN.out)
        generalize star (wrP b1 (backL (l.take k))) none_ = QQ at *
        have hbj := Lib.hid (fun j (h : j ≤ k) => backL_rest l j k h)
        go_loopw [6] (fun v wr2 => ∃ (j : Nat), j ≤ k ∧ v = .int .i64 j ∧ Holds b1 w wr2 (star (blkP b3 97 (Rd.mk (ofL (backL ((l.take k).drop j))) false).cs) QQ)) (fun v _ => k - (intOf v).toNat)
        case atStart => exact ⟨0, by omega, by simp, H5.out⟩
        case round =>
          obtain ⟨j, hj, rfl, h6⟩ := hrel
          by_cases hjk : j < k
          · obtain ⟨ad, x, rfl, hx, hat⟩ := item_all HA.out (show j < len by omega)
            have hcut := backL_cut hx hjk
            have hxs := SM.out j x hjk hx
            have hrl := hbj.out (j + 1) (by omega)
            rw [hcut] at h6
            have CC := Lib.hid hat
            have c0 := CC.out _ h6.below
            have H6 := Lib.hid h6
            have S3 := Lib.hid (fun L => (SB.out b3 97 (Rd.mk (ofL L) false).cs).star SQ.out)
            generalize hLR : backL ((l.take k).drop (j + 1)) = LR at *
            have ELR := Lib.hid hLR
            clear hLR
            have T := Lib.hid (fun n => z_int (H6.out.drewN (S3.out _) n) SQ.out x.hn)
            have HU := Lib.hid x.hu
            clear hx hat hcut h6
            have hxx : (x.s.toList == x.s.toList) = true := by simp
            go_wp2_with fail
            go_region_held3 (fun w' => w'.cell? ⟨(ad.add (j * 4)).block, (ad.add (j * 4)).off + 1, none⟩ = some (.int .i64 x.n) ∧ w'.cell? ⟨(ad.add (j * 4)).block, (ad.add (j * 4)).off + 2, none⟩ = some (.int .u64 x.u) ∧ w'.cell? ⟨(ad.add (j * 4)).block, (ad.add (j * 4)).off + 3, none⟩ = some (.string x.s)) (first | exact c0 | exact c5 | exact c7 | exact c8 | go_keep) ((first | (go_at_call 25; refine (T.out _).mono ?_; rintro e w6 ⟨rfl, T5⟩; have c5 := CC.out _ T5.below) | (go_at_call 27; refine (z_u64 T5 SQ.out HU.out).mono ?_; rintro e w7 ⟨rfl, T6⟩; have c7 := CC.out _ T6.below) | (go_at_call 29; refine (z_text T6 SQ.out hxs (by omega)).mono ?_; rintro e w8 ⟨rfl, T7⟩; have c8 := CC.out _ T7.below)))
            go_wp2_with fail
            go_roundw
            case rel => exact ⟨j + 1, by omega, by go_num, by rw [ELR.out]; exact T7⟩
            case measure => simp [intOf]; omega
          · obtain rfl : j = k := by omega
            have e0 : (l.take j).drop j = [] := List.drop_of_length_le (by rw [List.length_take]; omega)
            rw [e0] at h6
            have H6 := Lib.hid h6
            clear h6
            have hD := x_rdd H6.out
            rw [show dV (Rd.mk (ofL (backL [])) false) = 0 from rfl] at hD
            have HD := Lib.hid hD
            clear hD
            go_wp2_with fail
            refine HD.out.mono ?_
            rintro e w6 ⟨rfl, rfl⟩
            go_wp2_with fail
            refine (awake_calls _).mono ?_
            rintro e w9 ⟨rfl, hk9⟩
            have K9 := Lib.hid hk9
            clear hk9
            go_wp2_with fail
            go_ret
            exact ⟨rfl, (hb _ H6.out.below).then K9.out⟩
      · generalize hg3 : w'.heap.size = b3 at *
        clear hg3
        have SQ := Lib.hid ((SW.out b1 (backL (l.take k))).star SN.out)
        generalize star (wrP b1 (backL (l.take k))) none_ = QQ at *
        have hbj := Lib.hid (fun j (h : j ≤ k) => backL_rest l j k h)
        go_loopw [6] (fun v wr2 => ∃ (j : Nat), j ≤ k ∧ v = .int .i64 j ∧ Holds b1 w wr2 (star (blkP b3 97 (Rd.mk (ofL (backL ((l.take k).drop j))) false).cs) QQ)) (fun v _ => k - (intOf v).toNat)
        case atStart => exact ⟨0, by omega, by simp, H5.out⟩
        case round =>
          obtain ⟨j, hj, rfl, h6⟩ := hrel
          by_cases hjk : j < k
          · obtain ⟨ad, x, rfl, hx, hat⟩ := item_all HA.out (show j < len by omega)
            have hcut := backL_cut hx hjk
            have hxs := SM.out j x hjk hx
            have hrl := hbj.out (j + 1) (by omega)
            rw [hcut] at h6
            have CC := Lib.hid hat
            have c0 := CC.out _ h6.below
            have H6 := Lib.hid h6
            have S3 := Lib.hid (fun L => (SB.out b3 97 (Rd.mk (ofL L) false).cs).star SQ.out)
            generalize hLR : backL ((l.take k).drop (j + 1)) = LR at *
            have ELR := Lib.hid hLR
            clear hLR
            have T := Lib.hid (fun n => z_int (H6.out.drewN (S3.out _) n) SQ.out x.hn)
            have HU := Lib.hid x.hu
            clear hx hat hcut h6
            have hxx : (x.s.toList == x.s.toList) = true := by simp
            go_wp2_with fail
            go_region_held3 (fun w' => w'.cell? ⟨(ad.add (j * 4)).block, (ad.add (j * 4)).off + 1, none⟩ = some (.int .i64 x.n) ∧ w'.cell? ⟨(ad.add (j * 4)).block, (ad.add (j * 4)).off + 2, none⟩ = some (.int .u64 x.u) ∧ w'.cell? ⟨(ad.add (j * 4)).block, (ad.add (j * 4)).off + 3, none⟩ = some (.string x.s)) (first | exact c0 | exact c5 | exact c7 | exact c8 | go_keep) ((first | (go_at_call 25; refine (T.out _).mono ?_; rintro e w6 ⟨rfl, T5⟩; have c5 := CC.out _ T5.below) | (go_at_call 27; refine (z_u64 T5 SQ.out HU.out).mono ?_; rintro e w7 ⟨rfl, T6⟩; have c7 := CC.out _ T6.below) | (go_at_call 29; refine (z_text T6 SQ.out hxs (by omega)).mono ?_; rintro e w8 ⟨rfl, T7⟩; have c8 := CC.out _ T7.below)))
            go_wp2_with fail
            go_roundw
            case rel => exact ⟨j + 1, by omega, by go_num, by rw [ELR.out]; exact T7⟩
            case measure => simp [intOf]; omega
          · obtain rfl : j = k := by omega
            have e0 : (l.take j).drop j = [] := List.drop_of_length_le (by rw [List.length_take]; omega)
            rw [e0] at h6
            have H6 := Lib.hid h6
            clear h6
            have hD := x_rdd H6.out
            rw [show dV (Rd.mk (ofL (backL [])) false) = 0 from rfl] at hD
            have HD := Lib.hid hD
            clear hD
            go_wp2_with fail
            refine HD.out.mono ?_
            rintro e w6 ⟨rfl, rfl⟩
            go_wp2_with fail
            refine (awake_calls _).mono ?_
            rintro e w9 ⟨rfl, hk9⟩
            have K9 := Lib.hid hk9
            clear hk9
            go_wp2_with fail
            go_ret
            exact ⟨rfl, (hb _ H6.out.below).then K9.out⟩
set_option maxRecDepth 100000 in
open Go.ChangeShapes Go.WideShapes Go.ChangeAt in
theorem open_items {H : Type} {enc : TypeId × Value → H} {W : World} {base : Nat} {v : Value} {d : DataW H} {p : List MemPlace}
    (hv : Value.okWide Try.prog W .any base 22 v) (h : DataW.Trod enc Try.prog W 0 (fun _ => true) true 22 v d p) (hlt : ∀ x ∈ p, x.block < W.heap.size) :
    ∃ A len cap l, v = .slice A len cap ∧ len ≤ cap ∧ cap ≤ maxLen ∧ R.Args W W.heap.size A len 4 Item.cells l := by
  obtain ⟨A, len, cap, rfl, hc1, hc2, hel, hd⟩ := R.open_cells Try.underlying22 cells27 hv h hlt (by omega)
  obtain ⟨l, hl, hp⟩ := R.exists_list (p := fun i (x : Item) => ∃ ad, A = some ad ∧ ad.block < W.heap.size ∧ ∀ j u, x.cells[j]? = some u → W.cell? (ad.add (i * 4 + j)) = some u) len (fun i hi => by
    obtain ⟨ad, cs, n, y, rfl, hB, hcl, hat, ht, _⟩ := hel i hi
    obtain ⟨x, rfl⟩ := item_cells ht
    exact ⟨x, ad, rfl, hB, fun j u hu => (hat j (by have := (List.getElem?_eq_some_iff.1 hu).1; simpa [Item.cells] using this)).trans hu⟩)
  exact ⟨A, len, cap, l, rfl, hc1, hc2, hl, hp⟩
set_option maxRecDepth 100000 in
open Go.ChangeShapes Go.WideShapes Go.ChangeAt in
theorem back_law : R.Law 6 Try.f6 R.any := by
  intro H enc W base args ds p hval hA hsz _ hlt
  rw [Try.params6] at hA hval
  obtain ⟨v0, vs0, d0, ds0, p0, q0, hargs, rfl, rfl, h0, r0⟩ := trodAll_cons hA
  obtain ⟨rfl, rfl, rfl⟩ := trodAll_nil r0
  obtain rfl : args = #[v0] := by cases args; simp_all
  obtain ⟨A, len, cap, l, rfl, h1, h2, hl⟩ := open_items (hval 0 22 v0 rfl rfl) h0 (fun x hx => hlt x (List.mem_append_left _ hx))
  exact (back_calls W A len cap l hl h1 h2).mono fun e w' h => ⟨h.1, h.2.below (Nat.le_refl _) (fun _ h => h.elim)⟩
end Go.Proofs.Ytjojibgihoebaaa.A
