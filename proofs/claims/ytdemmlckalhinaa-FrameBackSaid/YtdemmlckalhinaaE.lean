/-
  First.
-/
import Derived.Test.YtdemmlckalhinaaD
import Derived.Lib.BufferWrite
import Derived.Deep.RegionHeld3
namespace Go.Proofs.Ytdemmlckalhinaa.A
open Go.RowKit Go.Proofs.Ytdemmlckalhinaa.U
set_option linter.unusedVariables false
set_option linter.unusedSimpArgs false

def firstE (s : ByteArray) : Int :=
  if s.size < 8 then 4 else if 524288 < numS s then 2 else if s.size < 8 + numS s then 4
  else if sumS (s.extract 0 4 ++ s.extract 8 (8 + numS s)) = numS (s.extract 4 8) then 0 else 3
def firstT (s : ByteArray) : ByteArray := if firstE s = 0 then s.extract 8 (8 + numS s) else ByteArray.empty
def firstN (s : ByteArray) : Nat := if firstE s = 0 then 8 + numS s else 0
def firstV (s : ByteArray) : Value := .tuple #[.string (firstT s), .int .i64 ((firstN s : Nat) : Int), .int .i64 (firstE s)]
theorem first_end {s : ByteArray} (h : firstE s ≠ 0) : firstV s = .tuple #[.string ByteArray.empty, .int .i64 0, .int .i64 (firstE s)] := by
  unfold firstV firstT firstN
  rw [if_neg h, if_neg h]
  rfl

set_option maxRecDepth 100000 in
theorem rfirst_calls (w : World) (s : ByteArray) (hs : s.size ≤ 90000000) : Calls Try.prog 13 #[.string s] w (Pure w (firstV s)) := by
  by_cases h8 : s.size < 8
  · have he : firstE s = 4 := by unfold firstE; rw [if_pos h8]
    have HE := Lib.hid (first_end (s := s) (by rw [he]; decide))
    rw [he] at HE
    go_enter Try.func13, Try.ntmps13
    go_wp2_with fail
    go_ret3
    exact ⟨by rw [HE.out]; rfl, Drew.same _⟩
  · have hn := numS_lt s
    have hnum := number_calls w s (by omega)
    have HNUM := Lib.hid hnum
    clear hnum
    by_cases hbig : 524288 < numS s
    · have he : firstE s = 2 := by unfold firstE; rw [if_neg h8, if_pos hbig]
      have HE := Lib.hid (first_end (s := s) (by rw [he]; decide))
      rw [he] at HE
      go_enter Try.func13, Try.ntmps13
      go_wp2_with fail
      refine HNUM.out.mono ?_
      rintro e w1 ⟨rfl, ⟨n1, rfl⟩⟩
      go_wp2_with fail
      go_ret3
      exact ⟨by rw [HE.out]; rfl, (Drew.same _).more _⟩
    · by_cases hend : s.size < 8 + numS s
      · have he : firstE s = 4 := by unfold firstE; rw [if_neg h8, if_neg hbig, if_pos hend]
        have HE := Lib.hid (first_end (s := s) (by rw [he]; decide))
        rw [he] at HE
        go_enter Try.func13, Try.ntmps13
        go_wp2_with fail
        refine HNUM.out.mono ?_
        rintro e w1 ⟨rfl, ⟨n1, rfl⟩⟩
        go_wp2_with fail
        go_ret3
        exact ⟨by rw [HE.out]; rfl, (Drew.same _).more _⟩
      · go_enter Try.func13, Try.ntmps13
        go_wp2_with fail
        refine HNUM.out.mono ?_
        rintro e w1 ⟨rfl, ⟨n1, rfl⟩⟩
        have he : firstE s = if sumS (s.extract 0 4 ++ s.extract 8 (8 + numS s)) = numS (s.extract 4 8) then 0 else 3 := by
          conv => lhs; unfold firstE
          rw [if_neg h8, if_neg hbig, if_neg hend]
        have HE := Lib.hid he
        clear he
        generalize hnn : numS s = n at *
        have i1 : (8 : Int) + n ≤ s.size := by omega
        have i2 : (8 : Int) ≤ 8 + (n : Int) := by omega
        have i3 : (8 : Int) ≤ s.size := by omega
        have i4 : (4 : Int) ≤ s.size := by omega
        have i5 : IntKind.i64.wrap (8 + (n : Int)) = 8 + (n : Int) := by rw [IntKind.wrap_i64]; omega
        have i6 : (0 : Int) ≤ 8 + (n : Int) := by omega
        have i7 : (8 + (n : Int)).toNat = 8 + n := by omega
        have HNN := Lib.hid hnn
        clear hnn
        go_wp2_with fail
        have z1 : (s.extract 0 4 ++ s.extract 8 (8 + n)).size ≤ 100000000 := by rw [ByteArray.size_append, ByteArray.size_extract, ByteArray.size_extract]; omega
        have z2 : 4 ≤ (s.extract 4 8).size := by rw [ByteArray.size_extract]; omega
        by_cases hsum : sumS (s.extract 0 4 ++ s.extract 8 (8 + n)) = numS (s.extract 4 8)
        · rw [if_pos hsum] at HE
          have HV : firstV s = .tuple #[.string (s.extract 8 (8 + n)), .int .i64 (8 + (n : Int)), .int .i64 0] := by
            unfold firstV firstT firstN
            rw [HE.out, if_pos rfl, if_pos rfl, HNN.out]
            simp
          have HVV := Lib.hid HV
          have g1 : (((sumS (s.extract 0 4 ++ s.extract 8 (8 + n)) : Nat) : Int) != ((numS (s.extract 4 8) : Nat) : Int)) = false := by rw [hsum]; simp
          clear HV hsum
          go_quiet ((first | (go_at_call 11; exact Pure.qa (rsum_calls _ _ z1)) | (go_at_call 20; exact Pure.qa (number_calls _ _ z2))))
          go_wp2_with fail
          go_ret3
          exact ⟨by rw [HVV.out]; rfl, by first | exact (Drew.same _).more _ | exact ((Drew.same _).more _).more _⟩
        · rw [if_neg hsum] at HE
          have HVV := Lib.hid (first_end (s := s) (by rw [HE.out]; decide))
          rw [HE.out] at HVV
          have g1 : (((sumS (s.extract 0 4 ++ s.extract 8 (8 + n)) : Nat) : Int) != ((numS (s.extract 4 8) : Nat) : Int)) = true := by simp; omega
          clear hsum
          go_quiet ((first | (go_at_call 11; exact Pure.qa (rsum_calls _ _ z1)) | (go_at_call 20; exact Pure.qa (number_calls _ _ z2))))
          go_wp2_with fail
          go_ret3
          exact ⟨by rw [HVV.out]; rfl, by first | exact (Drew.same _).more _ | exact ((Drew.same _).more _).more _⟩
theorem copy_head (w : World) (g : Nat) (s : ByteArray) (cur : Array Value) (hb : Blk w g 44 cur) (hc : cur.size = 8) (hs : 8 ≤ s.size) :
    (Builtin.copy_ #[40, 9] 3 #[.slice (some ⟨g, 0, none⟩) 8 8, .string s]).run Try.prog w = .ok (goInt 8) (w.setRow g (((s.data.toList.map fun b : UInt8 => Value.int IntKind.u8 (b.toNat : Int)).take 8).toArray)) := by
  have hlen : ((s.data.toList.map fun b : UInt8 => Value.int IntKind.u8 (b.toNat : Int)).take 8).length = 8 := by
    rw [List.length_take, List.length_map]
    have : s.data.toList.length = s.size := by simp
    omega
  have hst := run_storeCells_at Try.prog g 0 44 ((s.data.toList.map fun b : UInt8 => Value.int IntKind.u8 (b.toNat : Int)).take 8) 0 cur w hb (by rw [hlen]; omega) (fun u hu => by
    obtain ⟨x, _, rfl⟩ := List.mem_map.1 (List.mem_of_mem_take hu)
    rfl)
  rw [hlen] at hst
  simp only [Nat.add_zero, List.take_zero, List.nil_append, Nat.zero_add] at hst
  rw [List.drop_of_length_le (by simp [hc]), List.append_nil] at hst
  have hmin : Nat.min s.size 8 = 8 := Nat.min_eq_right hs
  have hi : (Try.prog.info? 5).map (·.size) = some 1 := by kernel_rfl
  cases hq : Try.prog.info? 5 with
  | none => simp [hq] at hi
  | some i =>
    rw [hq] at hi
    simp at hi
    simp [Builtin.copy_, run_underlying Try.underlying40, Builtin.lenOf, Builtin.firstCells, sizeOf, typeInfo, hq, hmin, hi]
    rw [hst]
    simp [Result.andThen]
set_option maxRecDepth 100000 in
set_option maxHeartbeats 1600000 in
theorem first_calls (w : World) (s : ByteArray) (hs : s.size ≤ 90000000) : Calls Try.prog 12 #[.string s] w (fun e w' => e = .returned (firstV s) ∧ Keep Nothing w w') := by
  have hu44 := Try.underlying44
  by_cases h8 : s.size < 8
  · have he : firstE s = 4 := by unfold firstE; rw [if_pos h8]
    have HE := Lib.hid (first_end (s := s) (by rw [he]; decide))
    rw [he] at HE
    go_enter Try.func12, Try.ntmps12
    go_wp2_with fail
    go_ret3
    exact ⟨by rw [HE.out]; rfl, Keep.same _ _⟩
  · have hn := numS_lt s
    have hcp := copy_head (w.alloc (.cells z8 44)) w.heap.size s z8 (Blk.fresh w 44 z8) rfl (by omega)
    have hB : Blk ((w.alloc (.cells z8 44)).setRow w.heap.size (((s.data.toList.map fun b : UInt8 => Value.int IntKind.u8 (b.toNat : Int)).take 8).toArray)) w.heap.size 44 (((s.data.toList.map fun b : UInt8 => Value.int IntKind.u8 (b.toNat : Int)).take 8).toArray) := (Blk.fresh w 44 z8).setRow _
    have hK : Keep Nothing w ((w.alloc (.cells z8 44)).setRow w.heap.size (((s.data.toList.map fun b : UInt8 => Value.int IntKind.u8 (b.toNat : Int)).take 8).toArray)) := ((Keep.same Nothing w).alloc _).setRow (.inr (Nat.le_refl _)) _
    have hat : ∀ i, i < 8 → (((s.data.toList.map fun b : UInt8 => Value.int IntKind.u8 (b.toNat : Int)).take 8).toArray)[i]? = some (.int .u8 ((byteAt s i : Nat) : Int)) := fun i hi => by
      rw [List.getElem?_toArray, List.getElem?_take_of_lt hi, List.getElem?_map, byteAt, List.getD_eq_getElem?_getD]
      have hl : i < s.data.toList.length := by
        have : s.data.toList.length = s.size := by simp
        omega
      rw [List.getElem?_eq_getElem hl]
      rfl
    have hsz : (((s.data.toList.map fun b : UInt8 => Value.int IntKind.u8 (b.toNat : Int)).take 8).toArray).size = 8 := by
      have : s.data.toList.length = s.size := by simp
      simp
      omega
    generalize (((s.data.toList.map fun b : UInt8 => Value.int IntKind.u8 (b.toNat : Int)).take 8).toArray) = cs at *
    generalize (w.alloc (.cells z8 44)).setRow w.heap.size cs = w1 at *
    have G0 : ∀ W, Blk W w.heap.size 44 cs → Calls Try.prog 19 #[.pointer (some ⟨w.heap.size, 0, none⟩), .int .i64 0] W (Pure W (.int .i64 ((numS s : Nat) : Int))) := fun W hW =>
      get_calls W w.heap.size cs 0 (byteAt s) hW hsz (by omega) (fun i hi => by rw [Nat.zero_add]; exact hat i (by omega)) (byteAt_lt s)
    have e48 : ∀ i, i < 4 → byteAt (s.extract 4 8) i = byteAt s (4 + i) := fun i hi => by
      have hl : (s.extract 4 8).data.toList = (s.data.toList.drop 4).take 4 := by rw [ByteArray.data_extract]; simp
      unfold byteAt
      rw [hl, List.getD_eq_getElem?_getD, List.getD_eq_getElem?_getD, List.getElem?_take_of_lt hi, List.getElem?_drop]
    have en : numK (fun i => byteAt s (4 + i)) 4 = numS (s.extract 4 8) := by
      unfold numS
      simp only [numK]
      rw [e48 0 (by omega), e48 1 (by omega), e48 2 (by omega), e48 3 (by omega)]
    have G4 : ∀ W, Blk W w.heap.size 44 cs → Calls Try.prog 19 #[.pointer (some ⟨w.heap.size, 0, none⟩), .int .i64 4] W (Pure W (.int .i64 ((numS (s.extract 4 8) : Nat) : Int))) := fun W hW => by
      have := get_calls W w.heap.size cs 4 (fun i => byteAt s (4 + i)) hW hsz (by omega) (fun i hi => hat (4 + i) (by omega)) (fun i => byteAt_lt s _)
      rwa [en] at this
    have HG0 := Lib.hid G0
    have HG4 := Lib.hid G4
    have HB := Lib.hid hB
    have HK := Lib.hid hK
    clear G0 G4 en e48 hat hB hK hsz
    by_cases hbig : 524288 < numS s
    · have he : firstE s = 2 := by unfold firstE; rw [if_neg h8, if_pos hbig]
      have HE := Lib.hid (first_end (s := s) (by rw [he]; decide))
      rw [he] at HE
      go_enter Try.func12, Try.ntmps12
      go_wp2_with fail
      refine (HG0.out _ HB.out).mono ?_
      rintro e w2 ⟨rfl, ⟨n1, rfl⟩⟩
      go_wp2_with fail
      go_ret3
      exact ⟨by rw [HE.out]; rfl, HK.out.drewN _⟩
    · by_cases hend : s.size < 8 + numS s
      · have he : firstE s = 4 := by unfold firstE; rw [if_neg h8, if_neg hbig, if_pos hend]
        have HE := Lib.hid (first_end (s := s) (by rw [he]; decide))
        rw [he] at HE
        go_enter Try.func12, Try.ntmps12
        go_wp2_with fail
        refine (HG0.out _ HB.out).mono ?_
        rintro e w2 ⟨rfl, ⟨n1, rfl⟩⟩
        go_wp2_with fail
        go_ret3
        exact ⟨by rw [HE.out]; rfl, HK.out.drewN _⟩
      · go_enter Try.func12, Try.ntmps12
        go_wp2_with fail
        refine (HG0.out _ HB.out).mono ?_
        rintro e w2 ⟨rfl, ⟨n1, rfl⟩⟩
        have he : firstE s = if sumS (s.extract 0 4 ++ s.extract 8 (8 + numS s)) = numS (s.extract 4 8) then 0 else 3 := by
          conv => lhs; unfold firstE
          rw [if_neg h8, if_neg hbig, if_neg hend]
        have HE := Lib.hid he
        clear he
        generalize hnn : numS s = n at *
        have i1 : (8 : Int) + n ≤ s.size := by omega
        have i2 : (8 : Int) ≤ 8 + (n : Int) := by omega
        have i3 : (8 : Int) ≤ s.size := by omega
        have i4 : (4 : Int) ≤ s.size := by omega
        have i5 : IntKind.i64.wrap (8 + (n : Int)) = 8 + (n : Int) := by rw [IntKind.wrap_i64]; omega
        have i6 : (0 : Int) ≤ 8 + (n : Int) := by omega
        have i7 : (8 + (n : Int)).toNat = 8 + n := by omega
        have HNN := Lib.hid hnn
        clear hnn hcp
        have z1 : (s.extract 0 4 ++ s.extract 8 (8 + n)).size ≤ 100000000 := by rw [ByteArray.size_append, ByteArray.size_extract, ByteArray.size_extract]; omega
        have hcat := fun w => cat w (s.extract 0 4) (s.extract 8 (8 + n)) (by rw [ByteArray.size_extract, ByteArray.size_extract]; omega)
        by_cases hsum : sumS (s.extract 0 4 ++ s.extract 8 (8 + n)) = numS (s.extract 4 8)
        · rw [if_pos hsum] at HE
          have HV : firstV s = .tuple #[.string (s.extract 8 (8 + n)), .int .i64 (8 + (n : Int)), .int .i64 0] := by
            unfold firstV firstT firstN
            rw [HE.out, if_pos rfl, if_pos rfl, HNN.out]
            simp
          have HVV := Lib.hid HV
          have g1 : (((sumS (s.extract 0 4 ++ s.extract 8 (8 + n)) : Nat) : Int) != ((numS (s.extract 4 8) : Nat) : Int)) = false := by rw [hsum]; simp
          clear HV hsum
          go_wp2_with fail
          go_region_held3 (fun _ => True) (trivial) ((first | (go_at_call 10; refine (sum_calls _ _ z1).mono ?_; rintro e w3 ⟨rfl, hk3⟩; have K3 := Lib.hid hk3; have B3 := Lib.hid ((HB.out.drewN _).keep hk3 (fun h => h)); clear hk3) | (go_at_call 19; refine (HG4.out _ B3.out).mono ?_; rintro e w4 ⟨rfl, ⟨n4, rfl⟩⟩)))
          go_wp2_with fail
          go_ret3
          exact ⟨by rw [HVV.out]; rfl, ((HK.out.drewN _).trans K3.out (fun _ h => h.elim)).drewN _⟩
        · rw [if_neg hsum] at HE
          have HVV := Lib.hid (first_end (s := s) (by rw [HE.out]; decide))
          rw [HE.out] at HVV
          have g1 : (((sumS (s.extract 0 4 ++ s.extract 8 (8 + n)) : Nat) : Int) != ((numS (s.extract 4 8) : Nat) : Int)) = true := by simp; omega
          clear hsum
          go_wp2_with fail
          go_region_held3 (fun _ => True) (trivial) ((first | (go_at_call 10; refine (sum_calls _ _ z1).mono ?_; rintro e w3 ⟨rfl, hk3⟩; have K3 := Lib.hid hk3; have B3 := Lib.hid ((HB.out.drewN _).keep hk3 (fun h => h)); clear hk3) | (go_at_call 19; refine (HG4.out _ B3.out).mono ?_; rintro e w4 ⟨rfl, ⟨n4, rfl⟩⟩)))
          go_wp2_with fail
          go_ret3
          exact ⟨by rw [HVV.out]; rfl, ((HK.out.drewN _).trans K3.out (fun _ h => h.elim)).drewN _⟩
end Go.Proofs.Ytdemmlckalhinaa.A
