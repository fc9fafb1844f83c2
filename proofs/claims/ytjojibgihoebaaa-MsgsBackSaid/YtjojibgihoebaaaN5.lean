/-
  A message's bytes, the reference's.
-/
import Derived.Test.YtjojibgihoebaaaN4
namespace Go.Proofs.Ytjojibgihoebaaa.A
open Go.RowKit Go.Proofs.Ytjojibgihoebaaa.U
set_option linter.unusedVariables false
set_option linter.unusedSimpArgs false
set_option maxRecDepth 100000

theorem intS_ofL (n : Int) : intS n = ofL (u64L (zig n)) := rfl
theorem textS_ofL (s : ByteArray) : textS s = ofL (u64L s.size ++ s.data.toList) := by
  unfold textS u64S
  rw [ofL_app, ofL_list]
theorem head_sum (m : Msg) : intS m.k ++ intS m.f ++ intS m.t ++ intS m.b ++ intS m.s ++ intS m.r ++ intS m.z ++ intS m.e ++ intS (m.es.length : Int) = ofL (hdL (spansL m)) := by
  simp only [intS_ofL, ← ofL_app, hdL, spansL, List.flatMap_cons, List.flatMap_nil, List.append_nil, List.append_assoc]
theorem tail_sum (m : Msg) : textS (encS m.c) ++ (intS m.p.s ++ intS m.p.q ++ intS m.p.e ++ u64S m.p.k ++ intS m.p.n ++ textS m.x) = ofL (tlL m) := by
  simp only [intS_ofL, textS_ofL, u64S, ← ofL_app, tlL, List.append_nil, List.append_assoc]
theorem kept_all {B : Nat} {w0 w : World} {P : SP} (h : Holds B w0 w P) (hP : Stable P) : ∀ X, Keep Nothing w X → Holds B w0 X P := fun X hk => h.kept hP hk
theorem keepN {B : Nat} {w0 w : World} {P : SP} (h : Holds B w0 w P) : ∀ n, Keep Nothing w (w.drewN n) := fun n => (Keep.same Nothing w).drewN n
theorem keep0 {B : Nat} {w0 w : World} {P : SP} (h : Holds B w0 w P) : Keep Nothing w w := Keep.same Nothing w
set_option maxHeartbeats 25600000 in
theorem mrenc_calls (w : World) (m : Msg) (A : Option Addr) (c : Nat) (hs : U.Src w A 7 m.es.length (ents m.es)) (hm : MIn m) (hlen : m.es.length ≤ 4611686018427387904) :
    Calls Try.prog 45 #[mval m A c] w (fun e w' => e = .returned (.tuple #[.string (msgS m), .int .i64 (okE (msgOk m))]) ∧ Keep Nothing w w') := by
  have hu := Try.underlying79
  have hu77 := Try.underlying77
  have hu54 := Try.underlying54
  have hu52 := Try.underlying52
  have hb : ∀ w', Below w.heap.size w w' → Keep Nothing w w' := fun w' h => Keep.of_below h _
  have HM := Lib.hid hm
  have HS := Lib.hid hs
  have H0 := Lib.hid (Holds.newBlk (Holds.start w) none_stable 79 (mcs m A c))
  have X0 := Lib.hid (blk_atM H0.out)
  have hi79 : (Try.prog.info? 79).map (·.size) = some 20 := by kernel_rfl
  have HMY := Lib.hid (mrmay_calls _ m A c (src_kept hs ((Keep.same Nothing w).alloc (.cells (mcs m A c) 79))) hlen)
  clear hs hm
  go_enter Try.func45, Try.ntmps45
  go_wp2_with (refine wpList_load_row (by rfl) 79 (.tmp 1) (by rfl) w.heap.size (by rfl) 79 (mcs m A c) (0, 0) _ X0.out hu rfl hi79 ?_)
  refine HMY.out.mono ?_
  rintro e w1 ⟨rfl, hk1⟩
  have H1 := Lib.hid (H0.out.kept (by repeat (first | exact none_stable | exact wrP_stable _ _ | exact blkP_stable _ _ _ | exact rowP_stable _ _ _ _ _ | apply Stable.star)) hk1)
  clear hk1
  cases hmm : mayM m with
  | false =>
    have E := Lib.hid (msgOk_f hmm)
    clear hmm
    go_wp2_with fail
    go_ret2
    exact ⟨by rw [E.out.1, E.out.2]; rfl, hb _ H1.out.below⟩
  | true =>
    have MM := Lib.hid (show (spansL m).all Sp.ok = true ∧ (repliesL m.p).all Sp.ok = true ∧ m.x.size ≤ 524288 ∧ m.es.all entB = true ∧ mayB m.c = true by
      unfold mayM at hmm
      simp only [Bool.and_eq_true, decide_eq_true_eq] at hmm
      exact ⟨hmm.1, hmm.2.1, hmm.2.2.1, hmm.2.2.2.1, hmm.2.2.2.2⟩)
    have EK := Lib.hid (show msgOk m = decide ((msgL m).length ≤ 524288) by unfold msgOk; rw [hmm]; rfl)
    have hsl4 := span_len MM.out.1
    have hxs := MM.out.2.2.1
    clear hmm
    have hz : ∀ n, I64 n → (intS n).size ≤ 10 := fun n h => u64L_len10 _ (zig_lt h.1 h.2)
    have I9 := Lib.hid (show I64 m.k ∧ I64 m.f ∧ I64 m.t ∧ I64 m.b ∧ I64 m.s ∧ I64 m.r ∧ I64 m.z ∧ I64 m.e ∧ I64 (m.es.length : Int) from ⟨HM.out.sp ⟨m.k, 1, 15⟩ (by simp [spansL]), HM.out.sp ⟨m.f, 0, 12⟩ (by simp [spansL]), HM.out.sp ⟨m.t, 0, 12⟩ (by simp [spansL]), HM.out.sp ⟨m.b, 0, 1099511627776⟩ (by simp [spansL]), HM.out.sp ⟨m.s, -1, 1099511627776⟩ (by simp [spansL]), HM.out.sp ⟨m.r, 0, 1099511627776⟩ (by simp [spansL]), HM.out.sp ⟨m.z, 0, 1073741824⟩ (by simp [spansL]), HM.out.sp ⟨m.e, 0, 255⟩ (by simp [spansL]), HM.out.sp ⟨(m.es.length : Int), 0, 4096⟩ (by simp [spansL])⟩)
    have z0 := hz _ I9.out.1
    have z1 := hz _ I9.out.2.1
    have z2 := hz _ I9.out.2.2.1
    have z3 := hz _ I9.out.2.2.2.1
    have z4 := hz _ I9.out.2.2.2.2.1
    have z5 := hz _ I9.out.2.2.2.2.2.1
    have z6 := hz _ I9.out.2.2.2.2.2.2.1
    have z7 := hz _ I9.out.2.2.2.2.2.2.2.1
    have z8 := hz _ I9.out.2.2.2.2.2.2.2.2
    have p1 := fun w => cat w (intS m.k) (intS m.f) (by (try simp only [ByteArray.size_append]); omega)
    have p2 := fun w => cat w (intS m.k ++ intS m.f) (intS m.t) (by (try simp only [ByteArray.size_append]); omega)
    have p3 := fun w => cat w (intS m.k ++ intS m.f ++ intS m.t) (intS m.b) (by (try simp only [ByteArray.size_append]); omega)
    have p4 := fun w => cat w (intS m.k ++ intS m.f ++ intS m.t ++ intS m.b) (intS m.s) (by (try simp only [ByteArray.size_append]); omega)
    have p5 := fun w => cat w (intS m.k ++ intS m.f ++ intS m.t ++ intS m.b ++ intS m.s) (intS m.r) (by (try simp only [ByteArray.size_append]); omega)
    have p6 := fun w => cat w (intS m.k ++ intS m.f ++ intS m.t ++ intS m.b ++ intS m.s ++ intS m.r) (intS m.z) (by (try simp only [ByteArray.size_append]); omega)
    have p7 := fun w => cat w (intS m.k ++ intS m.f ++ intS m.t ++ intS m.b ++ intS m.s ++ intS m.r ++ intS m.z) (intS m.e) (by (try simp only [ByteArray.size_append]); omega)
    have p8 := fun w => cat w (intS m.k ++ intS m.f ++ intS m.t ++ intS m.b ++ intS m.s ++ intS m.r ++ intS m.z ++ intS m.e) (intS (m.es.length : Int)) (by (try simp only [ByteArray.size_append]); omega)
    clear z0 z1 z2 z3 z4 z5 z6 z7 z8 hz
    obtain ⟨b0, hb0⟩ : ∃ b0, w.heap.size = b0 := ⟨_, rfl⟩
    have HH := Lib.hid (kept_all H1.out (by repeat (first | exact none_stable | exact wrP_stable _ _ | exact blkP_stable _ _ _ | exact rowP_stable _ _ _ _ _ | apply Stable.star)))
    have KD := Lib.hid (keepN H1.out)
    have KS := Lib.hid (keep0 H1.out)
    have SX := Lib.hid (show ∀ X, Holds w.heap.size w X (star (blkP w.heap.size 79 (mcs m A c)) none_) → (fun w' : World => w'.cell? ⟨b0, 0, none⟩ = some (.int .i64 m.k) ∧ w'.cell? ⟨b0, 1, none⟩ = some (.int .i64 m.f) ∧ w'.cell? ⟨b0, 2, none⟩ = some (.int .i64 m.t) ∧ w'.cell? ⟨b0, 3, none⟩ = some (.int .i64 m.b) ∧ w'.cell? ⟨b0, 4, none⟩ = some (.int .i64 m.s) ∧ w'.cell? ⟨b0, 5, none⟩ = some (.int .i64 m.r) ∧ w'.cell? ⟨b0, 6, none⟩ = some (.int .i64 m.z) ∧ w'.cell? ⟨b0, 7, none⟩ = some (.int .i64 m.e) ∧ w'.cell? ⟨b0, 8, none⟩ = some (.slice A m.es.length c)) X from fun X h => by
      have B := blk_atM h
      rw [hb0] at B
      exact ⟨B.cell 0, B.cell 1, B.cell 2, B.cell 3, B.cell 4, B.cell 5, B.cell 6, B.cell 7, B.cell 8⟩)
    rw [hb0]
    have T := KS.out
    have cc := SX.out _ (HH.out _ T)
    go_wp2_with fail
    go_region_held3 (fun w' : World => w'.cell? ⟨b0, 0, none⟩ = some (.int .i64 m.k) ∧ w'.cell? ⟨b0, 1, none⟩ = some (.int .i64 m.f) ∧ w'.cell? ⟨b0, 2, none⟩ = some (.int .i64 m.t) ∧ w'.cell? ⟨b0, 3, none⟩ = some (.int .i64 m.b) ∧ w'.cell? ⟨b0, 4, none⟩ = some (.int .i64 m.s) ∧ w'.cell? ⟨b0, 5, none⟩ = some (.int .i64 m.r) ∧ w'.cell? ⟨b0, 6, none⟩ = some (.int .i64 m.z) ∧ w'.cell? ⟨b0, 7, none⟩ = some (.int .i64 m.e) ∧ w'.cell? ⟨b0, 8, none⟩ = some (.slice A m.es.length c)) (first | exact cc | exact SX.out _ (HH.out _ (KD.out _)) | go_keep) ((first | (go_at_call 51; refine (rint_calls _ _ (by first | exact I9.out.1 | exact I9.out.2.1 | exact I9.out.2.2.1 | exact I9.out.2.2.2.1 | exact I9.out.2.2.2.2.1 | exact I9.out.2.2.2.2.2.1 | exact I9.out.2.2.2.2.2.2.1 | exact I9.out.2.2.2.2.2.2.2.1 | exact I9.out.2.2.2.2.2.2.2.2)).mono ?_; rintro e w5 ⟨rfl, hk5⟩; replace T := (by first | exact (KD.out _).then hk5 | exact T.then hk5 : Keep Nothing w1 w5); replace cc := SX.out _ (HH.out _ T); clear hk5)))
    have H5 := Lib.hid (HH.out _ T)
    rw [head_sum m]
    have cc8 := cc.2.2.2.2.2.2.2.2
    clear p1 p2 p3 p4 p5 p6 p7 p8 cc
    rw [show ofL (hdL (spansL m)) = ofL (hdL (spansL m) ++ entsL (m.es.take 0)) by rw [List.take_zero, show entsL [] = [] from rfl, List.append_nil]]
    go_wp2_with fail
    have C8 := Lib.hid cc8
    have TH := Lib.hid T
    have HDL := hdL_len HM.out.sp 9
    rw [show (spansL m).take 9 = spansL m from rfl] at HDL
    clear cc8 T
    go_loopw [4, 5] (fun v4 v wr => ∃ k : Nat, k ≤ m.es.length ∧ v = .int .i64 k ∧ v4 = .string (ofL (hdL (spansL m) ++ entsL (m.es.take k))) ∧ Hid (Keep Nothing w5 wr)) (fun _ v _ => m.es.length - (intOf v).toNat)
    case atStart => exact ⟨0, by omega, by simp, rfl, Lib.hid (Keep.same _ _)⟩
    case round =>
      obtain ⟨k, hk, rfl, rfl, hkp⟩ := hrel
      have cc8 := hkp.out.cell C8.out (fun h => h)
      have HEL := entsL_len HM.out.es k
      by_cases hlt : k < m.es.length
      · obtain ⟨ad, x, rfl, hx1, hat⟩ := ent_at HS.out hlt
        obtain ⟨c0, c1, c2, c3, c4, c5, c6⟩ := hat.keep (hb _ (HH.out _ (TH.out.then hkp.out)).below) (fun h => h)
        have X64 := Lib.hid (HM.out.es x (List.mem_of_getElem? hx1))
        have NX := Lib.hid (entsL_next hx1)
        have hbx : entB x = true := List.all_eq_true.1 MM.out.2.2.2.1 x (List.mem_of_getElem? hx1)
        have HE := Lib.hid (show ∀ w, Calls Try.prog 36 #[.agg (ecs x)] w (fun e w' => e = .returned (.tuple #[.string (entS x), .int .i64 0]) ∧ Keep Nothing w w') from fun w => by
          have h := reenc_calls w x X64.out
          rw [hbx, show okE true = 0 from rfl] at h
          exact h)
        have hsz := entS_size X64.out
        have hsz2 : (textS (entS x)).size ≤ 250 := by
          have := u64S_size (entS x).size (by omega)
          unfold textS; rw [ByteArray.size_append]; omega
        have HT := Lib.hid (fun w => rtext_calls w (entS x) (by omega))
        have pc := fun w => cat w (ofL (hdL (spansL m) ++ entsL (m.es.take k))) (textS (entS x)) (by rw [ofL_size, List.length_append]; omega)
        have EL := Lib.hid (show ofL (hdL (spansL m) ++ entsL (m.es.take k)) ++ textS (entS x) = ofL (hdL (spansL m) ++ entsL (m.es.take (k + 1))) by
          rw [textS_ofL, ← ofL_app, NX.out, List.append_assoc]; rfl)
        clear hx1 hat hbx
        go_wp2_with fail
        refine (HE.out _).mono ?_
        rintro e w6 ⟨rfl, hk6⟩
        have K6 := Lib.hid (hkp.out.then hk6)
        clear hk6
        go_wp2_with fail
        refine (HT.out _).mono ?_
        rintro e w7 ⟨rfl, hk7⟩
        have K7 := Lib.hid (K6.out.then hk7)
        clear hk7
        go_wp2_with fail
        go_roundw
        case rel =>
          refine ⟨_, _, _, _, _, _, _, _, _, _, _, _, _, _, _, _, _, _, _, _, _, _, _, _, ?_, rfl⟩
          exact ⟨k + 1, by omega, by go_num, by rw [EL.out], K7⟩
        case measure => simp [intOf]; omega
      · have hke : k = m.es.length := by omega
        have KW := Lib.hid (TH.out.then hkp.out)
        have B9 := blk_atM (HH.out _ KW.out)
        rw [hb0] at B9
        have y9 := B9.cell 9
        have y10 := B9.cell 10
        have y11 := B9.cell 11
        have y12 := B9.cell 12
        have y13 := B9.cell 13
        have HE := Lib.hid (show ∀ w, Calls Try.prog 34 #[.agg #[.int .i64 m.c.k, .int .i64 m.c.s, .int .i64 m.c.q, .string m.c.nm, .int .i64 m.c.n]] w (fun e w' => e = .returned (.tuple #[.string (encS m.c), .int .i64 0]) ∧ Keep Nothing w w') from fun w => by
          have h := renc_calls w m.c HM.out.c
          rw [MM.out.2.2.2.2, show okE true = 0 from rfl] at h
          exact h)
        have hcs := encS_size HM.out.c
        have hts : (textS (encS m.c)).size ≤ 210 := by
          have := u64S_size (encS m.c).size (by omega)
          unfold textS; rw [ByteArray.size_append]; omega
        have HT := Lib.hid (fun w => rtext_calls w (encS m.c) (by omega))
        rw [hke, List.take_length] at HEL
        have pc := fun w => cat w (ofL (hdL (spansL m) ++ entsL m.es)) (textS (encS m.c)) (by rw [ofL_size, List.length_append]; omega)
        subst hke
        rw [List.take_length]
        clear B9
        go_wp2_with fail
        refine (HE.out _).mono ?_
        rintro e w6 ⟨rfl, hk6⟩
        have K6 := Lib.hid (KW.out.then hk6)
        clear hk6 y9 y10 y11 y12 y13 cc8
        go_wp2_with fail
        refine (HT.out _).mono ?_
        rintro e w8 ⟨rfl, hk8⟩
        have K8 := Lib.hid (K6.out.then hk8)
        clear hk8
        have B8 := blk_atM (HH.out _ K8.out)
        rw [hb0] at B8
        have y14 := B8.cell 14
        have y15 := B8.cell 15
        have y16 := B8.cell 16
        have y17 := B8.cell 17
        have y18 := B8.cell 18
        have HZ := Lib.hid (Holds.newBlk (HH.out _ K8.out) (by repeat (first | exact none_stable | exact wrP_stable _ _ | exact blkP_stable _ _ _ | exact rowP_stable _ _ _ _ _ | apply Stable.star)) 77 (rcs m.p))
        have HHZ := Lib.hid (kept_all HZ.out (by repeat (first | exact none_stable | exact wrP_stable _ _ | exact blkP_stable _ _ _ | exact rowP_stable _ _ _ _ _ | apply Stable.star)))
        have KDZ := Lib.hid (keepN HZ.out)
        have SZ := Lib.hid (show ∀ X, Holds w.heap.size w X (star (blkP w8.heap.size 77 (rcs m.p)) (star (blkP w.heap.size 79 (mcs m A c)) none_)) → (fun w' : World => w'.cell? ⟨w8.heap.size, 0, none⟩ = some (.int .i64 m.p.s) ∧ w'.cell? ⟨w8.heap.size, 1, none⟩ = some (.int .i64 m.p.q) ∧ w'.cell? ⟨w8.heap.size, 2, none⟩ = some (.int .i64 m.p.e) ∧ w'.cell? ⟨w8.heap.size, 3, none⟩ = some (.int .u64 m.p.k) ∧ w'.cell? ⟨w8.heap.size, 4, none⟩ = some (.int .i64 m.p.n) ∧ w'.cell? ⟨b0, 19, none⟩ = some (.string m.x)) X from fun X h => by
          have B := blk_atM h
          have B' := blk_atM (h.perm (show _ = star (blkP w.heap.size 79 (mcs m A c)) (star (blkP w8.heap.size 77 (rcs m.p)) none_) by ac_rfl))
          rw [hb0] at B'
          exact ⟨B.cell 0, B.cell 1, B.cell 2, B.cell 3, B.cell 4, B'.cell 19⟩)
        have R64 := Lib.hid (show I64 m.p.s ∧ I64 m.p.q ∧ I64 m.p.e ∧ I64 m.p.n from ⟨HM.out.rp ⟨m.p.s, 0, 1073741824⟩ (by simp [repliesL]), HM.out.rp ⟨m.p.q, 0, 1073741824⟩ (by simp [repliesL]), HM.out.rp ⟨m.p.e, 0, 255⟩ (by simp [repliesL]), HM.out.rp ⟨m.p.n, 0, 1073741824⟩ (by simp [repliesL])⟩)
        have hz : ∀ n, I64 n → (intS n).size ≤ 10 := fun n h => u64L_len10 _ (zig_lt h.1 h.2)
        have z1 := hz _ R64.out.1
        have z2 := hz _ R64.out.2.1
        have z3 := hz _ R64.out.2.2.1
        have z4 : (u64S m.p.k).size ≤ 10 := u64S_size _ HM.out.k
        have z5 := hz _ R64.out.2.2.2
        have z6 : (textS m.x).size ≤ 524298 := by
          have := u64S_size m.x.size (by omega)
          unfold textS; rw [ByteArray.size_append]; omega
        have p1 := fun w => cat w (intS m.p.s) (intS m.p.q) (by (try simp only [ByteArray.size_append]); omega)
        have p2 := fun w => cat w (intS m.p.s ++ intS m.p.q) (intS m.p.e) (by (try simp only [ByteArray.size_append]); omega)
        have p3 := fun w => cat w (intS m.p.s ++ intS m.p.q ++ intS m.p.e) (u64S m.p.k) (by (try simp only [ByteArray.size_append]); omega)
        have p4 := fun w => cat w (intS m.p.s ++ intS m.p.q ++ intS m.p.e ++ u64S m.p.k) (intS m.p.n) (by (try simp only [ByteArray.size_append]); omega)
        have p5 := fun w => cat w (intS m.p.s ++ intS m.p.q ++ intS m.p.e ++ u64S m.p.k ++ intS m.p.n) (textS m.x) (by (try simp only [ByteArray.size_append]); omega)
        have p6 := fun w => cat w (ofL (hdL (spansL m) ++ entsL m.es) ++ textS (encS m.c)) (intS m.p.s ++ intS m.p.q ++ intS m.p.e ++ u64S m.p.k ++ intS m.p.n ++ textS m.x) (by simp only [ByteArray.size_append, ofL_size, List.length_append]; omega)
        have FULL := Lib.hid (show ofL (hdL (spansL m) ++ entsL m.es) ++ textS (encS m.c) ++ (intS m.p.s ++ intS m.p.q ++ intS m.p.e ++ u64S m.p.k ++ intS m.p.n ++ textS m.x) = ofL (msgL m) by
          rw [ByteArray.append_assoc, tail_sum, ← ofL_app, List.append_assoc]; rfl)
        have HK := Lib.hid (fun w => ru64_calls w m.p.k HM.out.k)
        have HX := Lib.hid (fun w => rtext_calls w m.x (by omega))
        have T := keep0 HZ.out
        have cc := SZ.out _ (HHZ.out _ T)
        clear B8 hz z1 z2 z3 z4 z5 z6 hts hcs HEL HDL
        go_wp2_with fail
        go_region_held3 (fun w' : World => w'.cell? ⟨w8.heap.size, 0, none⟩ = some (.int .i64 m.p.s) ∧ w'.cell? ⟨w8.heap.size, 1, none⟩ = some (.int .i64 m.p.q) ∧ w'.cell? ⟨w8.heap.size, 2, none⟩ = some (.int .i64 m.p.e) ∧ w'.cell? ⟨w8.heap.size, 3, none⟩ = some (.int .u64 m.p.k) ∧ w'.cell? ⟨w8.heap.size, 4, none⟩ = some (.int .i64 m.p.n) ∧ w'.cell? ⟨b0, 19, none⟩ = some (.string m.x)) (first | exact cc | exact SZ.out _ (HHZ.out _ (KDZ.out _)) | go_keep) ((first | (go_at_call 51; refine (rint_calls _ _ (by first | exact R64.out.1 | exact R64.out.2.1 | exact R64.out.2.2.1 | exact R64.out.2.2.2)).mono ?_; rintro e w9 ⟨rfl, hk9⟩; replace T := (by first | exact (KDZ.out _).then hk9 | exact T.then hk9 : Keep Nothing (w8.alloc (.cells (rcs m.p) 77)) w9); replace cc := SZ.out _ (HHZ.out _ T); clear hk9) | (go_at_call 52; refine (HK.out _).mono ?_; rintro e w9 ⟨rfl, hk9⟩; replace T := T.then hk9; replace cc := SZ.out _ (HHZ.out _ T); clear hk9) | (go_at_call 53; refine (HX.out _).mono ?_; rintro e w9 ⟨rfl, hk9⟩; replace T := T.then hk9; replace cc := SZ.out _ (HHZ.out _ T); clear hk9)))
        have HF := Lib.hid (HHZ.out _ T)
        rw [FULL.out]
        clear p1 p2 p3 p4 p5 p6 pc cc T y14 y15 y16 y17 y18
        by_cases hzz : (msgL m).length ≤ 524288
        · have E := Lib.hid (show msgOk m = true by rw [EK.out]; exact decide_eq_true hzz)
          have hz2 : (ofL (msgL m)).size ≤ 524288 := hzz
          have hz3 : decide (524288 < ((ofL (msgL m)).size : Int)) = false := decide_eq_false (by omega)
          clear hzz
          go_wp2_with fail
          go_ret2
          exact ⟨by unfold msgS; rw [E.out]; rfl, hb _ HF.out.below⟩
        · have E := Lib.hid (show msgOk m = false by rw [EK.out]; exact decide_eq_false hzz)
          have hz2 : ¬ (ofL (msgL m)).size ≤ 524288 := hzz
          have hz3 : decide (524288 < ((ofL (msgL m)).size : Int)) = true := decide_eq_true (by omega)
          clear hzz
          go_wp2_with fail
          go_ret2
          exact ⟨by unfold msgS; rw [E.out]; rfl, hb _ HF.out.below⟩
end Go.Proofs.Ytjojibgihoebaaa.A
