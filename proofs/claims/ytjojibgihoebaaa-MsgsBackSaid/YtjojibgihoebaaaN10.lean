/-
  Messages: what a text is read as, in plain Lean; the reference's reader beside other things.
-/
import Derived.Test.YtjojibgihoebaaaN9
namespace Go.Proofs.Ytjojibgihoebaaa.A
open Go.RowKit Go.Proofs.Ytjojibgihoebaaa.U
set_option linter.unusedVariables false
set_option linter.unusedSimpArgs false
set_option maxRecDepth 100000

def mx (s : ByteArray) : Nat → Rd
  | 0 => ⟨s, false⟩
  | i + 1 => uN (mx s i)
def ex (x : Rd) : Nat → Rd
  | 0 => x
  | i + 1 => tN (ex x i)
def mn (s : ByteArray) : Int := iV (mx s 8)
def esOk (x : Rd) (n : Nat) : Bool := (List.range n).all fun i => eOk (tV (ex x i))
def esOf (x : Rd) (n : Nat) : List Ent := (List.range n).map fun i => eR (tV (ex x i))
def my0 (s : ByteArray) : Rd := ex (mx s 9) (mn s).toNat
def my1 (s : ByteArray) : Rd := tN (my0 s)
def my2 (s : ByteArray) : Rd := uN (my1 s)
def my3 (s : ByteArray) : Rd := uN (my2 s)
def my4 (s : ByteArray) : Rd := uN (my3 s)
def my5 (s : ByteArray) : Rd := uN (my4 s)
def my6 (s : ByteArray) : Rd := uN (my5 s)
def my7 (s : ByteArray) : Rd := tN (my6 s)
def mP (s : ByteArray) : Rep := ⟨iV (my1 s), iV (my2 s), iV (my3 s), uV (my4 s), iV (my5 s)⟩
def mDec (s : ByteArray) : Msg := ⟨iV (mx s 0), iV (mx s 1), iV (mx s 2), iV (mx s 3), iV (mx s 4), iV (mx s 5), iV (mx s 6), iV (mx s 7), esOf (mx s 9) (mn s).toNat, decR (tV (my0 s)), mP s, tV (my6 s)⟩
def nOk (s : ByteArray) : Bool := decide (0 ≤ mn s) && decide (mn s ≤ 4096)
def mOk (s : ByteArray) : Bool := decide (s.size ≤ 524288) && (nOk s && (esOk (mx s 9) (mn s).toNat && (decOk (tV (my0 s)) && (decide (dV (my7 s) = 0) && ((spansL (mDec s)).all Sp.ok && (repliesL (mP s)).all Sp.ok)))))
def zeroM : Msg := ⟨0, 0, 0, 0, 0, 0, 0, 0, [], zeroC, ⟨0, 0, 0, 0, 0⟩, ByteArray.empty⟩
def mR (s : ByteArray) : Msg := if mOk s then mDec s else zeroM
theorem mR_ok {s : ByteArray} (h : mOk s = true) : mR s = mDec s := by unfold mR; rw [if_pos h]
theorem mR_no {s : ByteArray} (h : mOk s = false) : mR s = zeroM := by unfold mR; rw [h]; rfl
theorem mx_size (s : ByteArray) : ∀ i, (mx s i).s.size ≤ s.size
  | 0 => Nat.le_refl _
  | i + 1 => Nat.le_trans (uN_size _) (mx_size s i)
theorem ex_size (x : Rd) : ∀ i, (ex x i).s.size ≤ x.s.size
  | 0 => Nat.le_refl _
  | i + 1 => Nat.le_trans (tN_size _) (ex_size x i)
theorem my0_size (s : ByteArray) : (my0 s).s.size ≤ s.size := Nat.le_trans (ex_size _ _) (mx_size s 9)
theorem my6_size (s : ByteArray) : (my6 s).s.size ≤ s.size :=
  Nat.le_trans (uN_size _) (Nat.le_trans (uN_size _) (Nat.le_trans (uN_size _) (Nat.le_trans (uN_size _) (Nat.le_trans (uN_size _) (Nat.le_trans (tN_size _) (my0_size s))))))
theorem esOk_next (x : Rd) (k : Nat) : esOk x (k + 1) = (esOk x k && eOk (tV (ex x k))) := by
  unfold esOk
  rw [List.range_succ, List.all_append]
  simp
theorem esOf_next (x : Rd) (k : Nat) : esOf x (k + 1) = esOf x k ++ [eR (tV (ex x k))] := by
  unfold esOf
  rw [List.range_succ, List.map_append]
  rfl
theorem esOf_len (x : Rd) (k : Nat) : (esOf x k).length = k := by unfold esOf; simp
theorem esOk_before {x : Rd} {k : Nat} (h : eOk (tV (ex x k)) = false) : ∀ n, k < n → esOk x n = false
  | 0, hk => absurd hk (by omega)
  | n + 1, hk => by
    rw [esOk_next]
    by_cases e : k = n
    · subst e; rw [h, Bool.and_false]
    · rw [esOk_before h n (by omega)]; rfl
section
variable {B : Nat} {w0 w : World} {Q : SP} {b : Nat} {x : Rd}
theorem x_rrdu (h : Holds B w0 w (star (blkP b 44 x.cs) Q)) (hQ : Stable Q) :
    Calls Try.prog 28 #[.pointer (some ⟨b, 0, none⟩)] w (fun e w' => e = .returned (.int .u64 (uV x)) ∧ Holds B w0 w' (star (blkP b 44 (uN x).cs) Q)) :=
  h.on_left hQ fun F hF => turns_step hF.2 (rrdu_calls w b x hF.1)
theorem x_rrdi (h : Holds B w0 w (star (blkP b 44 x.cs) Q)) (hQ : Stable Q) :
    Calls Try.prog 26 #[.pointer (some ⟨b, 0, none⟩)] w (fun e w' => e = .returned (.int .i64 (iV x)) ∧ Holds B w0 w' (star (blkP b 44 (uN x).cs) Q)) :=
  h.on_left hQ fun F hF => turns_step hF.2 (rrdi_calls w b x hF.1)
theorem x_rrdt (h : Holds B w0 w (star (blkP b 44 x.cs) Q)) (hQ : Stable Q) (hs : x.s.size ≤ 9223372036854775807) :
    Calls Try.prog 30 #[.pointer (some ⟨b, 0, none⟩)] w (fun e w' => e = .returned (.string (tV x)) ∧ Holds B w0 w' (star (blkP b 44 (tN x).cs) Q)) :=
  h.on_left hQ fun F hF => turns_step hF.2 (rrdt_calls w b x hF.1 hs)
theorem x_rrdd (h : Holds B w0 w (star (blkP b 44 x.cs) Q)) :
    Calls Try.prog 32 #[.pointer (some ⟨b, 0, none⟩)] w (fun e w' => e = .returned (.int .i64 (dV x)) ∧ w' = w) := by
  obtain ⟨F, hF⟩ := h.left
  exact rrdd_calls w b x hF.1
end
abbrev zm : Array Value := #[.int .i64 0, .int .i64 0, .int .i64 0, .int .i64 0, .int .i64 0, .int .i64 0, .int .i64 0, .int .i64 0, .slice none 0 0, .int .i64 0, .int .i64 0, .int .i64 0, .string ⟨#[]⟩, .int .i64 0, .int .i64 0, .int .i64 0, .int .i64 0, .int .u64 0, .int .i64 0, .string ⟨#[]⟩]
theorem zm_one : zm.all (·.oneCell') = true := by simp [Value.oneCell']
theorem zm_eq : zm = mcs zeroM none 0 := rfl
/-- A message that is the result of a call, with a number beside it. -/
theorem two_results {fn : Func} {p q : Tmp} {tmps : Array Value} {w : World} {g : Nat} {cs : Array Value} {v : Value} (h : fn.results = #[.cell p 79, .tmp q]) (hp : tmps.getD p undef = .pointer (some ⟨g, 0, none⟩)) (hq : tmps.getD q undef = v) (hg : Blk w g 79 cs) (hi : (Try.prog.info? 79).map (·.size) = some cs.size) :
    (results fn tmps).run Try.prog w = .ok (.tuple #[.agg cs, v]) w := by
  have hl := run_loadVar_row (P := Try.prog) w g 79 79 cs (0, 0) _ hg Try.underlying79 rfl hi
  have hp' : tmps[p]?.getD undef = .pointer (some ⟨g, 0, none⟩) := by simpa using hp
  have hq' : tmps[q]?.getD undef = v := by simpa using hq
  simp [results, h, hp', hq', asAddr, hl]
set_option maxHeartbeats 3200000 in
theorem no64 (w : World) : Calls Try.prog 64 #[] w (fun e w' => e = .returned (.tuple #[.agg zm, .int .i64 2]) ∧ Keep Nothing w w') := by
  have hu := Try.underlying79
  have hi79 : (Try.prog.info? 79).map (·.size) = some 20 := by kernel_rfl
  have Z := Lib.hid (Blk.fresh w 79 zm)
  go_enter Try.func64, Try.ntmps64
  go_wp2_with (refine wpList_store_row (by rfl) 79 (.tmp 0) (.tmp 2) (by rfl) w.heap.size zm (by rfl) (by rfl) 79 zm Z.out hi79 rfl zm_one ?_)
  refine bodyPost_ret (v := .tuple #[.agg zm, .int .i64 2]) (two_results (p := 0) (q := 1) (by rfl) (by rfl) (by rfl) (Z.out.setRow zm) hi79) rfl ?_
  exact ⟨rfl, ((Keep.same Nothing w).alloc _).setRow (.inr (Nat.le_refl _)) zm⟩
end Go.Proofs.Ytjojibgihoebaaa.A
