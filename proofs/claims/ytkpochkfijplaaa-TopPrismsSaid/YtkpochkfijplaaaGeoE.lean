/-
  The reference's Check of contours, and its Area2.
-/
import Derived.Test.YtkpochkfijplaaaGeoD
namespace Go.Proofs.Ytkpochkfijplaaa
set_option linter.all false
open Go Go.RowKit Wd
set_option maxRecDepth 100000
/-- What Check returns. -/
@[irreducible] def chkR (X Y : Nat → Int) (n : Nat) : Int := if n < 3 then 3 else if 32 < n then 4 else if nears X Y n = false then 9 else if simR X Y n = false then 17 else 0
theorem chkR_ok {X Y : Nat → Int} {n : Nat} (h : chkR X Y n = 0) : 3 ≤ n ∧ n ≤ 32 ∧ (∀ i, i < n → Sm (X i) ∧ Sm (Y i)) ∧ simR X Y n = true := by
  unfold chkR at h
  by_cases h1 : n < 3
  · rw [if_pos h1] at h; omega
  rw [if_neg h1] at h
  by_cases h2 : 32 < n
  · rw [if_pos h2] at h; omega
  rw [if_neg h2] at h
  by_cases h3 : nears X Y n = false
  · rw [if_pos h3] at h; omega
  rw [if_neg h3] at h
  by_cases h4 : simR X Y n = false
  · rw [if_pos h4] at h; omega
  have h3' : nears X Y n = true := by simpa using h3
  have h4' : simR X Y n = true := by simpa using h4
  refine ⟨by omega, by omega, fun i hi => ?_, h4'⟩
  unfold nears at h3'
  exact nrB_iff.1 (allN_iff.1 h3' i hi)
theorem nears_sm {X Y : Nat → Int} {n : Nat} (h : nears X Y n = true) (i : Nat) (hi : i < n) : Sm (X i) ∧ Sm (Y i) := by
  unfold nears at h
  exact nrB_iff.1 (allN_iff.1 h i hi)
set_option maxHeartbeats 2000000 in
theorem chkR_any (a : Option Addr) (n c : Nat) (X Y : Nat → Int) (hm : n ≤ maxLen) (w : World) (hp : 3 ≤ n → ∃ b o, a = some ⟨b, o, none⟩ ∧ Pts w b o n X Y) :
    Calls Try.prog 4 #[.slice a n c] w fun e w' => e = .returned (.int .i64 (chkR X Y n)) ∧ Below w.heap.size w w' := by
  have hm' : n ≤ 9223372036854775807 := by unfold maxLen at hm; omega
  clear hm
  by_cases h1 : n < 3
  · have E := Lib.hid (show chkR X Y n = 3 by unfold chkR; rw [if_pos h1])
    clear hp
    go_enter Try.func4, Try.ntmps4
    go_wp2
    go_returns
    exact ⟨ret_int E.out.symm, by (repeat' (first | (with_reducible exact Below.refl _ _) | (with_reducible assumption) | (with_reducible refine below_alloc ?_ _) | (with_reducible refine Below.drew ?_) | (with_reducible refine Below.setCell ?_ ?_ _) | (with_reducible refine below_after ?_ (by assumption)) | go_size))⟩
  obtain ⟨b, o, rfl, hpt⟩ := hp (by omega)
  by_cases h2 : 32 < n
  · have E := Lib.hid (show chkR X Y n = 4 by unfold chkR; rw [if_neg h1, if_pos h2])
    clear hp hpt
    go_enter Try.func4, Try.ntmps4
    go_wp2
    go_returns
    exact ⟨ret_int E.out.symm, by (repeat' (first | (with_reducible exact Below.refl _ _) | (with_reducible assumption) | (with_reducible refine below_alloc ?_ _) | (with_reducible refine Below.drew ?_) | (with_reducible refine Below.setCell ?_ ?_ _) | (with_reducible refine below_after ?_ (by assumption)) | go_size))⟩
  have K1 := Lib.hid (fun W (h : Pts W b o n X Y) => near_any b o n c X Y (by omega) W h)
  have HP := Lib.hid hpt
  have KS := Lib.hid (fun (hS : nears X Y n = true) W (h : Pts W b o n X Y) => simpleR_any b o n c X Y (by omega) (by omega) (nears_sm hS) W h)
  have E := Lib.hid (show chkR X Y n = if nears X Y n = false then 9 else if simR X Y n = false then 17 else 0 by unfold chkR; rw [if_neg h1, if_neg h2])
  clear hp hpt
  generalize chkR X Y n = r at *
  cases hn : nears X Y n with
  | false =>
    rw [hn] at K1 E
    obtain rfl : r = 9 := E.out
    clear KS hn E
    go_enter Try.func4, Try.ntmps4
    go_wp2_with fail
    ((with_reducible refine (K1.out _ HP.out).mono ?_); rintro e w1 ⟨rfl, hb1⟩)
    obtain ⟨hc1, hf1⟩ := bcell hb1
    go_wp2
    go_returns
    exact ⟨rfl, by (repeat' (first | (with_reducible exact Below.refl _ _) | (with_reducible assumption) | (with_reducible refine below_alloc ?_ _) | (with_reducible refine Below.drew ?_) | (with_reducible refine Below.setCell ?_ ?_ _) | (with_reducible refine below_after ?_ (by assumption)) | go_size))⟩
  | true =>
    have K2 := Lib.hid (KS.out hn)
    rw [hn] at K1 E
    clear hn KS
    generalize simR X Y n = s at *
    go_enter Try.func4, Try.ntmps4
    go_wp2_with fail
    ((with_reducible refine (K1.out _ HP.out).mono ?_); rintro e w1 ⟨rfl, hb1⟩)
    obtain ⟨hc1, hf1⟩ := bcell hb1
    go_wp2_with fail
    ((with_reducible refine (K2.out _ (HP.out.later hb1)).mono ?_); rintro e w2 ⟨rfl, hb2⟩)
    obtain ⟨hc2, hf2⟩ := bcell hb2
    cases s
    · obtain rfl : r = 17 := E.out
      go_wp2
      go_returns
      exact ⟨rfl, by (repeat' (first | (with_reducible exact Below.refl _ _) | (with_reducible assumption) | (with_reducible refine below_alloc ?_ _) | (with_reducible refine Below.drew ?_) | (with_reducible refine Below.setCell ?_ ?_ _) | (with_reducible refine below_after ?_ (by assumption)) | go_size))⟩
    · obtain rfl : r = 0 := E.out
      go_wp2
      go_returns
      exact ⟨rfl, by (repeat' (first | (with_reducible exact Below.refl _ _) | (with_reducible assumption) | (with_reducible refine below_alloc ?_ _) | (with_reducible refine Below.drew ?_) | (with_reducible refine Below.setCell ?_ ?_ _) | (with_reducible refine below_after ?_ (by assumption)) | go_size))⟩
/-- Twice the area, after i edges. -/
@[irreducible] def arC (X Y : Nat → Int) (n i : Nat) : Int := Sf.sr (fun m => X m * Y ((m + 1) % n) - Y m * X ((m + 1) % n)) i
theorem arC_zero (X Y : Nat → Int) (n : Nat) : arC X Y n 0 = 0 := by unfold arC; rfl
theorem arC_succ (X Y : Nat → Int) (n i : Nat) : arC X Y n (i + 1) = arC X Y n i + (X i * Y ((i + 1) % n) - Y i * X ((i + 1) % n)) := by unfold arC; rfl
theorem prod_sm {a b : Int} (ha : Sm a) (hb : Sm b) : -1073741824 ≤ a * b ∧ a * b ≤ 1073741824 := by
  unfold Sm at *
  exact abs_mul_le ha hb (by omega) (by omega)
theorem arC_abs {X Y : Nat → Int} {n : Nat} (hS : ∀ i, i < n → Sm (X i) ∧ Sm (Y i)) : ∀ i, i ≤ n → -(2147483648 * (i : Int)) ≤ arC X Y n i ∧ arC X Y n i ≤ 2147483648 * (i : Int)
  | 0, _ => by rw [arC_zero]; omega
  | i + 1, h => by
    have h1 := arC_abs hS i (by omega)
    have hm : (i + 1) % n < n := Nat.mod_lt _ (by omega)
    have p1 := prod_sm (hS i (by omega)).1 (hS _ hm).2
    have p2 := prod_sm (hS i (by omega)).2 (hS _ hm).1
    rw [arC_succ]
    omega
/-- What is known of a corner, and of the next one, ahead of a round. -/
theorem tmod_nat (i k n : Nat) : ((i : Int) + k).tmod (n : Int) = (((i + k) % n : Nat) : Int) := (Int.ofNat_tmod (i + k) n).symm
theorem emod_nat (i k n : Nat) : ((i : Int) + k) % (n : Int) = (((i + k) % n : Nat) : Int) := by rw [Int.natCast_emod]; rfl
set_option maxHeartbeats 4000000 in
theorem rarea_any (b o n c : Nat) (X Y : Nat → Int) (hc : chkR X Y n = 0) (w : World) (hp : Pts w b o n X Y) :
    Calls Try.prog 5 #[.slice (some ⟨b, o, none⟩) n c] w fun e w' => e = .returned (.int .i64 (arC X Y n n)) ∧ Below w.heap.size w w' := by
  obtain ⟨h3, h32, hS, -⟩ := chkR_ok hc
  have K1 := chkR_any (some ⟨b, o, none⟩) n c X Y (by unfold maxLen; omega) w (fun _ => ⟨b, o, rfl, hp⟩)
  rw [hc] at K1
  have K := Lib.hid K1
  have HP := Lib.hid hp
  have HS := Lib.hid hS
  have HA := Lib.hid (arC_abs hS)
  clear hc K1 hp hS
  go_enter Try.func5, Try.ntmps5
  go_wp2_with fail
  ((with_reducible refine (K.out).mono ?_); rintro e w1 ⟨rfl, hb1⟩)
  obtain ⟨hc1, hf1⟩ := bcell hb1
  have HB1 := Lib.hid hb1
  have A0 := Lib.hid (arC_zero X Y n)
  clear hc1 hf1 hb1
  go_wp2
  go_loopg [3, 4] n (fun gg s v wr => ∃ i : Nat, i ≤ n ∧ n - i ≤ gg ∧ v = .int .i64 (i : Int) ∧ s = .int .i64 (arC X Y n i) ∧ Hid (Below w.heap.size w wr))
  case atStart => exact ⟨0, by omega, by omega, rfl, by rw [A0.out], HB1⟩
  case round =>
    obtain ⟨i, hi, hgi, rfl, rfl, HI⟩ := hrel
    by_cases hlt : i < n
    · have hin : (i : Int) < (n : Int) := by omega
      have P := HP.out.later HI.out
      obtain ⟨j, hj⟩ : ∃ j, j = (i + 1) % n := ⟨_, rfl⟩
      have l1 : j < n := by rw [hj]; exact Nat.mod_lt _ (by omega)
      have q1 : ((i : Int) + 1).tmod (n : Int) = (j : Int) := by rw [hj]; exact tmod_nat i 1 n
      have q1' : ((i : Int) + 1) % (n : Int) = (j : Int) := by rw [hj]; exact emod_nat i 1 n
      have cx := P.x i hlt
      have cy := P.y i hlt
      have dx := P.x j l1
      have dy := P.y j l1
      have hz := P.lt
      have hz1 : b < wr.heap.size + 1 := by omega
      have hz2 : b < wr.heap.size + 1 + 1 := by omega
      have hi0 : n ≠ 0 := by omega
      have l1' : (j : Int) < (n : Int) := by omega
      have w1 : IntKind.i64.wrap ((i : Int) + 1) = (i : Int) + 1 := by rw [IntKind.wrap_i64]; omega
      have ES := Lib.hid (show arC X Y n (i + 1) = arC X Y n i + (X i * Y j - Y i * X j) by rw [hj]; exact arC_succ X Y n i)
      have s0 := HS.out i hlt
      have s1 := HS.out j l1
      have p1 := prod_sm s0.1 s1.2
      have p2 := prod_sm s0.2 s1.1
      have p3 := HA.out i hi
      have PB := Lib.hid (show (-1073741824 ≤ X i * Y j ∧ X i * Y j ≤ 1073741824) ∧ (-1073741824 ≤ Y i * X j ∧ Y i * X j ≤ 1073741824) ∧ (-68719476736 ≤ arC X Y n i ∧ arC X Y n i ≤ 68719476736) from ⟨p1, p2, by omega⟩)
      have hbw := HI.out
      clear hj P HI s0 s1 p1 p2 p3
      generalize arC X Y n i = s at *
      generalize X i = xi at *
      generalize Y i = yi at *
      generalize X j = xj at *
      generalize Y j = yj at *
      go_upto_region 7 with (fail)
      go_cut [5, 6] (fun v5 v6 wx => ∃ b5 b6, v5 = .pointer (some ⟨b5, 0, none⟩) ∧ v6 = .pointer (some ⟨b6, 0, none⟩) ∧ (∀ o, wx.cell? ⟨b5, o, none⟩ = (#[.int .i64 xi, .int .i64 yi] : Array Value)[o]?) ∧ (∀ o, wx.cell? ⟨b6, o, none⟩ = (#[.int .i64 xj, .int .i64 yj] : Array Value)[o]?) ∧ b5 < wx.heap.size ∧ b6 < wx.heap.size ∧ Below wr.heap.size wr wx)
      case first =>
        go_region
        all_goals
          go_wp2
          go_meet
          case rel => exact ⟨_, _, rfl, rfl, fun o => by simp [go_sem], fun o => by simp [go_sem], by simp; first | done | omega, by simp; first | done | omega, by (repeat' (first | (with_reducible exact Below.refl _ _) | (with_reducible assumption) | (with_reducible refine below_alloc ?_ _) | (with_reducible refine Below.drew ?_) | (with_reducible refine Below.setCell ?_ ?_ _) | (with_reducible refine below_after ?_ (by assumption)) | go_size))⟩
      case rest =>
        obtain ⟨b5, b6, rfl, rfl, k5, k6, z5, z6, hbx⟩ := hcut
        obtain ⟨⟨p1, p2⟩, ⟨p3, p4⟩, p5, p6⟩ := PB.out
        have HBX := Lib.hid (below_in hbw hbw.size hbx)
        clear PB cx cy dx dy hz hz1 hz2 q1 q1' w1 hbw hbx
        go_wp2
        go_roundg (n - (i + 1))
        case rel => exact ⟨i + 1, by omega, by omega, by go_num, by rw [ES.out]; congr 1; omega, HBX⟩
        case measure => omega
    · obtain rfl : i = n := by omega
      have hin : ¬ (i : Int) < (i : Int) := by omega
      have hb := HI.out
      clear HI
      go_wp2
      go_returns
      exact ⟨rfl, by (repeat' (first | (with_reducible exact Below.refl _ _) | (with_reducible assumption) | (with_reducible refine below_alloc ?_ _) | (with_reducible refine Below.drew ?_) | (with_reducible refine Below.setCell ?_ ?_ _) | (with_reducible refine below_after ?_ (by assumption)) | go_size))⟩
end Go.Proofs.Ytkpochkfijplaaa
