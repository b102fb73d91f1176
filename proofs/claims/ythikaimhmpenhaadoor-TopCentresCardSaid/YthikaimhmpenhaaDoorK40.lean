/-
  Plain arithmetic of 32-bit halves of words, no program in sight.
  How many half-words a natural number has; plain arithmetic, no program in sight.
  The reference's natural numbers in memory; what digit, trim, even, small and compare return.
  The reference's natural numbers: plus, minus, half.
  (Written by wip/pack.py out of XFHalfM, XFNatM, XFNatA, XFNatB.)
-/
import Derived.Test.YthikaimhmpenhaaDoorK01
import Derived.Laws.BitsAllLaws
import Derived.Deep.AppendLies
import Derived.Laws.OwnMore

namespace Go.Proofs.YthikaimhmpenhaaDoor.Wd
set_option linter.all false
@[irreducible] def hw (a i : Nat) : Int := ((a / 2 ^ (32 * i) % 4294967296 : Nat) : Int)
@[irreducible] def hc (a b i : Nat) : Int := ((a % 2 ^ (32 * i) + b % 2 ^ (32 * i)) / 2 ^ (32 * i) : Nat)
@[irreducible] def hb (a b i : Nat) : Int := if a % 2 ^ (32 * i) < b % 2 ^ (32 * i) then 1 else 0
theorem pow32_next (i : Nat) : 2 ^ (32 * (i + 1)) = 2 ^ (32 * i) * 4294967296 := by
  rw [show 32 * (i + 1) = 32 * i + 32 from by omega, Nat.pow_add]
theorem hw_lo (a i : Nat) : 0 ≤ hw a i := by unfold hw; exact Int.natCast_nonneg _
theorem hw_hi (a i : Nat) : hw a i ≤ 4294967295 := by
  unfold hw; generalize a / 2 ^ (32 * i) = x; omega
theorem hc_bit (a b i : Nat) : 0 ≤ hc a b i ∧ hc a b i ≤ 1 := by
  unfold hc
  have hp : 0 < 2 ^ (32 * i) := Nat.pow_pos (by omega)
  generalize 2 ^ (32 * i) = p at *
  have h1 := Nat.mod_lt a hp
  have h2 := Nat.mod_lt b hp
  rw [carry_two _ _ _ h1 h2]
  split <;> simp
theorem hc_zero (a b : Nat) : hc a b 0 = 0 := by unfold hc; simp [Nat.mod_one]
theorem hb_zero (a b : Nat) : hb a b 0 = 0 := by unfold hb; simp [Nat.mod_one]
theorem hb_bit (a b i : Nat) : 0 ≤ hb a b i ∧ hb a b i ≤ 1 := by unfold hb; split <;> simp
theorem hw_mod (x i : Nat) (hi : i < 8) : hw (x % 2 ^ 256) i = hw x i := by
  unfold hw
  have e : 2 ^ 256 = 2 ^ (32 * i) * (4294967296 * 2 ^ (32 * (7 - i))) := by
    rw [← Nat.mul_assoc, ← pow32_next, ← Nat.pow_add]; congr 1; omega
  rw [e, Nat.mod_mul_right_div_self, Nat.mod_mul_right_mod]
theorem add_hw (a b i : Nat) (hi : i < 8) : (hc a b i + hw a i + hw b i) % 4294967296 = hw (sm a b) i ∧ (hc a b i + hw a i + hw b i) / 4294967296 = hc a b (i + 1) := by
  have h := add_step_gen a b (2 ^ (32 * i)) 4294967296 (Nat.pow_pos (by omega))
  unfold sm
  rw [hw_mod _ _ hi]
  unfold hw hc
  rw [pow32_next]
  refine ⟨?_, ?_⟩
  · rw [← h.1]
    generalize (a % 2 ^ (32 * i) + b % 2 ^ (32 * i)) / 2 ^ (32 * i) = z
    generalize a / 2 ^ (32 * i) = x
    generalize b / 2 ^ (32 * i) = y
    omega
  · rw [← h.2]
    generalize (a % 2 ^ (32 * i) + b % 2 ^ (32 * i)) / 2 ^ (32 * i) = z
    generalize a / 2 ^ (32 * i) = x
    generalize b / 2 ^ (32 * i) = y
    omega
theorem sub_hw (a b i : Nat) (hle : b ≤ a + 2 ^ 256) (hi : i < 8) : (4294967296 + hw a i - hw b i - hb a b i) % 4294967296 = hw (df a b) i ∧ 1 - (4294967296 + hw a i - hw b i - hb a b i) / 4294967296 = hb a b (i + 1) := by
  unfold df
  rw [hw_mod _ _ hi]
  have hK : b + (a + 2 ^ 256 - b) = a + 2 ^ (32 * i) * 4294967296 * 2 ^ (32 * (7 - i)) := by
    have : 2 ^ (32 * i) * 4294967296 * 2 ^ (32 * (7 - i)) = 2 ^ 256 := by
      rw [← pow32_next, ← Nat.pow_add]; congr 1; omega
    rw [this]
    generalize 2 ^ 256 = M at *; omega
  have h := sub_step_gen a b (a + 2 ^ 256 - b) _ (2 ^ (32 * i)) 4294967296 (Nat.pow_pos (by omega)) (by omega) hK
  unfold hw hb
  rw [pow32_next]
  generalize (a + 2 ^ 256 - b) / 2 ^ (32 * i) % 4294967296 = z at *
  have h1 := h.1
  have h2 := h.2
  generalize a % (2 ^ (32 * i) * 4294967296) = u at *
  generalize b % (2 ^ (32 * i) * 4294967296) = v at *
  have hx := Nat.mod_lt (a / 2 ^ (32 * i)) (show 0 < 4294967296 by omega)
  have hy := Nat.mod_lt (b / 2 ^ (32 * i)) (show 0 < 4294967296 by omega)
  generalize a / 2 ^ (32 * i) % 4294967296 = x at *
  generalize b / 2 ^ (32 * i) % 4294967296 = y at *
  generalize a % 2 ^ (32 * i) = m at *
  generalize b % 2 ^ (32 * i) = n at *
  clear h hK hle
  by_cases hq : m < n <;> by_cases hP : u < v <;> simp only [hq, hP, if_true, if_false, iff_true, iff_false] at * <;> omega
theorem hw0 (a : Nat) : hw a 0 = ((a % 4294967296 : Nat) : Int) := by unfold hw; simp
theorem hw1 (a : Nat) : hw a 1 = ((a / 4294967296 % 4294967296 : Nat) : Int) := by unfold hw; rfl
theorem hw2 (a : Nat) : hw a 2 = ((a / 18446744073709551616 % 4294967296 : Nat) : Int) := by unfold hw; rfl
theorem hw3 (a : Nat) : hw a 3 = ((a / 79228162514264337593543950336 % 4294967296 : Nat) : Int) := by unfold hw; rfl
theorem hw4 (a : Nat) : hw a 4 = ((a / 340282366920938463463374607431768211456 % 4294967296 : Nat) : Int) := by unfold hw; rfl
theorem hw5 (a : Nat) : hw a 5 = ((a / 1461501637330902918203684832716283019655932542976 % 4294967296 : Nat) : Int) := by unfold hw; rfl
theorem hw6 (a : Nat) : hw a 6 = ((a / 6277101735386680763835789423207666416102355444464034512896 % 4294967296 : Nat) : Int) := by unfold hw; rfl
theorem hw7 (a : Nat) : hw a 7 = ((a / 26959946667150639794667015087019630673637144422540572481103610249216 % 4294967296 : Nat) : Int) := by unfold hw; rfl
theorem hw_sum (a : Nat) (ha : a < 2 ^ 256) : (a : Int) = hw a 0 + 4294967296 * hw a 1 + 18446744073709551616 * hw a 2 + 79228162514264337593543950336 * hw a 3 + 340282366920938463463374607431768211456 * hw a 4
    + 1461501637330902918203684832716283019655932542976 * hw a 5 + 6277101735386680763835789423207666416102355444464034512896 * hw a 6 + 26959946667150639794667015087019630673637144422540572481103610249216 * hw a 7 := by
  rw [hw0, hw1, hw2, hw3, hw4, hw5, hw6, hw7]
  have := lt256 a ha
  omega
theorem hw_none (a : Nat) (ha : a < 2 ^ 256) (h0 : hw a 0 = 0) (h1 : hw a 1 = 0) (h2 : hw a 2 = 0) (h3 : hw a 3 = 0) (h4 : hw a 4 = 0) (h5 : hw a 5 = 0) (h6 : hw a 6 = 0) (h7 : hw a 7 = 0) : a = 0 := by
  have := hw_sum a ha
  rw [h0, h1, h2, h3, h4, h5, h6, h7] at this
  omega
theorem high_split (a i : Nat) : ((a / 2 ^ (32 * i) : Nat) : Int) = hw a i + 4294967296 * ((a / 2 ^ (32 * (i + 1)) : Nat) : Int) := by
  unfold hw
  rw [pow32_next, ← Nat.div_div_eq_div_mul]
  generalize a / 2 ^ (32 * i) = x
  omega
theorem same_step {a b i : Nat} (h : a / 2 ^ (32 * (i + 1)) = b / 2 ^ (32 * (i + 1))) (h1 : hw a i ≤ hw b i) (h2 : hw b i ≤ hw a i) : a / 2 ^ (32 * i) = b / 2 ^ (32 * i) := by
  have e1 := high_split a i
  have e2 := high_split b i
  rw [h] at e1
  omega
theorem less_at {a b i : Nat} (h : a / 2 ^ (32 * (i + 1)) = b / 2 ^ (32 * (i + 1))) (h1 : hw a i < hw b i) : cmpN a b = -1 := by
  have e1 := high_split a i
  have e2 := high_split b i
  rw [h] at e1
  have h3 : a / 2 ^ (32 * i) < b / 2 ^ (32 * i) := by omega
  unfold cmpN
  rw [if_pos]
  rcases Nat.lt_or_ge a b with h4 | h4
  · exact h4
  · exact absurd (Nat.div_le_div_right (c := 2 ^ (32 * i)) h4) (by omega)
theorem more_at {a b i : Nat} (h : a / 2 ^ (32 * (i + 1)) = b / 2 ^ (32 * (i + 1))) (h1 : hw b i < hw a i) : cmpN a b = 1 := by
  have e1 := high_split a i
  have e2 := high_split b i
  rw [h] at e1
  have h3 : b / 2 ^ (32 * i) < a / 2 ^ (32 * i) := by omega
  unfold cmpN
  have : b < a := by
    rcases Nat.lt_or_ge b a with h4 | h4
    · exact h4
    · exact absurd (Nat.div_le_div_right (c := 2 ^ (32 * i)) h4) (by omega)
  rw [if_neg (by omega), if_pos this]
theorem same_all {a b : Nat} (h : a / 2 ^ (32 * 0) = b / 2 ^ (32 * 0)) : cmpN a b = 0 := by
  have : a = b := by simpa using h
  unfold cmpN
  rw [if_neg (by omega), if_neg (by omega)]
end Go.Proofs.YthikaimhmpenhaaDoor.Wd

namespace Go.Proofs.YthikaimhmpenhaaDoor.Wd
set_option linter.all false
@[irreducible] def nl (n : Nat) : Nat := if n = 0 then 0 else Nat.log2 n / 32 + 1
theorem nl_le {n k : Nat} : nl n ≤ k ↔ n < 2 ^ (32 * k) := by
  unfold nl
  by_cases h : n = 0
  · subst h; simp [Nat.pow_pos]
  · rw [if_neg h, ← Nat.log2_lt h]
    have := Nat.div_lt_iff_lt_mul (x := Nat.log2 n) (y := k) (k := 32) (by omega)
    omega
theorem nl_zero : nl 0 = 0 := by unfold nl; simp
theorem nl_pos {n : Nat} (h : 0 < n) : 0 < nl n := by unfold nl; rw [if_neg (by omega)]; omega
theorem nl_none {n : Nat} (h : nl n = 0) : n = 0 := by
  have := nl_le.1 (Nat.le_of_eq h)
  simpa using this
theorem hw_past {n j : Nat} (h : nl n ≤ j) : hw n j = 0 := by
  unfold hw
  rw [Nat.div_eq_of_lt (nl_le.1 h)]; rfl
theorem nl_drop {n k : Nat} (h : nl n ≤ k + 1) (h0 : hw n k = 0) : nl n ≤ k := by
  have h1 := nl_le.1 h
  rw [pow32_next] at h1
  refine nl_le.2 ?_
  unfold hw at h0
  have hp : 0 < 2 ^ (32 * k) := Nat.pow_pos (by omega)
  have h2 : n / 2 ^ (32 * k) < 4294967296 := (Nat.div_lt_iff_lt_mul hp).2 (by rw [Nat.mul_comm]; exact h1)
  generalize e0 : n / 2 ^ (32 * k) = q at *
  have h3 : q = 0 := by omega
  subst h3
  rcases Nat.div_eq_zero_iff.1 e0 with h4 | h4
  · omega
  · exact h4
theorem nl_keep {n k : Nat} (h : nl n ≤ k + 1) (h0 : hw n k ≠ 0) : nl n = k + 1 := by
  rcases Nat.lt_or_ge k (nl n) with h1 | h1
  · omega
  · exact absurd (hw_past h1) h0
theorem nl_lt256 {n : Nat} : nl n ≤ 8 ↔ n < 2 ^ 256 := nl_le
theorem nl_mono {a b : Nat} (h : a ≤ b) : nl a ≤ nl b := nl_le.2 (Nat.lt_of_le_of_lt h (nl_le.1 (Nat.le_refl _)))
theorem nl_less {a b : Nat} (h : nl a < nl b) : a < b := by
  rcases Nat.lt_or_ge a b with h1 | h1
  · exact h1
  · have := nl_mono h1; omega
theorem cmp_shorter {a b : Nat} (h : nl a < nl b) : cmpN a b = -1 := by
  have := nl_less h
  unfold cmpN; rw [if_pos this]
theorem cmp_longer {a b : Nat} (h : nl b < nl a) : cmpN a b = 1 := by
  have := nl_less h
  unfold cmpN; rw [if_neg (by omega), if_pos this]
theorem tops {a b : Nat} (h : nl a = nl b) : a / 2 ^ (32 * nl a) = b / 2 ^ (32 * nl a) := by
  rw [Nat.div_eq_of_lt (nl_le.1 (Nat.le_refl _)), Nat.div_eq_of_lt (by rw [h]; exact nl_le.1 (Nat.le_refl _))]
theorem hc_next {a b K : Nat} (ha : nl a ≤ K) (hb : nl b ≤ K) : hc a b K = hw (a + b) K := by
  have h1 := nl_le.1 ha
  have h2 := nl_le.1 hb
  unfold hc hw
  rw [Nat.mod_eq_of_lt h1, Nat.mod_eq_of_lt h2]
  generalize 2 ^ (32 * K) = p at *
  have : (a + b) / p < 2 := (Nat.div_lt_iff_lt_mul (by omega)).2 (by omega)
  generalize (a + b) / p = q at *
  omega
theorem nl_sum {a b K : Nat} (ha : nl a ≤ K) (hb : nl b ≤ K) : nl (a + b) ≤ K + 1 := by
  have h1 := nl_le.1 ha
  have h2 := nl_le.1 hb
  refine nl_le.2 ?_
  rw [pow32_next]
  generalize 2 ^ (32 * K) = p at *
  omega
theorem sm_add {a b : Nat} (h : a + b < 2 ^ 256) : sm a b = a + b := by unfold sm; exact Nat.mod_eq_of_lt h
theorem df_sub {a b : Nat} (h : b ≤ a) (ha : a < 2 ^ 256) : df a b = a - b := by
  unfold df
  rw [show a + 2 ^ 256 - b = (a - b) + 2 ^ 256 by omega, Nat.add_mod_right, Nat.mod_eq_of_lt (by omega)]
theorem nl_small {n : Nat} (h : n < 18446744073709551616) : nl n ≤ 2 := nl_le.2 h
theorem hw_word {n : Nat} (h : n < 18446744073709551616) : hw n 0 = ((n % 4294967296 : Nat) : Int) ∧ hw n 1 = ((n / 4294967296 : Nat) : Int) := by
  refine ⟨hw0 n, ?_⟩
  rw [hw1]; omega
theorem hw_half (n i : Nat) : hw (n / 2) i = hw n i / 2 + hw n (i + 1) % 2 * 2147483648 := by
  unfold hw
  rw [pow32_next, Nat.div_div_eq_div_mul, Nat.mul_comm 2, ← Nat.div_div_eq_div_mul, ← Nat.div_div_eq_div_mul n]
  generalize n / 2 ^ (32 * i) = x
  omega
theorem nl_half {n : Nat} : nl (n / 2) ≤ nl n := nl_mono (Nat.div_le_self _ _)
theorem hw_parity (n : Nat) : hw n 0 % 2 = ((n % 2 : Nat) : Int) := by rw [hw0]; omega
theorem low32 (x : Int) (h0 : 0 ≤ x) (h1 : x ≤ 18446744073709551615) : bits .and .u64 x 4294967295 = x % 4294967296 := by
  rw [u64_and _ _ (by omega) (by omega) (by omega) (by omega), show (4294967295 : Int).toNat = 4294967295 from rfl, nat_mask32]; omega
theorem low1 (x : Int) (h0 : 0 ≤ x) (h1 : x ≤ 18446744073709551615) : bits .and .u64 x 1 = x % 2 := by
  rw [u64_and _ _ (by omega) (by omega) (by omega) (by omega), show (1 : Int).toNat = 1 from rfl, nat_mask1]; omega
theorem high_or (x y : Int) (h0 : 0 ≤ x) (h1 : x ≤ 4294967295) (h2 : 0 ≤ y) (h3 : y ≤ 1) : bits .or .u32 (x / 2) (y * 2147483648) = x / 2 + y * 2147483648 := by
  rw [u32_or _ _ (by omega) (by omega) (by omega) (by omega), Nat.or_comm, nat_join 31 _ _ (by omega) (by omega)]; omega
@[irreducible] def digs (n k : Nat) : List Value := (List.range k).map fun j => .int .u32 (hw n j)
theorem digs_zero (n : Nat) : digs n 0 = [] := by unfold digs; rfl
theorem digs_succ (n k : Nat) : digs n (k + 1) = digs n k ++ [.int .u32 (hw n k)] := by unfold digs; rw [List.range_succ, List.map_append]; simp
theorem digs_get (n k j : Nat) (h : j < k) : (digs n k)[j]? = some (.int .u32 (hw n j)) := by unfold digs; simp [h]
end Go.Proofs.YthikaimhmpenhaaDoor.Wd

namespace Go.Proofs.YthikaimhmpenhaaDoor
set_option linter.all false
open Go Go.RowKit Wd
set_option maxRecDepth 100000
def NatAt (w : World) (a : Option Addr) (n k : Nat) : Prop := 0 < k → ∃ b o, a = some ⟨b, o, none⟩ ∧ b < w.heap.size ∧ ∀ j, j < k → w.cell? ⟨b, o + j, none⟩ = some (.int .u32 (hw n j))
theorem NatAt.kp {w x : World} {a : Option Addr} {n k : Nat} (h : NatAt w a n k) (K : Kp w.heap.size [] w x) : NatAt x a n k := fun h0 => by
  obtain ⟨b, o, e, hl, hc⟩ := h h0
  exact ⟨b, o, e, Nat.lt_of_lt_of_le hl K.size, fun j hj => (K.cell _ _ hl (by simp)).trans (hc j hj)⟩
theorem NatAt.later {w x : World} {a : Option Addr} {n k : Nat} (h : NatAt w a n k) (hb : Below w.heap.size w x) : NatAt x a n k := h.kp (Below.kp hb)
theorem NatAt.less {w : World} {a : Option Addr} {n k j : Nat} (h : NatAt w a n k) (hj : j ≤ k) : NatAt w a n j := fun h0 => by
  obtain ⟨b, o, e, hl, hc⟩ := h (by omega)
  exact ⟨b, o, e, hl, fun i hi => hc i (by omega)⟩
theorem NatAt.none (w : World) (n : Nat) : NatAt w none n 0 := fun h => absurd h (by omega)
set_option maxHeartbeats 1000000 in
theorem ndigit_any (n i c : Nat) (a : Option Addr) (hn : nl n ≤ 64) (hi : i ≤ 64) (w : World) (h : NatAt w a n (nl n)) :
    Calls Tryd.prog 81 #[.slice a (nl n) c, .int .i64 (i : Int)] w fun e w' => e = .returned (.int .u64 (hw n i)) ∧ w' = w := by
  have lo := hw_lo n i
  have hh := hw_hi n i
  by_cases hlt : i < nl n
  · obtain ⟨b, o, rfl, hl, hc⟩ := h (by omega)
    have hci := hc i hlt
    clear hc h
    generalize hw n i = x at *
    generalize nl n = m at *
    have hlti : (i : Int) < (m : Int) := by omega
    go_enter Tryd.func81, Tryd.ntmps81
    go_wp2
    go_returns
    exact ⟨rfl, rfl⟩
  · have e0 := hw_past (n := n) (j := i) (by omega)
    rw [e0]
    clear e0 lo hh h
    generalize nl n = m at *
    have hlti : ¬ (i : Int) < (m : Int) := by omega
    go_enter Tryd.func81, Tryd.ntmps81
    go_wp2
    go_returns
    exact ⟨rfl, rfl⟩
set_option maxHeartbeats 1000000 in
theorem ntrim_any (n k c : Nat) (a : Option Addr) (hk : k ≤ 64) (hkc : k ≤ c) (hcm : c ≤ maxLen) (hn : nl n ≤ k) (w : World) (h : NatAt w a n k) :
    Calls Tryd.prog 65 #[.slice a k c] w fun e w' => e = .returned (.slice a (nl n) c) ∧ Below w.heap.size w w' := by
  have D1 := Lib.hid (fun j (h1 : nl n ≤ j + 1) (h2 : hw n j = 0) => nl_drop h1 h2)
  have D2 := Lib.hid (fun j (h1 : nl n ≤ j + 1) (h2 : hw n j ≠ 0) => nl_keep h1 h2)
  by_cases h0 : 0 < k
  · obtain ⟨b, o, rfl, hl, hc⟩ := h h0
    have HC := Lib.hid hc
    have HM := Lib.hid hcm
    clear hc h hcm
    generalize hnl : nl n = m at *
    clear hnl
    go_enter Tryd.func65, Tryd.ntmps65
    go_wp2
    go_loopw [3] (fun i wr => ∃ j : Nat, m ≤ j ∧ j ≤ k ∧ i = .int .i64 (j : Int) ∧ wr = w) (fun i _ => (intOf i).toNat)
    case atStart => exact ⟨k, by omega, by omega, rfl, rfl⟩
    case round =>
      obtain ⟨j, hmj, hjk, rfl, rfl⟩ := hrel
      rcases Nat.eq_zero_or_pos j with rfl | hj
      · obtain rfl : m = 0 := by omega
        go_wp2
        go_returns
        exact ⟨rfl, by go_grown⟩
      · obtain ⟨i, rfl⟩ : ∃ i, j = i + 1 := ⟨j - 1, by omega⟩
        have c1 := HC.out i (by omega)
        have d1 := D1.out i (by omega)
        have d2 := D2.out i (by omega)
        have hlo := hw_lo n i
        have hw1 : IntKind.i64.wrap (((i + 1 : Nat) : Int) - 1) = (i : Int) := by rw [IntKind.wrap_i64]; omega
        generalize hw n i = x at *
        by_cases hx : x = 0
        · subst hx
          have e1 := d1 rfl
          clear d1 d2
          go_wp2
          go_roundw
          case rel => exact ⟨i, by omega, by omega, by go_num, (by first | rfl | trivial)⟩
          case measure => simp [intOf]
        · have e1 := d2 hx
          subst e1
          clear d1 d2
          go_wp2
          go_returns
          exact ⟨rfl, by go_grown⟩
  · obtain rfl : k = 0 := by omega
    have e0 : nl n = 0 := by omega
    rw [e0]
    have HM := Lib.hid hcm
    clear hcm D1 D2 h
    go_enter Tryd.func65, Tryd.ntmps65
    go_wp2
    go_loopw [3] (fun i wr => i = .int .i64 0 ∧ wr = w) (fun i _ => 0)
    case atStart => exact ⟨rfl, rfl⟩
    case round =>
      obtain ⟨rfl, rfl⟩ := hrel
      go_wp2
      go_returns
      exact ⟨rfl, by go_grown⟩
set_option maxHeartbeats 1000000 in
theorem neven_any (n c : Nat) (a : Option Addr) (hn : nl n ≤ 64) (w : World) (h : NatAt w a n (nl n)) :
    Calls Tryd.prog 59 #[.slice a (nl n) c] w fun e w' => e = .returned (.bool (decide (n % 2 = 0))) ∧ w' = w := by
  have K := Lib.hid (show ∀ w, NatAt w a n (nl n) → Calls Tryd.prog 81 #[.slice a (nl n) c, .int .i64 0] w fun e w' => e = .returned (.int .u64 (hw n 0)) ∧ w' = w from fun w h => by have := ndigit_any n 0 c a hn (by omega) w h; exact this)
  have hp := hw_parity n
  have lo := hw_lo n 0
  have hh := hw_hi n 0
  have HA := Lib.hid h
  clear h hn
  have e : decide (n % 2 = 0) = decide (hw n 0 % 2 = 0) := by rw [hp]; apply decide_eq_decide.2; omega
  rw [e]
  clear hp e
  generalize hw n 0 = x at *
  generalize nl n = m at *
  have hm : IntKind.u64.wrap (x.tmod 2) = x % 2 := by rw [IntKind.wrap_u64, Int.tmod_eq_emod_of_nonneg lo]; omega
  go_enter Tryd.func59, Tryd.ntmps59
  go_wp2_with fail
  ((with_reducible refine (K.out _ HA.out).mono ?_); rintro e w1 ⟨rfl, rfl⟩)
  go_wp2
  go_returns
  exact ⟨ret_bool (by first | rfl | (simp; done) | (simp; omega)), rfl⟩
set_option maxHeartbeats 1000000 in
theorem ncompare_any (m n c d : Nat) (a b : Option Addr) (hm : nl m ≤ 64) (hn : nl n ≤ 64) (w : World) (h : NatAt w a m (nl m)) (h' : NatAt w b n (nl n)) :
    Calls Tryd.prog 62 #[.slice a (nl m) c, .slice b (nl n) d] w fun e w' => e = .returned (.int .i64 (cmpN m n)) ∧ Below w.heap.size w w' := by
  rcases (by omega : nl m < nl n ∨ nl n < nl m ∨ nl m = nl n) with hl | hl | hl
  · rw [cmp_shorter hl]
    clear h h'
    generalize nl m = x at *
    generalize nl n = y at *
    have h1 : (x : Int) < (y : Int) := by omega
    have h2 : ¬ (x : Int) = (y : Int) := by omega
    go_enter Tryd.func62, Tryd.ntmps62
    go_wp2
    go_returns
    exact ⟨rfl, by go_grown⟩
  · rw [cmp_longer hl]
    clear h h'
    generalize nl m = x at *
    generalize nl n = y at *
    have h1 : ¬ (x : Int) < (y : Int) := by omega
    have h2 : ¬ (x : Int) = (y : Int) := by omega
    go_enter Tryd.func62, Tryd.ntmps62
    go_wp2
    go_returns
    exact ⟨rfl, by go_grown⟩
  · have T := Lib.hid (tops hl)
    rw [← hl] at h' hn ⊢
    have L1 := Lib.hid (fun i h1 h2 => less_at (a := m) (b := n) (i := i) h1 h2)
    have L2 := Lib.hid (fun i h1 h2 => more_at (a := m) (b := n) (i := i) h1 h2)
    have L3 := Lib.hid (fun h1 => same_all (a := m) (b := n) h1)
    have L4 := Lib.hid (fun i h1 h2 h3 => same_step (a := m) (b := n) (i := i) h1 h2 h3)
    have L5 := Lib.hid (show ∀ i, 0 ≤ hw m i ∧ hw m i ≤ 4294967295 ∧ 0 ≤ hw n i ∧ hw n i ≤ 4294967295 from fun i => ⟨hw_lo m i, hw_hi m i, hw_lo n i, hw_hi n i⟩)
    have HA := Lib.hid h
    have HB := Lib.hid h'
    clear h h' hl
    generalize nl m = K at *
    generalize cmpN m n = r at *
    go_enter Tryd.func62, Tryd.ntmps62
    go_wp2
    go_loopw [5] (fun i wr => ∃ j : Nat, j ≤ K ∧ i = .int .i64 ((j : Int) - 1) ∧ Hid (m / 2 ^ (32 * j) = n / 2 ^ (32 * j)) ∧ Hid (Below w.heap.size w wr)) (fun i _ => (intOf i + 1).toNat)
    case atStart => exact ⟨K, by omega, rfl, T, Lib.hid (Below.refl _ _)⟩
    case round =>
      obtain ⟨j, hj, rfl, hS, hB⟩ := hrel
      rcases Nat.eq_zero_or_pos j with rfl | hj0
      · obtain rfl := L3.out hS.out
        go_wp2
        go_returns
        exact ⟨rfl, hB.out⟩
      · obtain ⟨i, rfl⟩ : ∃ i, j = i + 1 := ⟨j - 1, by omega⟩
        obtain ⟨b1, o1, rfl, l1, c1⟩ := (HA.out.later hB.out) (by omega)
        obtain ⟨b2, o2, rfl, l2, c2⟩ := (HB.out.later hB.out) (by omega)
        have d1 := c1 i (by omega)
        have d2 := c2 i (by omega)
        have hi : (((i + 1 : Nat) : Int) - 1) = (i : Int) := by omega
        rw [hi]
        have l4 := L4.out i hS.out
        have m1 := L1.out i hS.out
        have m2 := L2.out i hS.out
        have m3 := L5.out i
        have hiK : (i : Int) < (K : Int) := by omega
        have hi0 : (0 : Int) ≤ (i : Int) := by omega
        have hw1 : IntKind.i64.wrap ((i : Int) - 1) = (i : Int) - 1 := by rw [IntKind.wrap_i64]; omega
        clear c1 c2
        generalize hw m i = x at *
        generalize hw n i = y at *
        rcases (by omega : x < y ∨ y < x ∨ x = y) with hc | hc | hc
        · obtain rfl := m1 hc
          have hB1 := hB.out
          clear l4 m1 m2
          go_wp2
          go_region
          go_wp2
          go_returns
          exact ⟨rfl, by (repeat' first | (with_reducible first | exact Bq0 | assumption | refine Bq1 ?_ | refine Bq2 ?_ | refine Bq3 ?_ ?_ | refine Bq4 ?_ (by assumption)) | go_size)⟩
        · obtain rfl := m2 hc
          have hc1 : ¬ x < y := by omega
          have hB1 := hB.out
          clear l4 m1 m2
          go_wp2
          go_region
          go_wp2
          go_region
          go_wp2
          go_returns
          exact ⟨rfl, by (repeat' first | (with_reducible first | exact Bq0 | assumption | refine Bq1 ?_ | refine Bq2 ?_ | refine Bq3 ?_ ?_ | refine Bq4 ?_ (by assumption)) | go_size)⟩
        · subst hc
          have s1 := Lib.hid (l4 (Int.le_refl _) (Int.le_refl _))
          have hB1 := hB.out
          clear l4 m1 m2
          go_wp2
          go_region
          go_wp2
          go_region
          go_wp2
          go_roundw
          case rel => exact ⟨i, by omega, by go_num, s1, Lib.hid (by (repeat' first | (with_reducible first | exact Bq0 | assumption | refine Bq1 ?_ | refine Bq2 ?_ | refine Bq3 ?_ ?_ | refine Bq4 ?_ (by assumption)) | go_size))⟩
          case measure => simp [intOf]
set_option maxHeartbeats 1000000 in
theorem nsmall_any (n : Nat) (hn : n < 18446744073709551616) (w : World) :
    Calls Tryd.prog 48 #[.int .u64 (n : Int)] w fun e w' => ∃ a c, e = .returned (.slice a (nl n) c) ∧ NatAt w' a n (nl n) ∧ Below w.heap.size w w' ∧ (∀ p, a = some p → w.heap.size ≤ p.block) := by
  have hl := nl_small hn
  obtain ⟨h0, h1⟩ := hw_word hn
  have TR := Lib.hid (fun c (hc : 2 ≤ c) (hcm : c ≤ maxLen) a w h => ntrim_any n 2 c a (by omega) hc hcm hl w h)
  have b0 := hw_lo n 0
  have b1 := hw_hi n 0
  have b2 := hw_lo n 1
  have b3 := hw_hi n 1
  have r1 : IntKind.u32.wrap (hw n 0) = hw n 0 := by rw [IntKind.wrap_u32]; omega
  have r2 : IntKind.u32.wrap (hw n 1) = hw n 1 := by rw [IntKind.wrap_u32]; omega
  have r3 : bits .and .u64 (n : Int) 4294967295 = hw n 0 := by rw [low32 _ (by omega) (by omega), h0]; omega
  have r4 : (n : Int) / 4294967296 = hw n 1 := by rw [h1]; omega
  have r5 : hw n 0 % 4294967296 = hw n 0 := by omega
  clear h0 h1
  generalize hx : hw n 0 = x at *
  generalize hy : hw n 1 = y at *
  have HX := Lib.hid hx
  have HY := Lib.hid hy
  have HL := Lib.hid hl
  clear hx hy hl hn
  go_enter Tryd.func48, Tryd.ntmps48
  go_wp2_with fail
  have hN : NatAt (w.alloc (.cells #[.int .u32 x, .int .u32 y] 106)) (some ⟨w.heap.size, 0, none⟩) n 2 := fun _ => ⟨w.heap.size, 0, rfl, by simp, fun j hj => by
    rcases (by omega : j = 0 ∨ j = 1) with rfl | rfl
    · rw [HX.out]; exact World.cell?_alloc_new _ _ _ _
    · rw [HY.out]; exact World.cell?_alloc_new _ _ _ _⟩
  have HN := Lib.hid hN
  clear hN
  ((with_reducible refine (TR.out 2 (by omega) (by unfold maxLen; omega) _ _ HN.out).mono ?_); rintro e w1 ⟨rfl, hb1⟩)
  have HR := Lib.hid ((HN.out.less HL.out).later hb1)
  go_wp2
  go_returns
  exact ⟨_, _, rfl, HR.out, by (repeat' first | (with_reducible first | exact Bq0 | assumption | refine Bq1 ?_ | refine Bq2 ?_ | refine Bq3 ?_ ?_ | refine Bq4 ?_ (by assumption)) | go_size), fun p hp => by cases hp; exact Nat.le_refl _⟩
end Go.Proofs.YthikaimhmpenhaaDoor

namespace Go.Proofs.YthikaimhmpenhaaDoor
set_option linter.all false
open Go Go.RowKit Wd
set_option maxRecDepth 100000
theorem infoU : (Tryd.prog.info? 106).map (fun i => (i.zero, i.size, i.bytes)) = some (some (.int .u32 0), 1, 4) := by kernel_rfl
structure Dg (b0 : Nat) (w0 w : World) (v : Value) (n k : Nat) : Prop where
  own : w.ownsRow b0 106 1 v k (digs n k)
  below : Below b0 w0 w
  base : b0 ≤ w.heap.size
theorem Dg.start (w : World) (n : Nat) : Dg w.heap.size w w (.slice none 0 0) n 0 := ⟨by rw [digs_zero]; exact World.ownsRow_nil _ _ _ _, Below.refl _ _, Nat.le_refl _⟩
theorem Dg.push {b0 : Nat} {w0 w w1 : World} {v : Value} {n k : Nat} {g cap : Nat} {O : Obj} (h : Dg b0 w0 w v n k)
    (hown : w1.ownsRow b0 106 1 (.slice (some ⟨g, 0, none⟩) (k + 1) cap) (k + 1) (digs n k ++ [.int .u32 (hw n k)])) (hg : (w.alloc O).grownBy w1 v.ownBlock) : Dg b0 w0 w1 (.slice (some ⟨g, 0, none⟩) (k + 1) cap) n (k + 1) :=
  ⟨by rw [digs_succ]; exact hown, (h.below.alloc h.base O).grown hg (by simp; have := h.base; omega) (fun q hq => (h.own.lt q hq).1), Nat.le_trans h.base (by have := hg.size; simp at this; omega)⟩
theorem Dg.pushD {b0 : Nat} {w0 w w1 : World} {v : Value} {n k : Nat} {g cap : Nat} {O : Obj} (h : Dg b0 w0 w v n k)
    (hown : w1.ownsRow b0 106 1 (.slice (some ⟨g, 0, none⟩) (k + 1) cap) (k + 1) (digs n k ++ [.int .u32 (hw n k)])) (hg : (w.drew.alloc O).grownBy w1 v.ownBlock) : Dg b0 w0 w1 (.slice (some ⟨g, 0, none⟩) (k + 1) cap) n (k + 1) :=
  Dg.push (w := w.drew) ⟨h.own.drew, h.below.drew, h.base⟩ hown hg
theorem Dg.nat {b0 : Nat} {w0 w : World} {v : Value} {n k : Nat} (h : Dg b0 w0 w v n k) : ∃ a c, v = .slice a k c ∧ k ≤ c ∧ c ≤ maxLen ∧ NatAt w a n k := by
  rcases h.own.2 with ⟨h1, h2⟩ | ⟨g, cap, cur, hv, hg, hh, hn, hm, hs, ht⟩
  · subst h2
    exact ⟨none, 0, h1, Nat.le_refl _, Nat.zero_le _, NatAt.none _ _⟩
  · subst hv
    refine ⟨_, cap, rfl, hn, hm, fun h0 => ⟨g, 0, rfl, (h.own.lt g rfl).2, fun j hj => ?_⟩⟩
    rw [Nat.zero_add, h.own.cellAt j (by omega), digs_get n k j hj]
theorem news1 (w : World) (v : Value) (T : TypeId) : ∀ j u, ([v] : List Value)[j]? = some u → (w.alloc (.cells #[v] T)).cell? ((⟨w.heap.size, 0, none⟩ : Addr).add j) = some u :=
  World.news_of_block (cs := #[v]) (t := T) (fr := (0, 0)) (heap_alloc_new w _)
set_option maxHeartbeats 2000000 in
theorem nplus_any (m n c d : Nat) (a b : Option Addr) (hmn : m + n < 2 ^ 256) (w : World) (h : NatAt w a m (nl m)) (h' : NatAt w b n (nl n)) :
    Calls Tryd.prog 61 #[.slice a (nl m) c, .slice b (nl n) d] w fun e w' => ∃ a' c', e = .returned (.slice a' (nl (m + n)) c') ∧ NatAt w' a' (m + n) (nl (m + n)) ∧ Below w.heap.size w w' ∧ (∀ p, a' = some p → w.heap.size ≤ p.block) := by
  have hm8 : nl m ≤ 8 := nl_lt256.2 (Nat.lt_of_le_of_lt (Nat.le_add_right _ _) hmn)
  have hn8 : nl n ≤ 8 := nl_lt256.2 (Nat.lt_of_le_of_lt (Nat.le_add_left _ _) hmn)
  have AD := Lib.hid (fun i (hi : i < 8) => add_hw m n i hi)
  rw [sm_add hmn] at AD
  have HC := Lib.hid (fun i => hc_bit m n i)
  have HW := Lib.hid (show ∀ x i, 0 ≤ hw x i ∧ hw x i ≤ 4294967295 from fun x i => ⟨hw_lo x i, hw_hi x i⟩)
  have TOP := Lib.hid (fun K h1 h2 => hc_next (a := m) (b := n) (K := K) h1 h2)
  have SUM := Lib.hid (fun K h1 h2 => nl_sum (a := m) (b := n) (K := K) h1 h2)
  have DA := Lib.hid (fun (i : Nat) (hi : i ≤ 64) x (hb : Below w.heap.size w x) => ndigit_any m i c a (by omega) hi x (h.later hb))
  have DB := Lib.hid (fun (i : Nat) (hi : i ≤ 64) x (hb : Below w.heap.size w x) => ndigit_any n i d b (by omega) hi x (h'.later hb))
  have TR := Lib.hid (fun k c a (hk : k ≤ 64) (hkc : k ≤ c) (hcm : c ≤ maxLen) hl w h => ntrim_any (m + n) k c a hk hkc hcm hl w h)
  have C0 := hc_zero m n
  have D0 := Lib.hid (Dg.start w (m + n))
  have HML := Lib.hid (show ∀ q : Nat, q ≤ 1000 → q + 1 ≤ maxLen from fun q hq => by unfold maxLen; omega)
  have HLT := Lib.hid (show ∀ k, nl (m + n) ≤ k → nl (m + n) ≤ k from fun k h => h)
  obtain ⟨i0, hinf, hz0, hz1, hz2⟩ := info_parts infoU
  clear hmn h h'
  generalize m + n = s at *
  generalize nl m = x at *
  generalize nl n = y at *
  go_enter Tryd.func61, Tryd.ntmps61
  go_wp2
  go_loopg [5, 6, 7] (max x y) (fun gg ov cv iv wr => ∃ i : Nat, i ≤ max x y ∧ max x y - i ≤ gg ∧ iv = .int .i64 (i : Int) ∧ cv = .int .u64 (hc m n i) ∧ Hid (Dg w.heap.size w wr ov s i))
  case atStart => exact ⟨0, by omega, by omega, rfl, by rw [C0], D0⟩
  case round =>
    obtain ⟨i, hi, hgi, rfl, rfl, hD⟩ := hrel
    have hB0 := hD.out.below
    have hba := hD.out.base
    rcases (by omega : (i < x ∨ (¬ i < x ∧ i < y)) ∨ (¬ i < x ∧ ¬ i < y)) with hlt | ⟨hx, hy⟩
    · have hi8 : i < 8 := by omega
      have A := AD.out i hi8
      have b1 := HC.out i
      have b2 := HC.out (i + 1)
      have b3 := HW.out m i
      have b4 := HW.out n i
      have b5 := HW.out s i
      have KA := Lib.hid (DA.out i (by omega) wr hB0)
      have KB := Lib.hid (DB.out i (by omega) wr hB0)
      have hD' := hD
      have e5 : ∃ z, z = hw s i := ⟨_, rfl⟩
      obtain ⟨dg, hdg⟩ := e5
      have HDG := Lib.hid hdg
      rw [← hdg] at A b5
      clear hdg hD AD HC HW TOP SUM DA DB TR HLT D0
      generalize hw m i = p at *
      generalize hw n i = q at *
      generalize hc m n i = cc at *
      generalize hcn : hc m n (i + 1) = cn at *
      have HCN := Lib.hid hcn
      clear hcn
      have r1 : IntKind.u64.wrap (p + q) = p + q := by rw [IntKind.wrap_u64]; omega
      have r2 : IntKind.u64.wrap (p + q + cc) = p + q + cc := by rw [IntKind.wrap_u64]; omega
      have r3 : bits .and .u64 (p + q + cc) 4294967295 = dg := by rw [low32 _ (by omega) (by omega), ← A.1]; congr 1; omega
      have r4 : dg % 4294967296 = dg := by omega
      have r5 : (p + q + cc) / 4294967296 = cn := by rw [← A.2]; congr 1; omega
      clear A b1 b2 b3 b4 b5 C0
      have hil : (x : Int) ≤ 8 ∧ (y : Int) ≤ 8 := by omega
      rcases hlt with hlt | ⟨hlt, hlt2⟩
      · have g1 : (i : Int) < (x : Int) := by omega
        go_wp2_with (first
          | (go_at_call 81; first
              | ((with_reducible refine KA.out.mono ?_); rintro e w1 ⟨rfl, he⟩; subst he)
              | ((with_reducible refine KB.out.mono ?_); rintro e w1 ⟨rfl, he⟩; subst he))
          | (at_builtin; refine wpList_append_lies _ rfl _ _ 71 rfl w.heap.size 106 i0 (.int .u32 0) 1 4 Tryd.underlying71 hinf hz0 hz1 hz2 rfl (by decide) _ i (digs s i) rfl (hD'.out.own.alloc _) ⟨_, 0, none⟩ 1 1 [.int .u32 dg] rfl rfl (news1 _ _ _) (by simp [Value.oneCell']) (by omega) (HML.out i (by omega)) (by omega) (by simp; omega) _ rfl ?_)
          | go_in)
        intro g cap w1 hown hgrow hat hlt
        have hD2 := Lib.hid (hD'.out.push (by rw [← HDG.out]; exact hown) hgrow)
        clear hown hgrow hat hlt hD' hB0 hba KA KB
        go_wp2
        go_roundg (max x y - (i + 1))
        case rel => exact ⟨i + 1, by omega, by omega, by go_num, by rw [HCN.out], hD2⟩
        case measure => omega
      · have g1 : ¬ (i : Int) < (x : Int) := by omega
        have g2 : (i : Int) < (y : Int) := by omega
        go_wp2_with (first
          | (go_at_call 81; first
              | ((with_reducible refine KA.out.mono ?_); rintro e w1 ⟨rfl, he⟩; subst he)
              | ((with_reducible refine KB.out.mono ?_); rintro e w1 ⟨rfl, he⟩; subst he))
          | (at_builtin; refine wpList_append_lies _ rfl _ _ 71 rfl w.heap.size 106 i0 (.int .u32 0) 1 4 Tryd.underlying71 hinf hz0 hz1 hz2 rfl (by decide) _ i (digs s i) rfl (hD'.out.own.alloc _) ⟨_, 0, none⟩ 1 1 [.int .u32 dg] rfl rfl (news1 _ _ _) (by simp [Value.oneCell']) (by omega) (HML.out i (by omega)) (by omega) (by simp; omega) _ rfl ?_)
          | go_in)
        intro g cap w1 hown hgrow hat hlt
        have hD2 := Lib.hid (hD'.out.push (by rw [← HDG.out]; exact hown) hgrow)
        clear hown hgrow hat hlt hD' hB0 hba KA KB
        go_wp2
        go_roundg (max x y - (i + 1))
        case rel => exact ⟨i + 1, by omega, by omega, by go_num, by rw [HCN.out], hD2⟩
        case measure => omega
    · obtain rfl : i = max x y := by omega
      generalize hmx : max x y = K at *
      have e1 := TOP.out K (by omega) (by omega)
      have e2 := SUM.out K (by omega) (by omega)
      have b1 := HC.out K
      rw [e1] at b1 ⊢
      have g1 : ¬ (K : Int) < (x : Int) := by omega
      have g2 : ¬ (K : Int) < (y : Int) := by omega
      have e5 : ∃ z, z = hw s K := ⟨_, rfl⟩
      obtain ⟨dg, hdg⟩ := e5
      have HDG := Lib.hid hdg
      have E2 := Lib.hid e2
      rw [← hdg] at b1 ⊢
      clear hdg AD HC HW TOP SUM DA DB D0 e1 e2
      have r4 : dg % 4294967296 = dg := by omega
      have hK : K ≤ 8 := by omega
      clear hmx hi hx hy b1
      go_wp2_with (first
        | (go_at_call 81; first
            | ((with_reducible refine KA.out.mono ?_); rintro e w1 ⟨rfl, he⟩; subst he)
            | ((with_reducible refine KB.out.mono ?_); rintro e w1 ⟨rfl, he⟩; subst he))
        | (at_builtin; refine wpList_append_lies _ rfl _ _ 71 rfl w.heap.size 106 i0 (.int .u32 0) 1 4 Tryd.underlying71 hinf hz0 hz1 hz2 rfl (by decide) _ K (digs s K) rfl (hD.out.own.alloc _) ⟨_, 0, none⟩ 1 1 [.int .u32 dg] rfl rfl (news1 _ _ _) (by simp [Value.oneCell']) (by omega) (HML.out K (by omega)) (by omega) (by simp; omega) _ rfl ?_)
        | go_in)
      intro g cap w1 hown hgrow hat hlt
      have hD2 := Lib.hid (hD.out.push (by rw [← HDG.out]; exact hown) hgrow)
      clear hown hgrow hat hlt hD
      obtain ⟨a2, c2, e6, h6, h7, h8⟩ := hD2.out.nat
      have hfr := (hD2.out.own.lt g rfl).1
      simp only [Value.slice.injEq] at e6
      obtain ⟨rfl, -, rfl⟩ := e6
      have HN := Lib.hid h8
      have H7 := Lib.hid h7
      have h9 := hD2.out.below
      clear h8 h7 hB0 hba
      go_wp2_with fail
      ((with_reducible refine (TR.out (K + 1) cap _ (by omega) h6 H7.out E2.out _ HN.out).mono ?_); rintro e w2 ⟨rfl, hb2⟩)
      have HR := Lib.hid ((HN.out.less E2.out).later hb2)
      go_wp2
      go_returns
      exact ⟨_, _, rfl, HR.out, by (repeat' first | (with_reducible first | exact Bq0 | assumption | refine Bq1 ?_ | refine Bq2 ?_ | refine Bq3 ?_ ?_ | refine Bq4 ?_ (by assumption)) | go_size), fun p hp => by cases hp; exact hfr⟩
set_option maxHeartbeats 2000000 in
theorem nminus_any (m n c d : Nat) (a b : Option Addr) (hle : n ≤ m) (hm : m < 2 ^ 256) (w : World) (h : NatAt w a m (nl m)) (h' : NatAt w b n (nl n)) :
    Calls Tryd.prog 63 #[.slice a (nl m) c, .slice b (nl n) d] w fun e w' => ∃ a' c', e = .returned (.slice a' (nl (m - n)) c') ∧ NatAt w' a' (m - n) (nl (m - n)) ∧ Below w.heap.size w w' ∧ (∀ p, a' = some p → w.heap.size ≤ p.block) := by
  have hm8 : nl m ≤ 8 := nl_lt256.2 hm
  have hn8 : nl n ≤ 8 := Nat.le_trans (nl_mono hle) hm8
  have AD := Lib.hid (fun i (hi : i < 8) => sub_hw m n i (Nat.le_trans hle (Nat.le_add_right _ _)) hi)
  rw [df_sub hle hm] at AD
  have HC := Lib.hid (fun i => hb_bit m n i)
  have HW := Lib.hid (show ∀ x i, 0 ≤ hw x i ∧ hw x i ≤ 4294967295 from fun x i => ⟨hw_lo x i, hw_hi x i⟩)
  have SUM := Lib.hid (nl_mono (Nat.sub_le m n))
  have DA := Lib.hid (fun (i : Nat) (hi : i ≤ 64) x (hb : Below w.heap.size w x) => ndigit_any m i c a (by omega) hi x (h.later hb))
  have DB := Lib.hid (fun (i : Nat) (hi : i ≤ 64) x (hb : Below w.heap.size w x) => ndigit_any n i d b (by omega) hi x (h'.later hb))
  have TR := Lib.hid (fun k c a (hk : k ≤ 64) (hkc : k ≤ c) (hcm : c ≤ maxLen) hl w h => ntrim_any (m - n) k c a hk hkc hcm hl w h)
  have C0 := hb_zero m n
  have D0 := Lib.hid (Dg.start w (m - n))
  have HML := Lib.hid (show ∀ q : Nat, q ≤ 1000 → q + 1 ≤ maxLen from fun q hq => by unfold maxLen; omega)
  obtain ⟨i0, hinf, hz0, hz1, hz2⟩ := info_parts infoU
  clear hm h h' hle
  generalize m - n = s at *
  generalize nl m = x at *
  generalize nl n = y at *
  go_enter Tryd.func63, Tryd.ntmps63
  go_wp2
  go_loopg [5, 6, 7] x (fun gg ov cv iv wr => ∃ i : Nat, i ≤ x ∧ x - i ≤ gg ∧ iv = .int .i64 (i : Int) ∧ cv = .int .u64 (hb m n i) ∧ Hid (Dg w.heap.size w wr ov s i))
  case atStart => exact ⟨0, by omega, by omega, rfl, by rw [C0], D0⟩
  case round =>
    obtain ⟨i, hi, hgi, rfl, rfl, hD⟩ := hrel
    have hB0 := hD.out.below
    have hba := hD.out.base
    by_cases hlt : i < x
    · have hi8 : i < 8 := by omega
      have A := AD.out i hi8
      have b1 := HC.out i
      have b2 := HC.out (i + 1)
      have b3 := HW.out m i
      have b4 := HW.out n i
      have b5 := HW.out s i
      have KA := Lib.hid (DA.out i (by omega) wr hB0)
      have KB := Lib.hid (DB.out i (by omega) wr hB0)
      have hD' := hD
      have e5 : ∃ z, z = hw s i := ⟨_, rfl⟩
      obtain ⟨dg, hdg⟩ := e5
      have HDG := Lib.hid hdg
      rw [← hdg] at A b5
      clear hdg hD AD HC HW SUM DA DB TR D0
      generalize hw m i = p at *
      generalize hw n i = q at *
      generalize hb m n i = cc at *
      generalize hcn : hb m n (i + 1) = cn at *
      have HCN := Lib.hid hcn
      clear hcn
      have r0 : IntKind.u64.wrap (4294967296 + p) = 4294967296 + p := by rw [IntKind.wrap_u64]; omega
      have r1 : IntKind.u64.wrap (4294967296 + p - q) = 4294967296 + p - q := by rw [IntKind.wrap_u64]; omega
      have r2 : IntKind.u64.wrap (4294967296 + p - q - cc) = 4294967296 + p - q - cc := by rw [IntKind.wrap_u64]; omega
      have r3 : bits .and .u64 (4294967296 + p - q - cc) 4294967295 = dg := by rw [low32 _ (by omega) (by omega), ← A.1]
      have r4 : dg % 4294967296 = dg := by omega
      have r5 : IntKind.u64.wrap (1 - (4294967296 + p - q - cc) / 4294967296) = cn := by rw [A.2, IntKind.wrap_u64]; omega
      clear A b1 b2 b3 b4 b5 C0
      have hil : (x : Int) ≤ 8 ∧ (y : Int) ≤ 8 := by omega
      have g1 : (i : Int) < (x : Int) := by omega
      go_wp2_with (first
        | (go_at_call 81; first
            | ((with_reducible refine KA.out.mono ?_); rintro e w1 ⟨rfl, he⟩; subst he)
            | ((with_reducible refine KB.out.mono ?_); rintro e w1 ⟨rfl, he⟩; subst he))
        | (at_builtin; refine wpList_append_lies _ rfl _ _ 71 rfl w.heap.size 106 i0 (.int .u32 0) 1 4 Tryd.underlying71 hinf hz0 hz1 hz2 rfl (by decide) _ i (digs s i) rfl (hD'.out.own.alloc _) ⟨_, 0, none⟩ 1 1 [.int .u32 dg] rfl rfl (news1 _ _ _) (by simp [Value.oneCell']) (by omega) (HML.out i (by omega)) (by omega) (by simp; omega) _ rfl ?_)
        | go_in)
      intro g cap w1 hown hgrow hat hlt
      have hD2 := Lib.hid (hD'.out.push (by rw [← HDG.out]; exact hown) hgrow)
      clear hown hgrow hat hlt hD' hB0 hba KA KB
      go_wp2
      go_roundg (x - (i + 1))
      case rel => exact ⟨i + 1, by omega, by omega, by go_num, by rw [HCN.out], hD2⟩
      case measure => omega
    · obtain rfl : i = x := by omega
      have g1 : ¬ (i : Int) < (i : Int) := by omega
      obtain ⟨a2, c2, rfl, h6, h7, h8⟩ := hD.out.nat
      have hfr : ∀ p, a2 = some p → w.heap.size ≤ p.block := fun p hp => (hD.out.own.lt p.block (by rw [hp]; rfl)).1
      have HFR := Lib.hid hfr
      clear hfr
      have HN := Lib.hid h8
      have H7 := Lib.hid h7
      clear h8 h7 hba AD HC HW DA DB D0
      go_wp2_with fail
      ((with_reducible refine (TR.out i c2 _ (by omega) h6 H7.out SUM.out _ HN.out).mono ?_); rintro e w2 ⟨rfl, hb2⟩)
      have HR := Lib.hid ((HN.out.less SUM.out).later hb2)
      go_wp2
      go_returns
      exact ⟨_, _, rfl, HR.out, by (repeat' first | (with_reducible first | exact Bq0 | assumption | refine Bq1 ?_ | refine Bq2 ?_ | refine Bq3 ?_ ?_ | refine Bq4 ?_ (by assumption)) | go_size), HFR.out⟩
end Go.Proofs.YthikaimhmpenhaaDoor
