/-
  What the reference's join, plus and minus return, for all inputs.
-/
import Derived.Test.YtnbdccobfmlhbaaDoorRefA
import Derived.Test.YtnbdccobfmlhbaaDoorHMulM
namespace Go.Proofs.YtnbdccobfmlhbaaDoor
set_option linter.all false
open Go Go.RowKit Wd
set_option maxRecDepth 100000
/-- The sum in round i of plus, the difference in round i of minus. -/
@[irreducible] def ps (a b i : Nat) : Int := hc a b i + hw a i + hw b i
@[irreducible] def ms (a b i : Nat) : Int := 4294967296 + hw a i - hw b i - hb a b i
/-- Whether a number is too great. -/
@[irreducible] def ovB (n : Nat) : Bool := decide (2 ^ 256 ≤ n)
theorem ps_wrap (a b i : Nat) : IntKind.u64.wrap (IntKind.u64.wrap (hc a b i + hw a i) + hw b i) = ps a b i := by
  have h1 := hc_bit a b i
  have h2 := hw_lo a i
  have h3 := hw_hi a i
  have h4 := hw_lo b i
  have h5 := hw_hi b i
  unfold ps
  rw [IntKind.wrap_u64, IntKind.wrap_u64]
  omega
theorem ps_rest (a b i : Nat) (hi : i < 8) : (ps a b i).tmod 4294967296 = hw (sm a b) i := by
  have h1 := hc_bit a b i
  have h2 := hw_lo a i
  have h4 := hw_lo b i
  unfold ps
  rw [Int.tmod_eq_emod_of_nonneg (by omega), (add_hw a b i hi).1]
theorem ps_carry (a b i : Nat) (hi : i < 8) : IntKind.u64.wrap ((ps a b i).tdiv 4294967296) = hc a b (i + 1) := by
  have h1 := hc_bit a b i
  have h2 := hw_lo a i
  have h4 := hw_lo b i
  have h6 := hc_bit a b (i + 1)
  unfold ps
  rw [Int.tdiv_eq_ediv_of_nonneg (by omega), (add_hw a b i hi).2, IntKind.wrap_u64]
  omega
theorem ms_wrap (a b i : Nat) : IntKind.u64.wrap (IntKind.u64.wrap (IntKind.u64.wrap (4294967296 + hw a i) - hw b i) - hb a b i) = ms a b i := by
  have h1 := hb_bit a b i
  have h2 := hw_lo a i
  have h3 := hw_hi a i
  have h4 := hw_lo b i
  have h5 := hw_hi b i
  unfold ms
  rw [IntKind.wrap_u64, IntKind.wrap_u64, IntKind.wrap_u64]
  omega
theorem ms_rest (a b i : Nat) (hle : b ≤ a + 2 ^ 256) (hi : i < 8) : (ms a b i).tmod 4294967296 = hw (df a b) i := by
  have h1 := hb_bit a b i
  have h2 := hw_lo a i
  have h4 := hw_hi b i
  unfold ms
  rw [Int.tmod_eq_emod_of_nonneg (by omega), (sub_hw a b i hle hi).1]
theorem ms_borrow (a b i : Nat) (hle : b ≤ a + 2 ^ 256) (hi : i < 8) : IntKind.u64.wrap (1 - IntKind.u64.wrap ((ms a b i).tdiv 4294967296)) = hb a b (i + 1) := by
  have h1 := hb_bit a b i
  have h2 := hw_lo a i
  have h3 := hw_hi a i
  have h4 := hw_hi b i
  have h5 := hw_lo b i
  have h6 := hb_bit a b (i + 1)
  have h7 := (sub_hw a b i hle hi).2
  unfold ms
  rw [Int.tdiv_eq_ediv_of_nonneg (by omega), IntKind.wrap_u64, IntKind.wrap_u64]
  omega
theorem ov_carry {a b : Nat} (ha : a < 2 ^ 256) (hb : b < 2 ^ 256) : decide (0 < hc a b 8) = ovB (a + b) := by
  unfold ovB
  rw [hc_eight ha hb]
  by_cases h : a + b < 2 ^ 256
  · rw [if_pos h]; simp; omega
  · rw [if_neg h]; simp; omega
theorem get_half8 (b j : Nat) (hj : j < 8) : (#[.int .u64 (hw (b) 0), .int .u64 (hw (b) 1), .int .u64 (hw (b) 2), .int .u64 (hw (b) 3), .int .u64 (hw (b) 4), .int .u64 (hw (b) 5), .int .u64 (hw (b) 6), .int .u64 (hw (b) 7)] : Array Value)[j]? = some (.int .u64 (hw b j)) := by
  match j, hj with
  | 0, _ | 1, _ | 2, _ | 3, _ | 4, _ | 5, _ | 6, _ | 7, _ => rfl
theorem get_half8_out (b j : Nat) (hj : 8 ≤ j) : (#[.int .u64 (hw (b) 0), .int .u64 (hw (b) 1), .int .u64 (hw (b) 2), .int .u64 (hw (b) 3), .int .u64 (hw (b) 4), .int .u64 (hw (b) 5), .int .u64 (hw (b) 6), .int .u64 (hw (b) 7)] : Array Value)[j]? = none := by
  simp; omega
theorem set_half8 {w : World} {B T s v : Nat} {x : Int} (hs : s < 8) (hx : x = (v : Int)) (hv : v < 4294967296) (h : ∀ o, w.cell? ⟨B, o, none⟩ = (#[.int .u64 (hw (T) 0), .int .u64 (hw (T) 1), .int .u64 (hw (T) 2), .int .u64 (hw (T) 3), .int .u64 (hw (T) 4), .int .u64 (hw (T) 5), .int .u64 (hw (T) 6), .int .u64 (hw (T) 7)] : Array Value)[o]?) :
    ∀ o, (w.setCell ⟨B, s, none⟩ (.int .u64 x)).cell? ⟨B, o, none⟩ = (#[.int .u64 (hw (seth T s v) 0), .int .u64 (hw (seth T s v) 1), .int .u64 (hw (seth T s v) 2), .int .u64 (hw (seth T s v) 3), .int .u64 (hw (seth T s v) 4), .int .u64 (hw (seth T s v) 5), .int .u64 (hw (seth T s v) 6), .int .u64 (hw (seth T s v) 7)] : Array Value)[o]? := by
  intro o
  subst hx
  by_cases ho : o = s
  · subst ho
    rw [World.cell?_setCell_same _ _ _ (u := .int .u64 (hw T o)) (by rw [h, get_half8 T o hs]), get_half8 _ o hs, hw_set_same T o v hv]
  · rw [World.cell?_setCell_other _ _ _ _ (by intro e; exact ho (congrArg Addr.off e).symm), h]
    by_cases h8 : o < 8
    · rw [get_half8 T o h8, get_half8 _ o h8]
      rcases Nat.lt_or_gt_of_ne ho with h1 | h1
      · rw [hw_set_low T s v o h1]
      · rw [hw_set_high T s v o hv h1]
    · rw [get_half8_out T o (by omega), get_half8_out _ o (by omega)]
theorem set_away {w : World} {B B' s : Nat} {v : Value} {xs : Array Value} (hB : B ≠ B') (h : ∀ o, w.cell? ⟨B', o, none⟩ = xs[o]?) : ∀ o, (w.setCell ⟨B, s, none⟩ v).cell? ⟨B', o, none⟩ = xs[o]? := by
  intro o
  rw [World.cell?_setCell_other _ _ _ _ (by intro e; exact hB (congrArg Addr.block e)), h]
/-- A number whose first k half-words are those of c, and the others those of a. -/
structure Mix (c a k S : Nat) : Prop where
  low : ∀ o, o < k → hw S o = hw c o
  high : ∀ o, k ≤ o → hw S o = hw a o
theorem Mix.start (c a : Nat) : Mix c a 0 a := ⟨fun o h => by omega, fun o _ => rfl⟩
theorem Mix.next {c a k S : Nat} (h : Mix c a k S) : Mix c a (k + 1) (seth S k (hn c k)) := by
  refine ⟨fun o ho => ?_, fun o ho => ?_⟩
  · rcases (by omega : o = k ∨ o < k) with rfl | h1
    · rw [hw_set_same _ _ _ (hn_lt _ _), hw_hn c]
    · rw [hw_set_low _ _ _ _ h1, h.low o h1]
  · rw [hw_set_high _ _ _ _ (hn_lt _ _) (by omega), h.high o (by omega)]
theorem Mix.done {c a S : Nat} (h : Mix c a 8 S) : (#[.int .u64 (hw (S) 0), .int .u64 (hw (S) 1), .int .u64 (hw (S) 2), .int .u64 (hw (S) 3), .int .u64 (hw (S) 4), .int .u64 (hw (S) 5), .int .u64 (hw (S) 6), .int .u64 (hw (S) 7)] : Array Value) = #[.int .u64 (hw (c) 0), .int .u64 (hw (c) 1), .int .u64 (hw (c) 2), .int .u64 (hw (c) 3), .int .u64 (hw (c) 4), .int .u64 (hw (c) 5), .int .u64 (hw (c) 6), .int .u64 (hw (c) 7)] := by
  rw [h.low 0 (by omega), h.low 1 (by omega), h.low 2 (by omega), h.low 3 (by omega), h.low 4 (by omega), h.low 5 (by omega), h.low 6 (by omega), h.low 7 (by omega)]
/-- The call's own memory while it adds or subtracts. -/
def TwoMem (w : World) (b S : Nat) (wr : World) : Prop :=
  (∀ o, wr.cell? ⟨w.heap.size, o, none⟩ = (#[.int .u64 (hw (S) 0), .int .u64 (hw (S) 1), .int .u64 (hw (S) 2), .int .u64 (hw (S) 3), .int .u64 (hw (S) 4), .int .u64 (hw (S) 5), .int .u64 (hw (S) 6), .int .u64 (hw (S) 7)] : Array Value)[o]?) ∧ (∀ o, wr.cell? ⟨w.heap.size + 1, o, none⟩ = (#[.int .u64 (hw (b) 0), .int .u64 (hw (b) 1), .int .u64 (hw (b) 2), .int .u64 (hw (b) 3), .int .u64 (hw (b) 4), .int .u64 (hw (b) 5), .int .u64 (hw (b) 6), .int .u64 (hw (b) 7)] : Array Value)[o]?)
  ∧ (∀ o, wr.cell? ⟨w.heap.size + 1 + 1, o, none⟩ = (#[.int .u64 0, .int .u64 0, .int .u64 0, .int .u64 0, .int .u64 0, .int .u64 0, .int .u64 0, .int .u64 0] : Array Value)[o]?)
  ∧ (∀ o, wr.frozen? ⟨w.heap.size, o, none⟩ = false) ∧ (∀ o, wr.frozen? ⟨w.heap.size + 1 + 1, o, none⟩ = false)
  ∧ w.heap.size + 1 + 1 < wr.heap.size ∧ Below w.heap.size w wr
theorem TwoMem.set {w wr : World} {b S j v : Nat} {x : Int} (hj : j < 8) (hx : x = (v : Int)) (hv : v < 4294967296) (h : TwoMem w b S wr) :
    TwoMem w b (seth S j v) (wr.setCell ⟨w.heap.size, j, none⟩ (.int .u64 x)) := by
  obtain ⟨c0, c1, c2, f0, f2, z, hb⟩ := h
  exact ⟨set_half8 hj hx hv c0, set_away (by omega) c1, set_away (by omega) c2, fun o => by rw [World.frozen?_setCell]; exact f0 o, fun o => by rw [World.frozen?_setCell]; exact f2 o, by simpa using z, hb.setCell (by simp) _⟩
theorem TwoMem.drew {w wr : World} {b S : Nat} (h : TwoMem w b S wr) : TwoMem w b S wr.drew := by
  obtain ⟨c0, c1, c2, f0, f2, z, hb⟩ := h
  exact ⟨c0, c1, c2, f0, f2, z, hb.drew⟩
set_option maxHeartbeats 1000000 in
/-- plus: the sum, and whether it is too great. -/
theorem rplus_any (a b : Nat) (ha : a < 2 ^ 256) (hb : b < 2 ^ 256) (w : World) :
    Calls Tryd.prog 50 #[(.agg #[.int .u64 (hw (a) 0), .int .u64 (hw (a) 1), .int .u64 (hw (a) 2), .int .u64 (hw (a) 3), .int .u64 (hw (a) 4), .int .u64 (hw (a) 5), .int .u64 (hw (a) 6), .int .u64 (hw (a) 7)]), (.agg #[.int .u64 (hw (b) 0), .int .u64 (hw (b) 1), .int .u64 (hw (b) 2), .int .u64 (hw (b) 3), .int .u64 (hw (b) 4), .int .u64 (hw (b) 5), .int .u64 (hw (b) 6), .int .u64 (hw (b) 7)])] w fun e w' => e = .returned (.tuple #[(.agg #[.int .u64 (hw (sm a b) 0), .int .u64 (hw (sm a b) 1), .int .u64 (hw (sm a b) 2), .int .u64 (hw (sm a b) 3), .int .u64 (hw (sm a b) 4), .int .u64 (hw (sm a b) 5), .int .u64 (hw (sm a b) 6), .int .u64 (hw (sm a b) 7)]), .bool (ovB (a + b))]) ∧ Below w.heap.size w w' := by
  have HOV := Lib.hid (ov_carry ha hb)
  clear ha hb
  go_enter Tryd.func50, Tryd.ntmps50
  go_wp2
  go_loopw [6, 7] (fun c i wr => ∃ k S : Nat, k ≤ 8 ∧ i = .int .i64 k ∧ c = .int .u64 (hc a b k) ∧ Mix (sm a b) a k S ∧ TwoMem w b S wr) (fun _ i _ => 8 - (intOf i).toNat)
  case atStart =>
    refine ⟨0, a, by omega, rfl, by rw [hc_zero], Mix.start _ _, ?_⟩
    exact ⟨fun o => by simp [go_sem], fun o => by simp [go_sem], fun o => by simp [go_sem], fun o => by simp [go_sem], fun o => by simp [go_sem], by simp, by go_grown⟩
  case round =>
    obtain ⟨k, S, hk, rfl, rfl, HX, HM⟩ := hrel
    by_cases hlt : k < 8
    · have ca : wr.cell? ⟨w.heap.size, k, none⟩ = some (.int .u64 (hw a k)) := by rw [HM.1, get_half8 S k hlt, HX.high k (by omega)]
      have cb : wr.cell? ⟨w.heap.size + 1, k, none⟩ = some (.int .u64 (hw b k)) := by rw [HM.2.1, get_half8 b k hlt]
      have fa := HM.2.2.2.1 k
      have s0 := ps_wrap a b k
      have r0 := ps_rest a b k hlt
      have t0 : IntKind.u64.wrap ((ps a b k).tdiv 4294967296) = hc a b (k + 1) := ps_carry a b k hlt
      have HX' := Lib.hid HX
      have HM' := Lib.hid HM
      clear HX HM
      go_wp2
      go_region
      go_wp2
      go_roundw
      case rel => exact ⟨k + 1, _, by omega, by go_num, rfl, HX'.out.next, HM'.out.drew.set hlt (hw_hn _ _) (hn_lt _ _)⟩
      case measure => simp [intOf]; omega
    · obtain rfl : k = 8 := by omega
      obtain ⟨c0, c1, c2, f0, f2, hz, hb⟩ := HM
      rw [HX.done] at c0
      have hov := HOV.out
      clear hlt hk
      go_wp2_with ((with_reducible show bodyPost _ _ _ _ _ _); refine bodyPost_ret (by simp [results, Tryd.results50, go_sem, hov, c0, c2, hz]; try rfl) rfl ?_; exact ⟨rfl, by (repeat' (first | (with_reducible exact Below.refl _ _) | (with_reducible assumption) | (with_reducible refine below_alloc ?_ _) | (with_reducible refine Below.drew ?_) | (with_reducible refine Below.setCell ?_ ?_ _) | (with_reducible refine below_after ?_ (by assumption)) | go_size))⟩)
set_option maxHeartbeats 1000000 in
/-- minus: the difference, with 2^256 added if it is below 0. -/
theorem rminus_any (a b : Nat) (hle : b ≤ a + 2 ^ 256) (w : World) :
    Calls Tryd.prog 51 #[(.agg #[.int .u64 (hw (a) 0), .int .u64 (hw (a) 1), .int .u64 (hw (a) 2), .int .u64 (hw (a) 3), .int .u64 (hw (a) 4), .int .u64 (hw (a) 5), .int .u64 (hw (a) 6), .int .u64 (hw (a) 7)]), (.agg #[.int .u64 (hw (b) 0), .int .u64 (hw (b) 1), .int .u64 (hw (b) 2), .int .u64 (hw (b) 3), .int .u64 (hw (b) 4), .int .u64 (hw (b) 5), .int .u64 (hw (b) 6), .int .u64 (hw (b) 7)])] w fun e w' => e = .returned (.agg #[.int .u64 (hw (df a b) 0), .int .u64 (hw (df a b) 1), .int .u64 (hw (df a b) 2), .int .u64 (hw (df a b) 3), .int .u64 (hw (df a b) 4), .int .u64 (hw (df a b) 5), .int .u64 (hw (df a b) 6), .int .u64 (hw (df a b) 7)]) ∧ Below w.heap.size w w' := by
  have HLE := Lib.hid hle
  clear hle
  go_enter Tryd.func51, Tryd.ntmps51
  go_wp2
  go_loopw [5, 6] (fun c i wr => ∃ k S : Nat, k ≤ 8 ∧ i = .int .i64 k ∧ c = .int .u64 (hb a b k) ∧ Mix (df a b) a k S ∧ TwoMem w b S wr) (fun _ i _ => 8 - (intOf i).toNat)
  case atStart =>
    refine ⟨0, a, by omega, rfl, by rw [hb_zero], Mix.start _ _, ?_⟩
    exact ⟨fun o => by simp [go_sem], fun o => by simp [go_sem], fun o => by simp [go_sem], fun o => by simp [go_sem], fun o => by simp [go_sem], by simp, by go_grown⟩
  case round =>
    obtain ⟨k, S, hk, rfl, rfl, HX, HM⟩ := hrel
    by_cases hlt : k < 8
    · have ca : wr.cell? ⟨w.heap.size, k, none⟩ = some (.int .u64 (hw a k)) := by rw [HM.1, get_half8 S k hlt, HX.high k (by omega)]
      have cb : wr.cell? ⟨w.heap.size + 1, k, none⟩ = some (.int .u64 (hw b k)) := by rw [HM.2.1, get_half8 b k hlt]
      have fa := HM.2.2.2.1 k
      have s0 := ms_wrap a b k
      have r0 := ms_rest a b k HLE.out hlt
      have t0 : IntKind.u64.wrap (1 - IntKind.u64.wrap ((ms a b k).tdiv 4294967296)) = hb a b (k + 1) := ms_borrow a b k HLE.out hlt
      have HX' := Lib.hid HX
      have HM' := Lib.hid HM
      clear HX HM
      go_wp2
      go_region
      go_wp2
      go_roundw
      case rel => exact ⟨k + 1, _, by omega, by go_num, rfl, HX'.out.next, HM'.out.drew.set hlt (hw_hn _ _) (hn_lt _ _)⟩
      case measure => simp [intOf]; omega
    · obtain rfl : k = 8 := by omega
      obtain ⟨c0, c1, c2, f0, f2, hz, hb⟩ := HM
      rw [HX.done] at c0
      clear hlt hk
      go_wp2_with ((with_reducible show bodyPost _ _ _ _ _ _); refine bodyPost_ret (by simp [results, Tryd.results51, go_sem, c0, c2, hz]; try rfl) rfl ?_; exact ⟨rfl, by (repeat' (first | (with_reducible exact Below.refl _ _) | (with_reducible assumption) | (with_reducible refine below_alloc ?_ _) | (with_reducible refine Below.drew ?_) | (with_reducible refine Below.setCell ?_ ?_ _) | (with_reducible refine below_after ?_ (by assumption)) | go_size))⟩)
theorem join_wrap (a i : Nat) : IntKind.u64.wrap (hw a (2 * i) + IntKind.u64.wrap (4294967296 * hw a (2 * i + 1))) = wd a i := by
  have h1 := hw_lo a (2 * i)
  have h2 := hw_hi a (2 * i)
  have h3 := hw_lo a (2 * i + 1)
  have h4 := hw_hi a (2 * i + 1)
  rw [← wd_halves a i, IntKind.wrap_u64, IntKind.wrap_u64]
  omega
set_option maxHeartbeats 1000000 in
/-- join: the valid number with a sign and a magnitude. -/
theorem join_any (s : Bool) (a : Nat) (ha : a < 2 ^ 256) (w : World) :
    Calls Tryd.prog 44 #[.bool s, (.agg #[.int .u64 (hw (a) 0), .int .u64 (hw (a) 1), .int .u64 (hw (a) 2), .int .u64 (hw (a) 3), .int .u64 (hw (a) 4), .int .u64 (hw (a) 5), .int .u64 (hw (a) 6), .int .u64 (hw (a) 7)])] w fun e w' => e = .returned (.agg #[.bool (zs (val s a)), .int .u64 (wd (Int.natAbs (val s a)) 0), .int .u64 (wd (Int.natAbs (val s a)) 1), .int .u64 (wd (Int.natAbs (val s a)) 2), .int .u64 (wd (Int.natAbs (val s a)) 3)]) ∧ Below w.heap.size w w' := by
  rw [zs_val s a, abs_val s a]
  have K := Lib.hid (zero_any a ha)
  clear ha
  have j0 : IntKind.u64.wrap (hw a 0 + IntKind.u64.wrap (4294967296 * hw a 1)) = wd a 0 := join_wrap a 0
  have j1 : IntKind.u64.wrap (hw a 2 + IntKind.u64.wrap (4294967296 * hw a 3)) = wd a 1 := join_wrap a 1
  have j2 : IntKind.u64.wrap (hw a 4 + IntKind.u64.wrap (4294967296 * hw a 5)) = wd a 2 := join_wrap a 2
  have j3 : IntKind.u64.wrap (hw a 6 + IntKind.u64.wrap (4294967296 * hw a 7)) = wd a 3 := join_wrap a 3
  cases s
  · go_enter Tryd.func44, Tryd.ntmps44
    go_wp2
    refine wp_loop_rounds 5 ?_
    iterate 4 (rw [rounds_succ]; go_wp2; go_region; go_wp2)
    rw [rounds_succ]
    go_wp2_with ((with_reducible show bodyPost _ _ _ _ _ _); refine bodyPost_ret (by simp [results, Tryd.results44, go_sem, ]; try rfl) rfl ?_; exact ⟨rfl, by (repeat' (first | (with_reducible exact Below.refl _ _) | (with_reducible assumption) | (with_reducible refine below_alloc ?_ _) | (with_reducible refine Below.drew ?_) | (with_reducible refine Below.setCell ?_ ?_ _) | (with_reducible refine below_after ?_ (by assumption)) | go_size))⟩)
  · go_enter Tryd.func44, Tryd.ntmps44
    go_wp2
    refine wp_loop_rounds 5 ?_
    iterate 4 (rw [rounds_succ]; go_wp2; go_region; go_wp2)
    rw [rounds_succ]
    go_wp2_with fail
    ((with_reducible refine (K.out _).mono ?_); rintro e w1 ⟨rfl, hb1⟩)
    obtain ⟨hc1, hf1⟩ := bcell hb1
    have hz1_w_0 : w.heap.size < w1.heap.size := by have h := hb1.size; (try simp at h); omega
    have hz1_w_1 : w.heap.size + 1 < w1.heap.size := by have h := hb1.size; (try simp at h); omega
    have hz1_w_2 : w.heap.size + 1 + 1 < w1.heap.size := by have h := hb1.size; (try simp at h); omega
    go_wp2_with ((with_reducible show bodyPost _ _ _ _ _ _); refine bodyPost_ret (by simp [results, Tryd.results44, go_sem, hc1, hf1, hz1_w_0, hz1_w_1, hz1_w_2]; try rfl) rfl ?_; exact ⟨rfl, by (repeat' (first | (with_reducible exact Below.refl _ _) | (with_reducible assumption) | (with_reducible refine below_alloc ?_ _) | (with_reducible refine Below.drew ?_) | (with_reducible refine Below.setCell ?_ ?_ _) | (with_reducible refine below_after ?_ (by assumption)) | go_size))⟩)
end Go.Proofs.YtnbdccobfmlhbaaDoor
