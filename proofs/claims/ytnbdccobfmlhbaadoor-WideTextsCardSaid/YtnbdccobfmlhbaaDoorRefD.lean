/-
  What the reference's times returns, for all inputs.
-/
import Derived.Test.YtnbdccobfmlhbaaDoorRefC
namespace Go.Proofs.YtnbdccobfmlhbaaDoor
set_option linter.all false
open Go Go.RowKit Wd
set_option maxRecDepth 100000
/-- A product of four-word numbers: what is left of it; whether its half-words from the ninth on, k of them, are not all 0. -/
@[irreducible] def pm (a b : Nat) : Nat := (a * b) % 2 ^ 256
theorem pm_lt (a b : Nat) : pm a b < 2 ^ 256 := by unfold pm; exact Nat.mod_lt _ (by decide)
theorem pm_eq {a b : Nat} (h : a * b < 2 ^ 256) : pm a b = a * b := by unfold pm; exact Nat.mod_eq_of_lt h
def ovK (P : Nat) : Nat → Bool
  | 0 => false
  | k + 1 => ovK P k || decide (0 < hw P (k + 8))
theorem ovK_done {a b : Nat} (ha : a < 2 ^ 256) (hb : b < 2 ^ 256) : ovK (a * b) 8 = ovB (a * b) := by
  have hP : a * b / 2 ^ 256 < 2 ^ 256 := by
    have hp : 0 < 2 ^ 256 := Nat.pow_pos (by omega)
    generalize 2 ^ 256 = M at *
    rw [Nat.div_lt_iff_lt_mul hp]
    exact Nat.mul_lt_mul_of_lt_of_le ha (Nat.le_of_lt hb) hp
  generalize a * b = P at *
  have e : ∀ i, hw P (i + 8) = hw (P / 2 ^ 256) i := fun i => by rw [Nat.add_comm i 8]; exact hw_high P i
  have hlo : ∀ i, 0 ≤ hw (P / 2 ^ 256) i := fun i => hw_lo _ i
  have hno := hw_none (P / 2 ^ 256) hP
  unfold ovB
  rw [Bool.eq_iff_iff]
  simp only [ovK, e, Bool.or_eq_true, decide_eq_true_eq, Bool.false_eq_true, false_or]
  have hp : 2 ^ 256 ≤ P ↔ P / 2 ^ 256 ≠ 0 := by
    rw [ne_eq, Nat.div_eq_zero_iff]
    have : 0 < 2 ^ 256 := Nat.pow_pos (by omega)
    generalize 2 ^ 256 = M at *
    omega
  rw [hp]
  have z : ∀ i, P / 2 ^ 256 = 0 → hw (P / 2 ^ 256) i = 0 := fun i h => by rw [h]; exact hw_zero i
  constructor
  · intro h h0
    have := z 0 h0; have := z 1 h0; have := z 2 h0; have := z 3 h0; have := z 4 h0; have := z 5 h0; have := z 6 h0; have := z 7 h0
    clear z hno hp hP h0 e
    omega
  · intro h
    have h0 := hlo 0; have h1 := hlo 1; have h2 := hlo 2; have h3 := hlo 3; have h4 := hlo 4; have h5 := hlo 5; have h6 := hlo 6; have h7 := hlo 7
    rcases Decidable.em (hw (P / 2 ^ 256) 0 = 0 ∧ hw (P / 2 ^ 256) 1 = 0 ∧ hw (P / 2 ^ 256) 2 = 0 ∧ hw (P / 2 ^ 256) 3 = 0 ∧ hw (P / 2 ^ 256) 4 = 0 ∧ hw (P / 2 ^ 256) 5 = 0 ∧ hw (P / 2 ^ 256) 6 = 0 ∧ hw (P / 2 ^ 256) 7 = 0) with hz | hz
    · exact absurd (hno hz.1 hz.2.1 hz.2.2.1 hz.2.2.2.1 hz.2.2.2.2.1 hz.2.2.2.2.2.1 hz.2.2.2.2.2.2.1 hz.2.2.2.2.2.2.2) h
    · clear z hno hp hP e hlo h
      omega
theorem get_half16 (b j : Nat) (hj : j < 16) : (#[.int .u64 (hw (b) 0), .int .u64 (hw (b) 1), .int .u64 (hw (b) 2), .int .u64 (hw (b) 3), .int .u64 (hw (b) 4), .int .u64 (hw (b) 5), .int .u64 (hw (b) 6), .int .u64 (hw (b) 7), .int .u64 (hw (b) 8), .int .u64 (hw (b) 9), .int .u64 (hw (b) 10), .int .u64 (hw (b) 11), .int .u64 (hw (b) 12), .int .u64 (hw (b) 13), .int .u64 (hw (b) 14), .int .u64 (hw (b) 15)] : Array Value)[j]? = some (.int .u64 (hw b j)) := by
  rcases (by omega : j = 0 ∨ j = 1 ∨ j = 2 ∨ j = 3 ∨ j = 4 ∨ j = 5 ∨ j = 6 ∨ j = 7 ∨ j = 8 ∨ j = 9 ∨ j = 10 ∨ j = 11 ∨ j = 12 ∨ j = 13 ∨ j = 14 ∨ j = 15) with rfl | rfl | rfl | rfl | rfl | rfl | rfl | rfl | rfl | rfl | rfl | rfl | rfl | rfl | rfl | rfl
  all_goals rfl
theorem get_half16_out (b j : Nat) (hj : 16 ≤ j) : (#[.int .u64 (hw (b) 0), .int .u64 (hw (b) 1), .int .u64 (hw (b) 2), .int .u64 (hw (b) 3), .int .u64 (hw (b) 4), .int .u64 (hw (b) 5), .int .u64 (hw (b) 6), .int .u64 (hw (b) 7), .int .u64 (hw (b) 8), .int .u64 (hw (b) 9), .int .u64 (hw (b) 10), .int .u64 (hw (b) 11), .int .u64 (hw (b) 12), .int .u64 (hw (b) 13), .int .u64 (hw (b) 14), .int .u64 (hw (b) 15)] : Array Value)[j]? = none := by
  simp; omega
theorem set_half16 {w : World} {B T s v : Nat} {x : Int} (hs : s < 16) (hx : x = (v : Int)) (hv : v < 4294967296) (h : ∀ o, w.cell? ⟨B, o, none⟩ = (#[.int .u64 (hw (T) 0), .int .u64 (hw (T) 1), .int .u64 (hw (T) 2), .int .u64 (hw (T) 3), .int .u64 (hw (T) 4), .int .u64 (hw (T) 5), .int .u64 (hw (T) 6), .int .u64 (hw (T) 7), .int .u64 (hw (T) 8), .int .u64 (hw (T) 9), .int .u64 (hw (T) 10), .int .u64 (hw (T) 11), .int .u64 (hw (T) 12), .int .u64 (hw (T) 13), .int .u64 (hw (T) 14), .int .u64 (hw (T) 15)] : Array Value)[o]?) :
    ∀ o, (w.setCell ⟨B, s, none⟩ (.int .u64 x)).cell? ⟨B, o, none⟩ = (#[.int .u64 (hw (seth T s v) 0), .int .u64 (hw (seth T s v) 1), .int .u64 (hw (seth T s v) 2), .int .u64 (hw (seth T s v) 3), .int .u64 (hw (seth T s v) 4), .int .u64 (hw (seth T s v) 5), .int .u64 (hw (seth T s v) 6), .int .u64 (hw (seth T s v) 7), .int .u64 (hw (seth T s v) 8), .int .u64 (hw (seth T s v) 9), .int .u64 (hw (seth T s v) 10), .int .u64 (hw (seth T s v) 11), .int .u64 (hw (seth T s v) 12), .int .u64 (hw (seth T s v) 13), .int .u64 (hw (seth T s v) 14), .int .u64 (hw (seth T s v) 15)] : Array Value)[o]? := by
  intro o
  subst hx
  by_cases ho : o = s
  · subst ho
    rw [World.cell?_setCell_same _ _ _ (u := .int .u64 (hw T o)) (by rw [h, get_half16 T o hs]), get_half16 _ o hs, hw_set_same T o v hv]
  · rw [World.cell?_setCell_other _ _ _ _ (by intro e; exact ho (congrArg Addr.off e).symm), h]
    by_cases h8 : o < 16
    · rw [get_half16 T o h8, get_half16 _ o h8]
      rcases Nat.lt_or_gt_of_ne ho with h1 | h1
      · rw [hw_set_low T s v o h1]
      · rw [hw_set_high T s v o hv h1]
    · rw [get_half16_out T o (by omega), get_half16_out _ o (by omega)]
/-- The number at one place of the product. -/
@[irreducible] def tS (x y t d : Nat) : Nat := x * y + t + d
theorem tS_le {x y t d : Nat} (hx : x < 4294967296) (hy : y < 4294967296) (ht : t < 4294967296) (hd : d < 4294967296) : tS x y t d ≤ 18446744073709551615 := by
  unfold tS
  have := Nat.mul_le_mul (Nat.le_of_lt_succ hx) (Nat.le_of_lt_succ hy)
  omega
theorem tS_wrap (a b T k j m d : Nat) (hd : d < 4294967296) : IntKind.u64.wrap (IntKind.u64.wrap ((d : Int) + hw T m) + IntKind.u64.wrap (hw a k * hw b j)) = (tS (hn a k) (hn b j) (hn T m) d : Int) := by
  have h := tS_le (hn_lt a k) (hn_lt b j) (hn_lt T m) hd
  have hm := Nat.mul_le_mul (Nat.le_of_lt_succ (hn_lt a k)) (Nat.le_of_lt_succ (hn_lt b j))
  have ht := hn_lt T m
  rw [hw_hn, hw_hn, hw_hn, ← Int.natCast_mul, IntKind.wrap_u64, IntKind.wrap_u64, IntKind.wrap_u64]
  unfold tS at *
  generalize hn a k * hn b j = p at *
  omega
/-- The call's own memory while it multiplies. -/
def ProdMem (w : World) (a b T : Nat) (wr : World) : Prop :=
  (∀ o, wr.cell? ⟨w.heap.size, o, none⟩ = (#[.int .u64 (hw (a) 0), .int .u64 (hw (a) 1), .int .u64 (hw (a) 2), .int .u64 (hw (a) 3), .int .u64 (hw (a) 4), .int .u64 (hw (a) 5), .int .u64 (hw (a) 6), .int .u64 (hw (a) 7)] : Array Value)[o]?) ∧ (∀ o, wr.cell? ⟨w.heap.size + 1, o, none⟩ = (#[.int .u64 (hw (b) 0), .int .u64 (hw (b) 1), .int .u64 (hw (b) 2), .int .u64 (hw (b) 3), .int .u64 (hw (b) 4), .int .u64 (hw (b) 5), .int .u64 (hw (b) 6), .int .u64 (hw (b) 7)] : Array Value)[o]?)
  ∧ (∀ o, wr.cell? ⟨w.heap.size + 1 + 1, o, none⟩ = (#[.int .u64 0, .int .u64 0, .int .u64 0, .int .u64 0, .int .u64 0, .int .u64 0, .int .u64 0, .int .u64 0] : Array Value)[o]?)
  ∧ (∀ o, wr.cell? ⟨w.heap.size + 1 + 1 + 1, o, none⟩ = (#[.int .u64 (hw (T) 0), .int .u64 (hw (T) 1), .int .u64 (hw (T) 2), .int .u64 (hw (T) 3), .int .u64 (hw (T) 4), .int .u64 (hw (T) 5), .int .u64 (hw (T) 6), .int .u64 (hw (T) 7), .int .u64 (hw (T) 8), .int .u64 (hw (T) 9), .int .u64 (hw (T) 10), .int .u64 (hw (T) 11), .int .u64 (hw (T) 12), .int .u64 (hw (T) 13), .int .u64 (hw (T) 14), .int .u64 (hw (T) 15)] : Array Value)[o]?)
  ∧ (∀ o, wr.frozen? ⟨w.heap.size + 1 + 1, o, none⟩ = false) ∧ (∀ o, wr.frozen? ⟨w.heap.size + 1 + 1 + 1, o, none⟩ = false)
  ∧ w.heap.size + 1 + 1 + 1 < wr.heap.size ∧ Below w.heap.size w wr
theorem ProdMem.set {w wr : World} {a b T j v : Nat} {x : Int} (hj : j < 16) (hx : x = (v : Int)) (hv : v < 4294967296) (h : ProdMem w a b T wr) :
    ProdMem w a b (seth T j v) (wr.setCell ⟨w.heap.size + 1 + 1 + 1, j, none⟩ (.int .u64 x)) := by
  obtain ⟨c0, c1, c2, c3, f2, f3, z, hb⟩ := h
  exact ⟨set_away (by omega) c0, set_away (by omega) c1, set_away (by omega) c2, set_half16 hj hx hv c3, fun o => by rw [World.frozen?_setCell]; exact f2 o, fun o => by rw [World.frozen?_setCell]; exact f3 o, by simpa using z, hb.setCell (by simp; omega) _⟩
theorem ProdMem.drew {w wr : World} {a b T : Nat} (h : ProdMem w a b T wr) : ProdMem w a b T wr.drew := by
  obtain ⟨c0, c1, c2, c3, f2, f3, z, hb⟩ := h
  exact ⟨c0, c1, c2, c3, f2, f3, z, hb.drew⟩
/-- What the last loop keeps: the product in the array, the result so far in the block B. -/
def OutMem (w : World) (B P S : Nat) (wr : World) : Prop :=
  (∀ o, wr.cell? ⟨w.heap.size + 1 + 1, o, none⟩ = (#[.int .u64 0, .int .u64 0, .int .u64 0, .int .u64 0, .int .u64 0, .int .u64 0, .int .u64 0, .int .u64 0] : Array Value)[o]?)
  ∧ (∀ o, wr.cell? ⟨w.heap.size + 1 + 1 + 1, o, none⟩ = (#[.int .u64 (hw (P) 0), .int .u64 (hw (P) 1), .int .u64 (hw (P) 2), .int .u64 (hw (P) 3), .int .u64 (hw (P) 4), .int .u64 (hw (P) 5), .int .u64 (hw (P) 6), .int .u64 (hw (P) 7), .int .u64 (hw (P) 8), .int .u64 (hw (P) 9), .int .u64 (hw (P) 10), .int .u64 (hw (P) 11), .int .u64 (hw (P) 12), .int .u64 (hw (P) 13), .int .u64 (hw (P) 14), .int .u64 (hw (P) 15)] : Array Value)[o]?)
  ∧ (∀ o, wr.cell? ⟨B, o, none⟩ = (#[.int .u64 (hw (S) 0), .int .u64 (hw (S) 1), .int .u64 (hw (S) 2), .int .u64 (hw (S) 3), .int .u64 (hw (S) 4), .int .u64 (hw (S) 5), .int .u64 (hw (S) 6), .int .u64 (hw (S) 7)] : Array Value)[o]?)
  ∧ (∀ o, wr.frozen? ⟨w.heap.size + 1 + 1, o, none⟩ = false) ∧ (∀ o, wr.frozen? ⟨B, o, none⟩ = false)
  ∧ w.heap.size + 1 + 1 + 1 < B ∧ B < wr.heap.size ∧ Below w.heap.size w wr
theorem OutMem.set {w wr : World} {B P S j v : Nat} {x : Int} (hj : j < 8) (hx : x = (v : Int)) (hv : v < 4294967296) (h : OutMem w B P S wr) :
    OutMem w B P (seth S j v) (wr.setCell ⟨B, j, none⟩ (.int .u64 x)) := by
  obtain ⟨c2, c3, c4, f2, f4, z, z', hb⟩ := h
  exact ⟨set_away (by omega) c2, set_away (by omega) c3, set_half8 hj hx hv c4, fun o => by rw [World.frozen?_setCell]; exact f2 o, fun o => by rw [World.frozen?_setCell]; exact f4 o, z, by simpa using z', hb.setCell (by simp; omega) _⟩
theorem mix_done_mod {P S : Nat} (h : Mix P 0 8 S) : (#[.int .u64 (hw (S) 0), .int .u64 (hw (S) 1), .int .u64 (hw (S) 2), .int .u64 (hw (S) 3), .int .u64 (hw (S) 4), .int .u64 (hw (S) 5), .int .u64 (hw (S) 6), .int .u64 (hw (S) 7)] : Array Value) = #[.int .u64 (hw (P % 2 ^ 256) 0), .int .u64 (hw (P % 2 ^ 256) 1), .int .u64 (hw (P % 2 ^ 256) 2), .int .u64 (hw (P % 2 ^ 256) 3), .int .u64 (hw (P % 2 ^ 256) 4), .int .u64 (hw (P % 2 ^ 256) 5), .int .u64 (hw (P % 2 ^ 256) 6), .int .u64 (hw (P % 2 ^ 256) 7)] := by
  rw [h.low 0 (by omega), h.low 1 (by omega), h.low 2 (by omega), h.low 3 (by omega), h.low 4 (by omega), h.low 5 (by omega), h.low 6 (by omega), h.low 7 (by omega)]
  rw [hw_mod P 0 (by omega), hw_mod P 1 (by omega), hw_mod P 2 (by omega), hw_mod P 3 (by omega), hw_mod P 4 (by omega), hw_mod P 5 (by omega), hw_mod P 6 (by omega), hw_mod P 7 (by omega)]
set_option maxHeartbeats 2000000 in
/-- times: the product, and whether it is too great. -/
theorem times_any (a b : Nat) (ha : a < 2 ^ 256) (hb : b < 2 ^ 256) (w : World) :
    Calls Tryd.prog 42 #[(.agg #[.int .u64 (hw (a) 0), .int .u64 (hw (a) 1), .int .u64 (hw (a) 2), .int .u64 (hw (a) 3), .int .u64 (hw (a) 4), .int .u64 (hw (a) 5), .int .u64 (hw (a) 6), .int .u64 (hw (a) 7)]), (.agg #[.int .u64 (hw (b) 0), .int .u64 (hw (b) 1), .int .u64 (hw (b) 2), .int .u64 (hw (b) 3), .int .u64 (hw (b) 4), .int .u64 (hw (b) 5), .int .u64 (hw (b) 6), .int .u64 (hw (b) 7)])] w fun e w' => e = .returned (.tuple #[(.agg #[.int .u64 (hw (pm a b) 0), .int .u64 (hw (pm a b) 1), .int .u64 (hw (pm a b) 2), .int .u64 (hw (pm a b) 3), .int .u64 (hw (pm a b) 4), .int .u64 (hw (pm a b) 5), .int .u64 (hw (pm a b) 6), .int .u64 (hw (pm a b) 7)]), .bool (ovB (a * b))]) ∧ Below w.heap.size w w' := by
  have HA := Lib.hid ha
  have HB := Lib.hid hb
  clear ha hb
  go_enter Tryd.func42, Tryd.ntmps42
  go_wp2
  go_loopw [7] (fun i wr => ∃ k : Nat, k ≤ 8 ∧ i = .int .i64 k ∧ ProdMem w a b (hrows a b k) wr) (fun i _ => 8 - (intOf i).toNat)
  case atStart =>
    refine ⟨0, by omega, rfl, ?_⟩
    rw [hrows_zero]
    refine ⟨fun o => by simp [go_sem], fun o => by simp [go_sem], fun o => by simp [go_sem], fun o => ?_, fun o => by simp [go_sem], fun o => by simp [go_sem], by simp, by go_grown⟩
    simp only [hw_zero]
    simp [go_sem]
  case round =>
    obtain ⟨k, hk, rfl, HM⟩ := hrel
    by_cases hlt : k < 8
    · obtain ⟨wo, rfl⟩ : ∃ wo : World, wo = wr := ⟨_, rfl⟩
      go_wp2
      go_loopw [8, 9] (fun c i wi => ∃ j T d : Nat, j ≤ 8 ∧ i = .int .i64 j ∧ c = .int .u64 d ∧ d < 4294967296 ∧ HRow a b k j T d ∧ ProdMem w a b T wi) (fun _ i _ => 8 - (intOf i).toNat)
      case atStart =>
        exact ⟨0, hrows a b k, 0, by omega, rfl, rfl, by omega, HRow.start HB.out, HM⟩
      case round =>
        obtain ⟨j, T, d, hj, rfl, rfl, hd, HR, HI⟩ := hrel
        by_cases hlj : j < 8
        · have ca : wr.cell? ⟨w.heap.size, k, none⟩ = some (.int .u64 (hw a k)) := by rw [HI.1, get_half8 a k hlt]
          have cb : wr.cell? ⟨w.heap.size + 1, j, none⟩ = some (.int .u64 (hw b j)) := by rw [HI.2.1, get_half8 b j hlj]
          have cd : wr.cell? ⟨w.heap.size + 1 + 1 + 1, k + j, none⟩ = some (.int .u64 (hw T (k + j))) := by rw [HI.2.2.2.1, get_half16 T (k + j) (by omega)]
          have fd : wr.frozen? ⟨w.heap.size + 1 + 1 + 1, k + j, none⟩ = false := HI.2.2.2.2.2.1 _
          have s0 := tS_wrap a b T k j (k + j) d hd
          have hV := tS_le (hn_lt a k) (hn_lt b j) (hn_lt T (k + j)) hd
          have q0 : IntKind.u64.wrap ((tS (hn a k) (hn b j) (hn T (k + j)) d : Int) / 4294967296) = ((tS (hn a k) (hn b j) (hn T (k + j)) d / 4294967296 : Nat) : Int) := by
            rw [IntKind.wrap_u64]; omega
          have HR' := Lib.hid HR
          have HI' := Lib.hid HI
          have HV := Lib.hid hV
          clear HR HI HM hV
          go_wp2
          go_region
          go_wp2
          go_roundw
          case rel =>
            refine ⟨j + 1, seth T (k + j) (tS (hn a k) (hn b j) (hn T (k + j)) d % 4294967296), tS (hn a k) (hn b j) (hn T (k + j)) d / 4294967296, by omega, by go_num, rfl, ?_, ?_, ?_⟩
            · have := HV.out; omega
            · have := HR'.out.next hlj
              unfold tS; exact this
            · exact HI'.out.drew.set (by omega) (by simp) (Nat.mod_lt _ (by omega))
          case measure => simp [intOf]; omega
        · obtain rfl : j = 8 := by omega
          have cd : wr.cell? ⟨w.heap.size + 1 + 1 + 1, k + 8, none⟩ = some (.int .u64 (hw T (k + 8))) := by rw [HI.2.2.2.1, get_half16 T (k + 8) (by omega)]
          have fd : wr.frozen? ⟨w.heap.size + 1 + 1 + 1, k + 8, none⟩ = false := HI.2.2.2.2.2.1 _
          have HR' := Lib.hid HR
          have HI' := Lib.hid HI
          clear HR HI HM
          go_wp2
          go_roundw
          case rel =>
            refine ⟨k + 1, by omega, by go_num, ?_⟩
            rw [← HRow.done HB.out HR'.out]
            exact HI'.out.set (by omega) rfl hd
          case measure => simp [intOf]; omega
    · obtain rfl : k = 8 := by omega
      rw [hrows_eight HA.out] at HM
      obtain ⟨P, hP⟩ : ∃ P, P = a * b := ⟨_, rfl⟩
      have HO : Hid (ovK P 8 = ovB (a * b)) := Lib.hid (by rw [hP]; exact ovK_done HA.out HB.out)
      have HPM : pm a b = P % 2 ^ 256 := by rw [hP]; unfold pm; rfl
      have HP := Lib.hid HPM
      rw [← hP] at HM
      clear HPM hP
      obtain ⟨wo, rfl⟩ : ∃ wo : World, wo = wr := ⟨_, rfl⟩
      have HM' := Lib.hid HM
      clear HM
      go_wp2
      go_loopw [11, 12] (fun v i wi => ∃ j S : Nat, j ≤ 8 ∧ i = .int .i64 j ∧ v = .bool (ovK P j) ∧ Mix P 0 j S ∧ OutMem w wo.heap.size P S wi) (fun _ i _ => 8 - (intOf i).toNat)
      case atStart =>
        obtain ⟨c0, c1, c2, c3, f2, f3, z, hb⟩ := HM'.out
        refine ⟨0, 0, by omega, rfl, rfl, Mix.start _ _, ?_⟩
        refine ⟨fun o => by rw [World.cell?_alloc_past _ _ _ (by omega)]; exact c2 o, fun o => by rw [World.cell?_alloc_past _ _ _ (by omega)]; exact c3 o, fun o => ?_, fun o => by rw [World.frozen?_alloc_past _ _ _ (by omega)]; exact f2 o, fun o => by simp [go_sem], z, by simp, hb.alloc hb.size _⟩
        simp only [hw_zero]
        simp [go_sem]
      case round =>
        obtain ⟨j, S, hj, rfl, rfl, HX, HM⟩ := hrel
        by_cases hlj : j < 8
        · have c1 : wr.cell? ⟨w.heap.size + 1 + 1 + 1, j, none⟩ = some (.int .u64 (hw P j)) := by rw [HM.2.1, get_half16 P j (by omega)]
          have c2 : wr.cell? ⟨w.heap.size + 1 + 1 + 1, j + 8, none⟩ = some (.int .u64 (hw P (j + 8))) := by rw [HM.2.1, get_half16 P (j + 8) (by omega)]
          have c3 : wr.cell? ⟨wo.heap.size, j, none⟩ = some (.int .u64 (hw S j)) := by rw [HM.2.2.1, get_half8 S j (by omega)]
          have f3 := HM.2.2.2.2.1 j
          have z0 : w.heap.size + 1 + 1 + 1 < wo.heap.size := HM.2.2.2.2.2.1
          have HX' := Lib.hid HX
          have HI' := Lib.hid HM
          have ho : ovK P (j + 1) = (ovK P j || decide (0 < hw P (j + 8))) := rfl
          have HO' := Lib.hid ho
          clear HX HM ho
          cases hov : ovK P j
          all_goals
            have HV := Lib.hid hov
            clear hov
            go_wp2
            go_roundw
            case rel => exact ⟨j + 1, _, by omega, by go_num, by rw [HO'.out, HV.out]; simp, HX'.out.next, HI'.out.set hlj (hw_hn _ _) (hn_lt _ _)⟩
            case measure => simp [intOf]; omega
        · obtain rfl : j = 8 := by omega
          obtain ⟨c2, c3, c4, f2, f4, z, z', hb⟩ := HM
          rw [mix_done_mod HX, ← HP.out] at c4
          have ho := HO.out
          clear HX hlj hj c3
          go_wp2_with ((with_reducible show bodyPost _ _ _ _ _ _); refine bodyPost_ret (by simp [results, Tryd.results42, go_sem, ho, c2, c4, z, z']; try rfl) rfl ?_; exact ⟨rfl, by (repeat' (first | (with_reducible exact Below.refl _ _) | (with_reducible assumption) | (with_reducible refine below_alloc ?_ _) | (with_reducible refine Below.drew ?_) | (with_reducible refine Below.setCell ?_ ?_ _) | (with_reducible refine below_after ?_ (by assumption)) | go_size))⟩)
end Go.Proofs.YtnbdccobfmlhbaaDoor
