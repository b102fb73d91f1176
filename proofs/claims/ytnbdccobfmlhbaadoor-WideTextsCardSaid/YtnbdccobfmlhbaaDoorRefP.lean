/-
  What the reference's Parse returns, for all texts of at most 1000 bytes.
-/
import Derived.Test.YtnbdccobfmlhbaaDoorRefG
import Derived.Test.YtnbdccobfmlhbaaDoorParse
namespace Go.Proofs.YtnbdccobfmlhbaaDoor
set_option linter.all false
open Go Go.RowKit Wd
set_option maxRecDepth 100000
set_option maxHeartbeats 1000000 in
theorem rparse_none (w : World) :
    Calls Tryd.prog 21 #[.string ⟨#[]⟩] w fun e w' => e = .returned (.tuple #[(.agg #[.bool (zs (0)), .int .u64 (wd (Int.natAbs (0)) 0), .int .u64 (wd (Int.natAbs (0)) 1), .int .u64 (wd (Int.natAbs (0)) 2), .int .u64 (wd (Int.natAbs (0)) 3)]), .int .i64 3]) ∧ Below w.heap.size w w' := by
  simp only [zs_zero, Int.natAbs_zero, wd_zero.1, wd_zero.2.1, wd_zero.2.2.1, wd_zero.2.2.2]
  go_enter Tryd.func21, Tryd.ntmps21
  go_wp2_with ((with_reducible show bodyPost _ _ _ _ _ _); refine bodyPost_ret (by simp [results, Tryd.results21, go_sem, go_sem]; try rfl) rfl ?_; exact ⟨rfl, by (repeat' (first | (with_reducible exact Below.refl _ _) | (with_reducible assumption) | (with_reducible refine below_alloc ?_ _) | (with_reducible refine Below.drew ?_) | (with_reducible refine Below.setCell ?_ ?_ _) | (with_reducible refine below_after ?_ (by assumption)) | go_size))⟩)
theorem ext1 (c : UInt8) (d : List UInt8) : (⟨(c :: d).toArray⟩ : ByteArray).extract 1 (d.length + 1) = ⟨d.toArray⟩ := ByteArray.ext (by simp)
set_option maxHeartbeats 1000000 in
theorem rparse_dash (w : World) :
    Calls Tryd.prog 21 #[.string ⟨#[45]⟩] w fun e w' => e = .returned (.tuple #[(.agg #[.bool (zs (0)), .int .u64 (wd (Int.natAbs (0)) 0), .int .u64 (wd (Int.natAbs (0)) 1), .int .u64 (wd (Int.natAbs (0)) 2), .int .u64 (wd (Int.natAbs (0)) 3)]), .int .i64 5]) ∧ Below w.heap.size w w' := by
  simp only [zs_zero, Int.natAbs_zero, wd_zero.1, wd_zero.2.1, wd_zero.2.2.1, wd_zero.2.2.2]
  go_enter Tryd.func21, Tryd.ntmps21
  go_wp2_with ((with_reducible show bodyPost _ _ _ _ _ _); refine bodyPost_ret (by simp [results, Tryd.results21, go_sem, go_sem]; try rfl) rfl ?_; exact ⟨rfl, by (repeat' (first | (with_reducible exact Below.refl _ _) | (with_reducible assumption) | (with_reducible refine below_alloc ?_ _) | (with_reducible refine Below.drew ?_) | (with_reducible refine Below.setCell ?_ ?_ _) | (with_reducible refine below_after ?_ (by assumption)) | go_size))⟩)
/-- The call's own memory while it reads digits. -/
def RPMem (w : World) (B n : Nat) (wr : World) : Prop :=
  (∀ o, wr.cell? ⟨w.heap.size, o, none⟩ = (#[.bool false, .int .u64 0, .int .u64 0, .int .u64 0, .int .u64 0] : Array Value)[o]?) ∧ (∀ o, wr.cell? ⟨B, o, none⟩ = (#[.int .u64 (hw (n) 0), .int .u64 (hw (n) 1), .int .u64 (hw (n) 2), .int .u64 (hw (n) 3), .int .u64 (hw (n) 4), .int .u64 (hw (n) 5), .int .u64 (hw (n) 6), .int .u64 (hw (n) 7)] : Array Value)[o]?)
  ∧ (∀ o, wr.frozen? ⟨w.heap.size, o, none⟩ = false) ∧ (∀ o, wr.frozen? ⟨B, o, none⟩ = false) ∧ w.heap.size < B ∧ B < wr.heap.size ∧ Below w.heap.size w wr
theorem RPMem.later {w wr wx : World} {B n : Nat} (h : RPMem w B n wr) (hb : Below wr.heap.size wr wx) : RPMem w B n wx := by
  obtain ⟨c0, c1, f0, f1, z0, z1, hB⟩ := h
  exact ⟨keep_cell hb (by omega) c0, keep_cell hb z1 c1, keep_frozen hb (by omega) f0, keep_frozen hb z1 f1, z0, keep_lt hb z1, below_after hB hb⟩
theorem RPMem.put {w wr : World} {B n n' : Nat} (h : RPMem w B n wr) : RPMem w B n' ((((((((wr.setCell ⟨B, 0, none⟩ (.int .u64 (hw n' 0))).setCell ⟨B, 1, none⟩ (.int .u64 (hw n' 1))).setCell ⟨B, 2, none⟩ (.int .u64 (hw n' 2))).setCell ⟨B, 3, none⟩ (.int .u64 (hw n' 3))).setCell ⟨B, 4, none⟩ (.int .u64 (hw n' 4))).setCell ⟨B, 5, none⟩ (.int .u64 (hw n' 5))).setCell ⟨B, 6, none⟩ (.int .u64 (hw n' 6))).setCell ⟨B, 7, none⟩ (.int .u64 (hw n' 7))) := by
  obtain ⟨c0, c1, f0, f1, z0, z1, hB⟩ := h
  exact ⟨set8_far (by omega) c0, set8_at c1, set8_froz f0, set8_froz f1, z0, by simpa using z1, set8_below (by omega) hB⟩
theorem hw_ten : hw 10 0 = 10 ∧ hw 10 1 = 0 ∧ hw 10 2 = 0 ∧ hw 10 3 = 0 ∧ hw 10 4 = 0 ∧ hw 10 5 = 0 ∧ hw 10 6 = 0 ∧ hw 10 7 = 0 := by
  have h := hw_small (n := 10) (by omega)
  exact ⟨by simpa using h.1, h.2 1 (by omega), h.2 2 (by omega), h.2 3 (by omega), h.2 4 (by omega), h.2 5 (by omega), h.2 6 (by omega), h.2 7 (by omega)⟩
theorem times10 (n : Nat) (hn : n < 2 ^ 256) (w : World) : Calls Tryd.prog 42 #[(.agg #[.int .u64 (hw (n) 0), .int .u64 (hw (n) 1), .int .u64 (hw (n) 2), .int .u64 (hw (n) 3), .int .u64 (hw (n) 4), .int .u64 (hw (n) 5), .int .u64 (hw (n) 6), .int .u64 (hw (n) 7)]), .agg #[.int .u64 10, .int .u64 0, .int .u64 0, .int .u64 0, .int .u64 0, .int .u64 0, .int .u64 0, .int .u64 0]] w fun e w' => e = .returned (.tuple #[(.agg #[.int .u64 (hw (pm n 10) 0), .int .u64 (hw (pm n 10) 1), .int .u64 (hw (pm n 10) 2), .int .u64 (hw (pm n 10) 3), .int .u64 (hw (pm n 10) 4), .int .u64 (hw (pm n 10) 5), .int .u64 (hw (pm n 10) 6), .int .u64 (hw (pm n 10) 7)]), .bool (ovB (n * 10))]) ∧ Below w.heap.size w w' := by
  have h := times_any n 10 hn (by decide) w
  rw [hw_ten.1, hw_ten.2.1, hw_ten.2.2.1, hw_ten.2.2.2.1, hw_ten.2.2.2.2.1, hw_ten.2.2.2.2.2.1, hw_ten.2.2.2.2.2.2.1, hw_ten.2.2.2.2.2.2.2] at h
  exact h
theorem plus_small (n c : Nat) (hn : n < 2 ^ 256) (hc : c ≤ 9) (w : World) : Calls Tryd.prog 50 #[(.agg #[.int .u64 (hw (n) 0), .int .u64 (hw (n) 1), .int .u64 (hw (n) 2), .int .u64 (hw (n) 3), .int .u64 (hw (n) 4), .int .u64 (hw (n) 5), .int .u64 (hw (n) 6), .int .u64 (hw (n) 7)]), .agg #[.int .u64 (c : Int), .int .u64 0, .int .u64 0, .int .u64 0, .int .u64 0, .int .u64 0, .int .u64 0, .int .u64 0]] w fun e w' => e = .returned (.tuple #[(.agg #[.int .u64 (hw (sm n c) 0), .int .u64 (hw (sm n c) 1), .int .u64 (hw (sm n c) 2), .int .u64 (hw (sm n c) 3), .int .u64 (hw (sm n c) 4), .int .u64 (hw (sm n c) 5), .int .u64 (hw (sm n c) 6), .int .u64 (hw (sm n c) 7)]), .bool (ovB (n + c))]) ∧ Below w.heap.size w w' := by
  have h := rplus_any n c hn (Nat.lt_of_le_of_lt hc (by decide)) w
  have e := hw_small (n := c) (by omega)
  rw [e.1, e.2 1 (by omega), e.2 2 (by omega), e.2 3 (by omega), e.2 4 (by omega), e.2 5 (by omega), e.2 6 (by omega), e.2 7 (by omega)] at h
  exact h
theorem RPMem.alloc {w wr : World} {B n : Nat} (h : RPMem w B n wr) (O : Obj) : RPMem w B n (wr.alloc O) := h.later ((Below.refl _ _).alloc (Nat.le_refl _) O)
theorem dig_cases (n c : Nat) (hn : n < 2 ^ 256) : (10 * n + c < 2 ^ 256 ∧ ovB (n * 10) = false ∧ ovB (pm n 10 + c) = false ∧ sm (pm n 10) c = 10 * n + c) ∨ (¬ 10 * n + c < 2 ^ 256 ∧ (ovB (n * 10) = true ∨ (ovB (n * 10) = false ∧ ovB (pm n 10 + c) = true))) := by
  by_cases h1 : n * 10 < 2 ^ 256
  · rw [pm_eq h1]
    by_cases h2 : 10 * n + c < 2 ^ 256
    · exact Or.inl ⟨h2, by unfold ovB; simp only [decide_eq_false_iff_not]; omega, by unfold ovB; simp only [decide_eq_false_iff_not]; omega, by rw [sm_eq (by omega)]; omega⟩
    · exact Or.inr ⟨h2, Or.inr ⟨by unfold ovB; simp only [decide_eq_false_iff_not]; omega, by unfold ovB; simp only [decide_eq_true_eq]; omega⟩⟩
  · exact Or.inr ⟨by omega, Or.inl (by unfold ovB; simp only [decide_eq_true_eq]; omega)⟩
set_option maxHeartbeats 8000000 in
theorem rparse_pos (l : List UInt8) (hl : l.length ≤ 1000) (h0 : 0 < l.length)
    (hX0 : ((((⟨l.toArray⟩ : ByteArray)[0]'(by rw [size_mk]; exact h0)).toNat : Int) == 45) = false)
    (hfirst : (¬ ((((⟨l.toArray⟩ : ByteArray)[0]'(by rw [size_mk]; exact h0)).toNat : Int) = 48)) ∨ (((((⟨l.toArray⟩ : ByteArray)[0]'(by rw [size_mk]; exact h0)).toNat : Int) = 48) ∧ (!(l == [48])) = false))
    (hbad : l.all isDig = false → parseZ l = 0 ∧ parseE l = 5)
    (hsum : l.all isDig = true → decVal l < 2 ^ 256 → parseZ l = val false (decVal l) ∧ parseE l = 0)
    (hov : ¬ decVal l < 2 ^ 256 → l.all isDig = true → parseZ l = 0 ∧ parseE l = 21) (w : World) :
    Calls Tryd.prog 21 #[.string ⟨l.toArray⟩] w fun e w' => e = .returned (.tuple #[(.agg #[.bool (zs (parseZ l)), .int .u64 (wd (Int.natAbs (parseZ l)) 0), .int .u64 (wd (Int.natAbs (parseZ l)) 1), .int .u64 (wd (Int.natAbs (parseZ l)) 2), .int .u64 (wd (Int.natAbs (parseZ l)) 3)]), .int .i64 (parseE l)]) ∧ Below w.heap.size w w' := by
  have BAD := Lib.hid hbad
  have P1 := Lib.hid hsum
  have P2 := Lib.hid hov
  have hne : l.isEmpty = false := by
    cases l with
    | nil => exact absurd h0 (by simp)
    | cons => rfl
  have hnl : ¬ l = [] := by intro h; subst h; simp at h0
  clear hbad hsum hov
  obtain ⟨d, hd⟩ : ∃ d, d = l := ⟨_, rfl⟩
  subst hd
  rcases hfirst with hfirst | ⟨hfirst, hfirst2⟩
  · go_enter Tryd.func21, Tryd.ntmps21
    go_wp2
    go_loop [6] (fun i => ∃ k : Nat, k ≤ d.length ∧ i = .int .i64 (k : Int) ∧ (d.take k).all isDig = true) (fun i => d.length - (intOf i).toNat)
    case atStart => exact ⟨0, by omega, rfl, by simp⟩
    case round =>
      obtain ⟨k, hk, rfl, hall⟩ := hrel
      have HALL := Lib.hid hall
      clear hall
      by_cases hlt : k < d.length
      · have hsz : (k : Int) < ((⟨d.toArray⟩ : ByteArray).size : Int) := by rw [size_mk]; omega
        by_cases hdg : isDig d[k] = true
        · have hb := dig_bounds8 hdg
          have x1 : 48 ≤ (((⟨d.toArray⟩ : ByteArray)[k]'(by rw [size_mk]; exact hlt)).toNat : Int) := by show 48 ≤ ((d[k]).toNat : Int); omega
          have x2 : (((⟨d.toArray⟩ : ByteArray)[k]'(by rw [size_mk]; exact hlt)).toNat : Int) ≤ 57 := by show ((d[k]).toNat : Int) ≤ 57; omega
          have HDG := Lib.hid hdg
          clear hb hdg
          go_wp2
          go_round
          case rel => exact ⟨k + 1, by omega, by go_num, by rw [List.take_succ_eq_append_getElem hlt, List.all_append, HALL.out]; simp [HDG.out]⟩
          case measure => simp [intOf]; omega
        · have P3 := Lib.hid (BAD.out (by
            cases h : d.all isDig
            · rfl
            · exact absurd (List.all_eq_true.1 h _ (List.getElem_mem hlt)) hdg))
          have hb : ((d[k]).toNat : Int) < 48 ∨ 57 < ((d[k]).toNat : Int) := by
            unfold isDig at hdg
            simp at hdg
            omega
          clear hdg
          rcases hb with hb | hb
          · have x1 : (((⟨d.toArray⟩ : ByteArray)[k]'(by rw [size_mk]; exact hlt)).toNat : Int) < 48 := hb
            clear hb
            go_wp2_with ((with_reducible show bodyPost _ _ _ _ _ _); refine bodyPost_ret (by simp [results, Tryd.results21, go_sem, go_sem]; try rfl) rfl ?_; exact ⟨by rw [P3.out.1, P3.out.2, zs_zero, Int.natAbs_zero, wd_zero.1, wd_zero.2.1, wd_zero.2.2.1, wd_zero.2.2.2], by (repeat' (first | (with_reducible exact Below.refl _ _) | (with_reducible assumption) | (with_reducible refine below_alloc ?_ _) | (with_reducible refine Below.drew ?_) | (with_reducible refine Below.setCell ?_ ?_ _) | (with_reducible refine below_after ?_ (by assumption)) | go_size))⟩)
          · have x1 : 57 < (((⟨d.toArray⟩ : ByteArray)[k]'(by rw [size_mk]; exact hlt)).toNat : Int) := hb
            clear hb
            go_wp2_with ((with_reducible show bodyPost _ _ _ _ _ _); refine bodyPost_ret (by simp [results, Tryd.results21, go_sem, go_sem]; try rfl) rfl ?_; exact ⟨by rw [P3.out.1, P3.out.2, zs_zero, Int.natAbs_zero, wd_zero.1, wd_zero.2.1, wd_zero.2.2.1, wd_zero.2.2.2], by (repeat' (first | (with_reducible exact Below.refl _ _) | (with_reducible assumption) | (with_reducible refine below_alloc ?_ _) | (with_reducible refine Below.drew ?_) | (with_reducible refine Below.setCell ?_ ?_ _) | (with_reducible refine below_after ?_ (by assumption)) | go_size))⟩)
      · obtain rfl : k = d.length := by omega
        have hall := HALL.out
        rw [List.take_length] at hall
        have hall' := Lib.hid hall
        clear hall HALL hlt hk
        go_wp2
        go_loopw [8] (fun i wr => ∃ k, k ≤ d.length ∧ i = .int .i64 (k : Int) ∧ decVal (d.take k) < 2 ^ 256 ∧ RPMem w (w.heap.size + 1) (decVal (d.take k)) wr) (fun i _ => d.length - (intOf i).toNat)
        case atStart =>
          refine ⟨0, by omega, rfl, by show 0 < 2 ^ 256; decide, ?_⟩
          refine ⟨fun o => by simp [go_sem], fun o => ?_, fun o => by simp [go_sem], fun o => by simp [go_sem], by omega, by simp, by go_grown⟩
          simp only [show decVal (d.take 0) = 0 from rfl, hw_zero]
          simp [go_sem]
        case round =>
          obtain ⟨k, hk, rfl, hn, HM⟩ := hrel
          have HM0 := Lib.hid HM
          by_cases hlt : k < d.length
          · have hdig := all_at hall'.out k hlt
            have hn' := Lib.hid hn
            have hst := Lib.hid (decVal_take d k hlt)
            have hpart := Lib.hid (decVal_part d (k + 1))
            generalize decVal (d.take k) = n at *
            have t1 := times10 n hn
            have hX : (((⟨d.toArray⟩ : ByteArray)[k]'(by rw [size_mk]; exact hlt)).toNat : Int) = ((d[k]).toNat : Int) := rfl
            have x1 : 48 ≤ (((⟨d.toArray⟩ : ByteArray)[k]'(by rw [size_mk]; exact hlt)).toNat : Int) := by rw [hX]; omega
            have x2 : (((⟨d.toArray⟩ : ByteArray)[k]'(by rw [size_mk]; exact hlt)).toNat : Int) ≤ 57 := by rw [hX]; omega
            have hsz : (k : Int) < ((⟨d.toArray⟩ : ByteArray).size : Int) := by rw [size_mk]; omega
            have dc := dig_cases n ((d[k]).toNat - 48) hn
            have p1 : ∀ w : World, Calls Tryd.prog 50 #[(.agg #[.int .u64 (hw (pm n 10) 0), .int .u64 (hw (pm n 10) 1), .int .u64 (hw (pm n 10) 2), .int .u64 (hw (pm n 10) 3), .int .u64 (hw (pm n 10) 4), .int .u64 (hw (pm n 10) 5), .int .u64 (hw (pm n 10) 6), .int .u64 (hw (pm n 10) 7)]), .agg #[.int .u64 (IntKind.u64.wrap (IntKind.u8.wrap ((((⟨d.toArray⟩ : ByteArray)[k]'(by rw [size_mk]; exact hlt)).toNat : Int) - 48))), .int .u64 0, .int .u64 0, .int .u64 0, .int .u64 0, .int .u64 0, .int .u64 0, .int .u64 0]] w fun e w' => e = .returned (.tuple #[(.agg #[.int .u64 (hw (sm (pm n 10) ((d[k]).toNat - 48)) 0), .int .u64 (hw (sm (pm n 10) ((d[k]).toNat - 48)) 1), .int .u64 (hw (sm (pm n 10) ((d[k]).toNat - 48)) 2), .int .u64 (hw (sm (pm n 10) ((d[k]).toNat - 48)) 3), .int .u64 (hw (sm (pm n 10) ((d[k]).toNat - 48)) 4), .int .u64 (hw (sm (pm n 10) ((d[k]).toNat - 48)) 5), .int .u64 (hw (sm (pm n 10) ((d[k]).toNat - 48)) 6), .int .u64 (hw (sm (pm n 10) ((d[k]).toNat - 48)) 7)]), .bool (ovB (pm n 10 + ((d[k]).toNat - 48)))]) ∧ Below w.heap.size w w' := fun w => by
              have h := plus_small (pm n 10) ((d[k]).toNat - 48) (pm_lt _ _) (by omega) w
              rwa [show (((d[k]).toNat - 48 : Nat) : Int) = IntKind.u64.wrap (IntKind.u8.wrap ((((⟨d.toArray⟩ : ByteArray)[k]'(by rw [size_mk]; exact hlt)).toNat : Int) - 48)) by rw [hX]; simp [IntKind.wrap, IntKind.signed, IntKind.bits]; omega] at h
            generalize ovB (n * 10) = o1 at t1 dc
            generalize ovB (pm n 10 + ((d[k]).toNat - 48)) = o2 at p1 dc
            generalize sm (pm n 10) ((d[k]).toNat - 48) = q at p1 dc
            have T1 := Lib.hid t1
            have P12 := Lib.hid p1
            have DC := Lib.hid dc
            clear hn hX hdig t1 p1 dc
            obtain ⟨c0, c1, f0, f1, z0, z1, hbb⟩ := HM
            go_wp2_with fail
            ((with_reducible refine (T1.out _).mono ?_); rintro e w1 ⟨rfl, hb1⟩)
            obtain ⟨hc1, hf1⟩ := bcell hb1
            have hz1_w_0 : w.heap.size < w1.heap.size := by have h := hb1.size; (try simp at h); omega
            have hz1_w_1 : w.heap.size + 1 < w1.heap.size := by have h := hb1.size; (try simp at h); omega
            go_upto_region 19 with (fail)
            refine wp_world (fun x => RPMem w (w.heap.size + 1) n x ∧ (∀ o, x.cell? ⟨w1.heap.size, o, none⟩ = (#[.int .u64 (hw (pm n 10) 0), .int .u64 (hw (pm n 10) 1), .int .u64 (hw (pm n 10) 2), .int .u64 (hw (pm n 10) 3), .int .u64 (hw (pm n 10) 4), .int .u64 (hw (pm n 10) 5), .int .u64 (hw (pm n 10) 6), .int .u64 (hw (pm n 10) 7)] : Array Value)[o]?) ∧ w1.heap.size < x.heap.size) ⟨(HM0.out.later hb1).alloc _, fun o => by simp [go_sem], by simp⟩ ?_
            clear c0 c1 f0 f1 z0 z1 hbb hc1 hf1 HM0
            rintro A ⟨a0, a1, a2⟩
            have HMA := Lib.hid a0
            clear a0
            go_cut [11, 12] (fun v11 v12 wx => ∃ B : Nat, v11 = .pointer (some ⟨B, 0, none⟩) ∧ v12 = .bool o2 ∧ New A.heap.size B #[.int .u64 (hw (q) 0), .int .u64 (hw (q) 1), .int .u64 (hw (q) 2), .int .u64 (hw (q) 3), .int .u64 (hw (q) 4), .int .u64 (hw (q) 5), .int .u64 (hw (q) 6), .int .u64 (hw (q) 7)] wx ∧ Below A.heap.size A wx)
            case first =>
              refine wp_world (fun x => (∀ o, x.cell? ⟨w1.heap.size, o, none⟩ = (#[.int .u64 (hw (pm n 10) 0), .int .u64 (hw (pm n 10) 1), .int .u64 (hw (pm n 10) 2), .int .u64 (hw (pm n 10) 3), .int .u64 (hw (pm n 10) 4), .int .u64 (hw (pm n 10) 5), .int .u64 (hw (pm n 10) 6), .int .u64 (hw (pm n 10) 7)] : Array Value)[o]?) ∧ w1.heap.size < x.heap.size ∧ Below A.heap.size A x) ⟨fun o => by first | (simp [go_sem, a1, a2]; done) | (rcases o with _ | _ | _ | _ | _ | o <;> simp [go_sem, a1, a2]), by (first | omega | (simp [go_sem, a1, a2]; done) | (simp [go_sem, a1, a2]; omega)), by (repeat' (first | (with_reducible exact Below.refl _ _) | (with_reducible assumption) | (with_reducible refine below_alloc ?_ _) | (with_reducible refine Below.drew ?_) | (with_reducible refine Below.setCell ?_ ?_ _) | (with_reducible refine below_after ?_ (by assumption)) | go_size))⟩ ?_
              rintro E ⟨hEc0, hEz0, hEb⟩
              have hEK := Lib.hid (show ∀ x : World, Kp E.heap.size [] E x → ((∀ o, x.cell? ⟨w1.heap.size, o, none⟩ = (#[.int .u64 (hw (pm n 10) 0), .int .u64 (hw (pm n 10) 1), .int .u64 (hw (pm n 10) 2), .int .u64 (hw (pm n 10) 3), .int .u64 (hw (pm n 10) 4), .int .u64 (hw (pm n 10) 5), .int .u64 (hw (pm n 10) 6), .int .u64 (hw (pm n 10) 7)] : Array Value)[o]?) ∧ w1.heap.size < x.heap.size ∧ E.heap.size ≤ x.heap.size) from fun x k => ⟨fun o => (k.cell _ o hEz0 (by first | (simp; done) | (simp; omega))).trans (hEc0 o), Nat.lt_of_lt_of_le hEz0 k.size, k.size⟩)
              go_region_held3 (fun x => (∀ o, x.cell? ⟨w1.heap.size, o, none⟩ = (#[.int .u64 (hw (pm n 10) 0), .int .u64 (hw (pm n 10) 1), .int .u64 (hw (pm n 10) 2), .int .u64 (hw (pm n 10) 3), .int .u64 (hw (pm n 10) 4), .int .u64 (hw (pm n 10) 5), .int .u64 (hw (pm n 10) 6), .int .u64 (hw (pm n 10) 7)] : Array Value)[o]?) ∧ w1.heap.size < x.heap.size ∧ E.heap.size ≤ x.heap.size) ((refine hEK.out _ ?_; (repeat (first | (with_reducible assumption) | (with_reducible exact Kp.refl (Nat.le_refl _)) | (with_reducible refine Kp.drew ?_) | (with_reducible refine Kp.alloc ?_ _) | ((with_reducible refine Kp.put ?_ ?_ _); focus (first | (left; go_size; done) | (right; simp; done))) | ((with_reducible apply Kp.later); (with_reducible assumption)))))) ((first | (go_at_call 50; (with_reducible refine (P12.out _).mono ?_); rintro e E_1 ⟨rfl, hbE_1⟩; have hkE_1 : Kp E.heap.size [] E E_1 := (by (repeat (first | (with_reducible assumption) | (with_reducible exact Kp.refl (Nat.le_refl _)) | (with_reducible refine Kp.drew ?_) | (with_reducible refine Kp.alloc ?_ _) | ((with_reducible refine Kp.put ?_ ?_ _); focus (first | (left; go_size; done) | (right; simp; done))) | ((with_reducible apply Kp.later); (with_reducible assumption))))); obtain ⟨hE_1k, hE_1g⟩ := bcell hbE_1; have hE_1r := hkE_1.size; have hE_1s := hbE_1.size; (try simp at hE_1s); have hE_1z : E.heap.size ≤ E_1.heap.size := (by (first | exact hE_1s | exact Nat.le_of_lt hE_1s | exact Nat.le_of_lt (Nat.lt_of_succ_lt hE_1s))); (try (have hE_1t00 : E.heap.size < E_1.heap.size := (by (first | exact hE_1s | exact Nat.lt_of_succ_lt hE_1s)))); (try (have hE_1t01 : E.heap.size + 1 < E_1.heap.size := (by exact hE_1s))))))
              all_goals
                go_wp2
                go_meet
                case rel =>
                  (repeat (rename_i hjunk; clear hjunk)); have hwsE := hEb.size; skip
                  refine ⟨_, rfl, rfl, ⟨?_, ?_, ?_, ?_⟩, by (repeat' (first | (with_reducible exact Below.refl _ _) | (with_reducible assumption) | (with_reducible refine below_alloc ?_ _) | (with_reducible refine Below.drew ?_) | (with_reducible refine Below.setCell ?_ ?_ _) | (with_reducible refine below_after ?_ (by assumption)) | go_size))⟩
                  · (first | (with_reducible assumption) | omega | (simp; omega))
                  · ((try simp only [World.size_alloc, World.size_drew, World.size_setCell]); (first | (with_reducible assumption) | (with_reducible exact Nat.lt_add_one _) | (with_reducible exact Nat.lt_add_one_of_lt (Nat.lt_add_one _)) | (with_reducible refine Nat.lt_add_one_of_lt ?_; with_reducible assumption) | (with_reducible refine Nat.lt_add_one_of_lt (Nat.lt_add_one_of_lt ?_); with_reducible assumption) | omega))
                  · (repeat (first | (with_reducible assumption) | (with_reducible exact new_cells _ _ _) | (with_reducible exact new_cells2 _ _ _ _) | (with_reducible refine keep_drew ?_) | (with_reducible apply set8_at) | (with_reducible apply set5_at) | ((with_reducible refine new_cells_at ?_ _ _); (focus ((simp only [World.size_alloc, World.size_drew, World.size_setCell]; done)))) | ((with_reducible refine set8_far ?_ ?_); (focus ((first | (with_reducible refine Nat.ne_of_lt ?_; with_reducible assumption) | (with_reducible refine Nat.ne_of_gt ?_; with_reducible assumption) | (with_reducible exact Nat.ne_of_lt (Nat.lt_add_one _)) | (with_reducible exact Nat.ne_of_gt (Nat.lt_add_one _)) | omega)))) | ((with_reducible refine set5_far ?_ ?_); (focus ((first | (with_reducible refine Nat.ne_of_lt ?_; with_reducible assumption) | (with_reducible refine Nat.ne_of_gt ?_; with_reducible assumption) | (with_reducible exact Nat.ne_of_lt (Nat.lt_add_one _)) | (with_reducible exact Nat.ne_of_gt (Nat.lt_add_one _)) | omega)))) | ((with_reducible refine keep_cell_a ?_ ?_); (focus (((try simp only [World.size_alloc, World.size_drew, World.size_setCell]); (first | (with_reducible assumption) | (with_reducible exact Nat.lt_add_one _) | (with_reducible exact Nat.lt_add_one_of_lt (Nat.lt_add_one _)) | (with_reducible refine Nat.lt_add_one_of_lt ?_; with_reducible assumption) | (with_reducible refine Nat.lt_add_one_of_lt (Nat.lt_add_one_of_lt ?_); with_reducible assumption) | omega))))) | ((with_reducible refine keep_cell hbE_1 ?_ ?_); (focus (((try simp only [World.size_alloc, World.size_drew, World.size_setCell]); (first | (with_reducible assumption) | (with_reducible exact Nat.lt_add_one _) | (with_reducible exact Nat.lt_add_one_of_lt (Nat.lt_add_one _)) | (with_reducible refine Nat.lt_add_one_of_lt ?_; with_reducible assumption) | (with_reducible refine Nat.lt_add_one_of_lt (Nat.lt_add_one_of_lt ?_); with_reducible assumption) | omega)))))))
                  · (repeat (first | (with_reducible assumption) | (with_reducible exact new_frozen _ _ _) | (with_reducible exact new_frozen2 _ _ _ _) | (with_reducible refine keep_frozen_drew ?_) | (with_reducible refine keep_frozen_c ?_) | ((with_reducible refine new_frozen_at ?_ _ _); (focus ((simp only [World.size_alloc, World.size_drew, World.size_setCell]; done)))) | ((with_reducible refine keep_frozen_a ?_ ?_); (focus (((try simp only [World.size_alloc, World.size_drew, World.size_setCell]); (first | (with_reducible assumption) | (with_reducible exact Nat.lt_add_one _) | (with_reducible exact Nat.lt_add_one_of_lt (Nat.lt_add_one _)) | (with_reducible refine Nat.lt_add_one_of_lt ?_; with_reducible assumption) | (with_reducible refine Nat.lt_add_one_of_lt (Nat.lt_add_one_of_lt ?_); with_reducible assumption) | omega))))) | ((with_reducible refine keep_frozen hbE_1 ?_ ?_); (focus (((try simp only [World.size_alloc, World.size_drew, World.size_setCell]); (first | (with_reducible assumption) | (with_reducible exact Nat.lt_add_one _) | (with_reducible exact Nat.lt_add_one_of_lt (Nat.lt_add_one _)) | (with_reducible refine Nat.lt_add_one_of_lt ?_; with_reducible assumption) | (with_reducible refine Nat.lt_add_one_of_lt (Nat.lt_add_one_of_lt ?_); with_reducible assumption) | omega)))))))
            case rest =>
              obtain ⟨B, rfl, rfl, N1, hB⟩ := hcut
              have HN := Lib.hid N1
              have HMC := HMA.out.later hB
              have HC := Lib.hid HMC
              obtain ⟨c0, c1, f0, f1, z0, z1, hbb⟩ := HMC
              have n1 := N1.cell
              have n2 := N1.lt
              clear a1 a2 N1
              rcases DC.out with ⟨e1, rfl, rfl, rfl⟩ | ⟨e1, rfl | ⟨rfl, rfl⟩⟩
              · have E1 := Lib.hid e1
                clear e1
                go_wp2
                go_roundw
                case rel =>
                  refine ⟨k + 1, by omega, by go_num, by rw [hst.out]; exact E1.out, ?_⟩
                  rw [hst.out]
                  exact HC.out.put
                case measure => simp [intOf]; omega
              · have P3 := Lib.hid (P2.out (by have := hst.out; have := hpart.out; omega) hall'.out)
                clear e1
                go_wp2_with ((with_reducible show bodyPost _ _ _ _ _ _); refine bodyPost_ret (by simp [results, Tryd.results21, go_sem, c0, f0, z0]; try rfl) rfl ?_; exact ⟨by rw [P3.out.1, P3.out.2, zs_zero, Int.natAbs_zero, wd_zero.1, wd_zero.2.1, wd_zero.2.2.1, wd_zero.2.2.2], by (repeat' (first | (with_reducible exact Below.refl _ _) | (with_reducible assumption) | (with_reducible refine below_alloc ?_ _) | (with_reducible refine Below.drew ?_) | (with_reducible refine Below.setCell ?_ ?_ _) | (with_reducible refine below_after ?_ (by assumption)) | go_size))⟩)
              · have P3 := Lib.hid (P2.out (by have := hst.out; have := hpart.out; omega) hall'.out)
                clear e1
                go_wp2_with ((with_reducible show bodyPost _ _ _ _ _ _); refine bodyPost_ret (by simp [results, Tryd.results21, go_sem, c0, f0, z0]; try rfl) rfl ?_; exact ⟨by rw [P3.out.1, P3.out.2, zs_zero, Int.natAbs_zero, wd_zero.1, wd_zero.2.1, wd_zero.2.2.1, wd_zero.2.2.2], by (repeat' (first | (with_reducible exact Below.refl _ _) | (with_reducible assumption) | (with_reducible refine below_alloc ?_ _) | (with_reducible refine Below.drew ?_) | (with_reducible refine Below.setCell ?_ ?_ _) | (with_reducible refine below_after ?_ (by assumption)) | go_size))⟩)
          · obtain rfl : k = d.length := by omega
            rw [List.take_length] at hn HM
            have P3 := Lib.hid (P1.out hall'.out hn)
            have J := Lib.hid (join_any false (decVal d) hn)
            clear HM0 hn
            obtain ⟨c0, c1, f0, f1, z0, z1, hbb⟩ := HM
            have zw : w.heap.size < wr.heap.size := Nat.lt_trans z0 z1
            go_wp2_with fail
            ((with_reducible refine (J.out _).mono ?_); rintro e w1 ⟨rfl, hb1⟩)
            obtain ⟨hc1, hf1⟩ := bcell hb1
            have hz1_w_0 : w.heap.size < w1.heap.size := by have h := hb1.size; (try simp at h); omega
            have hz1_w_1 : w.heap.size + 1 < w1.heap.size := by have h := hb1.size; (try simp at h); omega
            go_wp2_with ((with_reducible show bodyPost _ _ _ _ _ _); refine bodyPost_ret (by simp [results, Tryd.results21, go_sem, hc1, hf1, hz1_w_0, hz1_w_1, c0, f0, zw]; try rfl) rfl ?_; exact ⟨by rw [P3.out.1, P3.out.2], by (repeat' (first | (with_reducible exact Below.refl _ _) | (with_reducible assumption) | (with_reducible refine below_alloc ?_ _) | (with_reducible refine Below.drew ?_) | (with_reducible refine Below.setCell ?_ ?_ _) | (with_reducible refine below_after ?_ (by assumption)) | go_size))⟩)
  · go_enter Tryd.func21, Tryd.ntmps21
    go_wp2
    go_loop [6] (fun i => ∃ k : Nat, k ≤ d.length ∧ i = .int .i64 (k : Int) ∧ (d.take k).all isDig = true) (fun i => d.length - (intOf i).toNat)
    case atStart => exact ⟨0, by omega, rfl, by simp⟩
    case round =>
      obtain ⟨k, hk, rfl, hall⟩ := hrel
      have HALL := Lib.hid hall
      clear hall
      by_cases hlt : k < d.length
      · have hsz : (k : Int) < ((⟨d.toArray⟩ : ByteArray).size : Int) := by rw [size_mk]; omega
        by_cases hdg : isDig d[k] = true
        · have hb := dig_bounds8 hdg
          have x1 : 48 ≤ (((⟨d.toArray⟩ : ByteArray)[k]'(by rw [size_mk]; exact hlt)).toNat : Int) := by show 48 ≤ ((d[k]).toNat : Int); omega
          have x2 : (((⟨d.toArray⟩ : ByteArray)[k]'(by rw [size_mk]; exact hlt)).toNat : Int) ≤ 57 := by show ((d[k]).toNat : Int) ≤ 57; omega
          have HDG := Lib.hid hdg
          clear hb hdg
          go_wp2
          go_round
          case rel => exact ⟨k + 1, by omega, by go_num, by rw [List.take_succ_eq_append_getElem hlt, List.all_append, HALL.out]; simp [HDG.out]⟩
          case measure => simp [intOf]; omega
        · have P3 := Lib.hid (BAD.out (by
            cases h : d.all isDig
            · rfl
            · exact absurd (List.all_eq_true.1 h _ (List.getElem_mem hlt)) hdg))
          have hb : ((d[k]).toNat : Int) < 48 ∨ 57 < ((d[k]).toNat : Int) := by
            unfold isDig at hdg
            simp at hdg
            omega
          clear hdg
          rcases hb with hb | hb
          · have x1 : (((⟨d.toArray⟩ : ByteArray)[k]'(by rw [size_mk]; exact hlt)).toNat : Int) < 48 := hb
            clear hb
            go_wp2_with ((with_reducible show bodyPost _ _ _ _ _ _); refine bodyPost_ret (by simp [results, Tryd.results21, go_sem, go_sem]; try rfl) rfl ?_; exact ⟨by rw [P3.out.1, P3.out.2, zs_zero, Int.natAbs_zero, wd_zero.1, wd_zero.2.1, wd_zero.2.2.1, wd_zero.2.2.2], by (repeat' (first | (with_reducible exact Below.refl _ _) | (with_reducible assumption) | (with_reducible refine below_alloc ?_ _) | (with_reducible refine Below.drew ?_) | (with_reducible refine Below.setCell ?_ ?_ _) | (with_reducible refine below_after ?_ (by assumption)) | go_size))⟩)
          · have x1 : 57 < (((⟨d.toArray⟩ : ByteArray)[k]'(by rw [size_mk]; exact hlt)).toNat : Int) := hb
            clear hb
            go_wp2_with ((with_reducible show bodyPost _ _ _ _ _ _); refine bodyPost_ret (by simp [results, Tryd.results21, go_sem, go_sem]; try rfl) rfl ?_; exact ⟨by rw [P3.out.1, P3.out.2, zs_zero, Int.natAbs_zero, wd_zero.1, wd_zero.2.1, wd_zero.2.2.1, wd_zero.2.2.2], by (repeat' (first | (with_reducible exact Below.refl _ _) | (with_reducible assumption) | (with_reducible refine below_alloc ?_ _) | (with_reducible refine Below.drew ?_) | (with_reducible refine Below.setCell ?_ ?_ _) | (with_reducible refine below_after ?_ (by assumption)) | go_size))⟩)
      · obtain rfl : k = d.length := by omega
        have hall := HALL.out
        rw [List.take_length] at hall
        have hall' := Lib.hid hall
        clear hall HALL hlt hk
        go_wp2
        go_loopw [8] (fun i wr => ∃ k, k ≤ d.length ∧ i = .int .i64 (k : Int) ∧ decVal (d.take k) < 2 ^ 256 ∧ RPMem w (w.heap.size + 1) (decVal (d.take k)) wr) (fun i _ => d.length - (intOf i).toNat)
        case atStart =>
          refine ⟨0, by omega, rfl, by show 0 < 2 ^ 256; decide, ?_⟩
          refine ⟨fun o => by simp [go_sem], fun o => ?_, fun o => by simp [go_sem], fun o => by simp [go_sem], by omega, by simp, by go_grown⟩
          simp only [show decVal (d.take 0) = 0 from rfl, hw_zero]
          simp [go_sem]
        case round =>
          obtain ⟨k, hk, rfl, hn, HM⟩ := hrel
          have HM0 := Lib.hid HM
          by_cases hlt : k < d.length
          · have hdig := all_at hall'.out k hlt
            have hn' := Lib.hid hn
            have hst := Lib.hid (decVal_take d k hlt)
            have hpart := Lib.hid (decVal_part d (k + 1))
            generalize decVal (d.take k) = n at *
            have t1 := times10 n hn
            have hX : (((⟨d.toArray⟩ : ByteArray)[k]'(by rw [size_mk]; exact hlt)).toNat : Int) = ((d[k]).toNat : Int) := rfl
            have x1 : 48 ≤ (((⟨d.toArray⟩ : ByteArray)[k]'(by rw [size_mk]; exact hlt)).toNat : Int) := by rw [hX]; omega
            have x2 : (((⟨d.toArray⟩ : ByteArray)[k]'(by rw [size_mk]; exact hlt)).toNat : Int) ≤ 57 := by rw [hX]; omega
            have hsz : (k : Int) < ((⟨d.toArray⟩ : ByteArray).size : Int) := by rw [size_mk]; omega
            have dc := dig_cases n ((d[k]).toNat - 48) hn
            have p1 : ∀ w : World, Calls Tryd.prog 50 #[(.agg #[.int .u64 (hw (pm n 10) 0), .int .u64 (hw (pm n 10) 1), .int .u64 (hw (pm n 10) 2), .int .u64 (hw (pm n 10) 3), .int .u64 (hw (pm n 10) 4), .int .u64 (hw (pm n 10) 5), .int .u64 (hw (pm n 10) 6), .int .u64 (hw (pm n 10) 7)]), .agg #[.int .u64 (IntKind.u64.wrap (IntKind.u8.wrap ((((⟨d.toArray⟩ : ByteArray)[k]'(by rw [size_mk]; exact hlt)).toNat : Int) - 48))), .int .u64 0, .int .u64 0, .int .u64 0, .int .u64 0, .int .u64 0, .int .u64 0, .int .u64 0]] w fun e w' => e = .returned (.tuple #[(.agg #[.int .u64 (hw (sm (pm n 10) ((d[k]).toNat - 48)) 0), .int .u64 (hw (sm (pm n 10) ((d[k]).toNat - 48)) 1), .int .u64 (hw (sm (pm n 10) ((d[k]).toNat - 48)) 2), .int .u64 (hw (sm (pm n 10) ((d[k]).toNat - 48)) 3), .int .u64 (hw (sm (pm n 10) ((d[k]).toNat - 48)) 4), .int .u64 (hw (sm (pm n 10) ((d[k]).toNat - 48)) 5), .int .u64 (hw (sm (pm n 10) ((d[k]).toNat - 48)) 6), .int .u64 (hw (sm (pm n 10) ((d[k]).toNat - 48)) 7)]), .bool (ovB (pm n 10 + ((d[k]).toNat - 48)))]) ∧ Below w.heap.size w w' := fun w => by
              have h := plus_small (pm n 10) ((d[k]).toNat - 48) (pm_lt _ _) (by omega) w
              rwa [show (((d[k]).toNat - 48 : Nat) : Int) = IntKind.u64.wrap (IntKind.u8.wrap ((((⟨d.toArray⟩ : ByteArray)[k]'(by rw [size_mk]; exact hlt)).toNat : Int) - 48)) by rw [hX]; simp [IntKind.wrap, IntKind.signed, IntKind.bits]; omega] at h
            generalize ovB (n * 10) = o1 at t1 dc
            generalize ovB (pm n 10 + ((d[k]).toNat - 48)) = o2 at p1 dc
            generalize sm (pm n 10) ((d[k]).toNat - 48) = q at p1 dc
            have T1 := Lib.hid t1
            have P12 := Lib.hid p1
            have DC := Lib.hid dc
            clear hn hX hdig t1 p1 dc
            obtain ⟨c0, c1, f0, f1, z0, z1, hbb⟩ := HM
            go_wp2_with fail
            ((with_reducible refine (T1.out _).mono ?_); rintro e w1 ⟨rfl, hb1⟩)
            obtain ⟨hc1, hf1⟩ := bcell hb1
            have hz1_w_0 : w.heap.size < w1.heap.size := by have h := hb1.size; (try simp at h); omega
            have hz1_w_1 : w.heap.size + 1 < w1.heap.size := by have h := hb1.size; (try simp at h); omega
            go_upto_region 19 with (fail)
            refine wp_world (fun x => RPMem w (w.heap.size + 1) n x ∧ (∀ o, x.cell? ⟨w1.heap.size, o, none⟩ = (#[.int .u64 (hw (pm n 10) 0), .int .u64 (hw (pm n 10) 1), .int .u64 (hw (pm n 10) 2), .int .u64 (hw (pm n 10) 3), .int .u64 (hw (pm n 10) 4), .int .u64 (hw (pm n 10) 5), .int .u64 (hw (pm n 10) 6), .int .u64 (hw (pm n 10) 7)] : Array Value)[o]?) ∧ w1.heap.size < x.heap.size) ⟨(HM0.out.later hb1).alloc _, fun o => by simp [go_sem], by simp⟩ ?_
            clear c0 c1 f0 f1 z0 z1 hbb hc1 hf1 HM0
            rintro A ⟨a0, a1, a2⟩
            have HMA := Lib.hid a0
            clear a0
            go_cut [11, 12] (fun v11 v12 wx => ∃ B : Nat, v11 = .pointer (some ⟨B, 0, none⟩) ∧ v12 = .bool o2 ∧ New A.heap.size B #[.int .u64 (hw (q) 0), .int .u64 (hw (q) 1), .int .u64 (hw (q) 2), .int .u64 (hw (q) 3), .int .u64 (hw (q) 4), .int .u64 (hw (q) 5), .int .u64 (hw (q) 6), .int .u64 (hw (q) 7)] wx ∧ Below A.heap.size A wx)
            case first =>
              refine wp_world (fun x => (∀ o, x.cell? ⟨w1.heap.size, o, none⟩ = (#[.int .u64 (hw (pm n 10) 0), .int .u64 (hw (pm n 10) 1), .int .u64 (hw (pm n 10) 2), .int .u64 (hw (pm n 10) 3), .int .u64 (hw (pm n 10) 4), .int .u64 (hw (pm n 10) 5), .int .u64 (hw (pm n 10) 6), .int .u64 (hw (pm n 10) 7)] : Array Value)[o]?) ∧ w1.heap.size < x.heap.size ∧ Below A.heap.size A x) ⟨fun o => by first | (simp [go_sem, a1, a2]; done) | (rcases o with _ | _ | _ | _ | _ | o <;> simp [go_sem, a1, a2]), by (first | omega | (simp [go_sem, a1, a2]; done) | (simp [go_sem, a1, a2]; omega)), by (repeat' (first | (with_reducible exact Below.refl _ _) | (with_reducible assumption) | (with_reducible refine below_alloc ?_ _) | (with_reducible refine Below.drew ?_) | (with_reducible refine Below.setCell ?_ ?_ _) | (with_reducible refine below_after ?_ (by assumption)) | go_size))⟩ ?_
              rintro E ⟨hEc0, hEz0, hEb⟩
              have hEK := Lib.hid (show ∀ x : World, Kp E.heap.size [] E x → ((∀ o, x.cell? ⟨w1.heap.size, o, none⟩ = (#[.int .u64 (hw (pm n 10) 0), .int .u64 (hw (pm n 10) 1), .int .u64 (hw (pm n 10) 2), .int .u64 (hw (pm n 10) 3), .int .u64 (hw (pm n 10) 4), .int .u64 (hw (pm n 10) 5), .int .u64 (hw (pm n 10) 6), .int .u64 (hw (pm n 10) 7)] : Array Value)[o]?) ∧ w1.heap.size < x.heap.size ∧ E.heap.size ≤ x.heap.size) from fun x k => ⟨fun o => (k.cell _ o hEz0 (by first | (simp; done) | (simp; omega))).trans (hEc0 o), Nat.lt_of_lt_of_le hEz0 k.size, k.size⟩)
              go_region_held3 (fun x => (∀ o, x.cell? ⟨w1.heap.size, o, none⟩ = (#[.int .u64 (hw (pm n 10) 0), .int .u64 (hw (pm n 10) 1), .int .u64 (hw (pm n 10) 2), .int .u64 (hw (pm n 10) 3), .int .u64 (hw (pm n 10) 4), .int .u64 (hw (pm n 10) 5), .int .u64 (hw (pm n 10) 6), .int .u64 (hw (pm n 10) 7)] : Array Value)[o]?) ∧ w1.heap.size < x.heap.size ∧ E.heap.size ≤ x.heap.size) ((refine hEK.out _ ?_; (repeat (first | (with_reducible assumption) | (with_reducible exact Kp.refl (Nat.le_refl _)) | (with_reducible refine Kp.drew ?_) | (with_reducible refine Kp.alloc ?_ _) | ((with_reducible refine Kp.put ?_ ?_ _); focus (first | (left; go_size; done) | (right; simp; done))) | ((with_reducible apply Kp.later); (with_reducible assumption)))))) ((first | (go_at_call 50; (with_reducible refine (P12.out _).mono ?_); rintro e E_1 ⟨rfl, hbE_1⟩; have hkE_1 : Kp E.heap.size [] E E_1 := (by (repeat (first | (with_reducible assumption) | (with_reducible exact Kp.refl (Nat.le_refl _)) | (with_reducible refine Kp.drew ?_) | (with_reducible refine Kp.alloc ?_ _) | ((with_reducible refine Kp.put ?_ ?_ _); focus (first | (left; go_size; done) | (right; simp; done))) | ((with_reducible apply Kp.later); (with_reducible assumption))))); obtain ⟨hE_1k, hE_1g⟩ := bcell hbE_1; have hE_1r := hkE_1.size; have hE_1s := hbE_1.size; (try simp at hE_1s); have hE_1z : E.heap.size ≤ E_1.heap.size := (by (first | exact hE_1s | exact Nat.le_of_lt hE_1s | exact Nat.le_of_lt (Nat.lt_of_succ_lt hE_1s))); (try (have hE_1t00 : E.heap.size < E_1.heap.size := (by (first | exact hE_1s | exact Nat.lt_of_succ_lt hE_1s)))); (try (have hE_1t01 : E.heap.size + 1 < E_1.heap.size := (by exact hE_1s))))))
              all_goals
                go_wp2
                go_meet
                case rel =>
                  (repeat (rename_i hjunk; clear hjunk)); have hwsE := hEb.size; skip
                  refine ⟨_, rfl, rfl, ⟨?_, ?_, ?_, ?_⟩, by (repeat' (first | (with_reducible exact Below.refl _ _) | (with_reducible assumption) | (with_reducible refine below_alloc ?_ _) | (with_reducible refine Below.drew ?_) | (with_reducible refine Below.setCell ?_ ?_ _) | (with_reducible refine below_after ?_ (by assumption)) | go_size))⟩
                  · (first | (with_reducible assumption) | omega | (simp; omega))
                  · ((try simp only [World.size_alloc, World.size_drew, World.size_setCell]); (first | (with_reducible assumption) | (with_reducible exact Nat.lt_add_one _) | (with_reducible exact Nat.lt_add_one_of_lt (Nat.lt_add_one _)) | (with_reducible refine Nat.lt_add_one_of_lt ?_; with_reducible assumption) | (with_reducible refine Nat.lt_add_one_of_lt (Nat.lt_add_one_of_lt ?_); with_reducible assumption) | omega))
                  · (repeat (first | (with_reducible assumption) | (with_reducible exact new_cells _ _ _) | (with_reducible exact new_cells2 _ _ _ _) | (with_reducible refine keep_drew ?_) | (with_reducible apply set8_at) | (with_reducible apply set5_at) | ((with_reducible refine new_cells_at ?_ _ _); (focus ((simp only [World.size_alloc, World.size_drew, World.size_setCell]; done)))) | ((with_reducible refine set8_far ?_ ?_); (focus ((first | (with_reducible refine Nat.ne_of_lt ?_; with_reducible assumption) | (with_reducible refine Nat.ne_of_gt ?_; with_reducible assumption) | (with_reducible exact Nat.ne_of_lt (Nat.lt_add_one _)) | (with_reducible exact Nat.ne_of_gt (Nat.lt_add_one _)) | omega)))) | ((with_reducible refine set5_far ?_ ?_); (focus ((first | (with_reducible refine Nat.ne_of_lt ?_; with_reducible assumption) | (with_reducible refine Nat.ne_of_gt ?_; with_reducible assumption) | (with_reducible exact Nat.ne_of_lt (Nat.lt_add_one _)) | (with_reducible exact Nat.ne_of_gt (Nat.lt_add_one _)) | omega)))) | ((with_reducible refine keep_cell_a ?_ ?_); (focus (((try simp only [World.size_alloc, World.size_drew, World.size_setCell]); (first | (with_reducible assumption) | (with_reducible exact Nat.lt_add_one _) | (with_reducible exact Nat.lt_add_one_of_lt (Nat.lt_add_one _)) | (with_reducible refine Nat.lt_add_one_of_lt ?_; with_reducible assumption) | (with_reducible refine Nat.lt_add_one_of_lt (Nat.lt_add_one_of_lt ?_); with_reducible assumption) | omega))))) | ((with_reducible refine keep_cell hbE_1 ?_ ?_); (focus (((try simp only [World.size_alloc, World.size_drew, World.size_setCell]); (first | (with_reducible assumption) | (with_reducible exact Nat.lt_add_one _) | (with_reducible exact Nat.lt_add_one_of_lt (Nat.lt_add_one _)) | (with_reducible refine Nat.lt_add_one_of_lt ?_; with_reducible assumption) | (with_reducible refine Nat.lt_add_one_of_lt (Nat.lt_add_one_of_lt ?_); with_reducible assumption) | omega)))))))
                  · (repeat (first | (with_reducible assumption) | (with_reducible exact new_frozen _ _ _) | (with_reducible exact new_frozen2 _ _ _ _) | (with_reducible refine keep_frozen_drew ?_) | (with_reducible refine keep_frozen_c ?_) | ((with_reducible refine new_frozen_at ?_ _ _); (focus ((simp only [World.size_alloc, World.size_drew, World.size_setCell]; done)))) | ((with_reducible refine keep_frozen_a ?_ ?_); (focus (((try simp only [World.size_alloc, World.size_drew, World.size_setCell]); (first | (with_reducible assumption) | (with_reducible exact Nat.lt_add_one _) | (with_reducible exact Nat.lt_add_one_of_lt (Nat.lt_add_one _)) | (with_reducible refine Nat.lt_add_one_of_lt ?_; with_reducible assumption) | (with_reducible refine Nat.lt_add_one_of_lt (Nat.lt_add_one_of_lt ?_); with_reducible assumption) | omega))))) | ((with_reducible refine keep_frozen hbE_1 ?_ ?_); (focus (((try simp only [World.size_alloc, World.size_drew, World.size_setCell]); (first | (with_reducible assumption) | (with_reducible exact Nat.lt_add_one _) | (with_reducible exact Nat.lt_add_one_of_lt (Nat.lt_add_one _)) | (with_reducible refine Nat.lt_add_one_of_lt ?_; with_reducible assumption) | (with_reducible refine Nat.lt_add_one_of_lt (Nat.lt_add_one_of_lt ?_); with_reducible assumption) | omega)))))))
            case rest =>
              obtain ⟨B, rfl, rfl, N1, hB⟩ := hcut
              have HN := Lib.hid N1
              have HMC := HMA.out.later hB
              have HC := Lib.hid HMC
              obtain ⟨c0, c1, f0, f1, z0, z1, hbb⟩ := HMC
              have n1 := N1.cell
              have n2 := N1.lt
              clear a1 a2 N1
              rcases DC.out with ⟨e1, rfl, rfl, rfl⟩ | ⟨e1, rfl | ⟨rfl, rfl⟩⟩
              · have E1 := Lib.hid e1
                clear e1
                go_wp2
                go_roundw
                case rel =>
                  refine ⟨k + 1, by omega, by go_num, by rw [hst.out]; exact E1.out, ?_⟩
                  rw [hst.out]
                  exact HC.out.put
                case measure => simp [intOf]; omega
              · have P3 := Lib.hid (P2.out (by have := hst.out; have := hpart.out; omega) hall'.out)
                clear e1
                go_wp2_with ((with_reducible show bodyPost _ _ _ _ _ _); refine bodyPost_ret (by simp [results, Tryd.results21, go_sem, c0, f0, z0]; try rfl) rfl ?_; exact ⟨by rw [P3.out.1, P3.out.2, zs_zero, Int.natAbs_zero, wd_zero.1, wd_zero.2.1, wd_zero.2.2.1, wd_zero.2.2.2], by (repeat' (first | (with_reducible exact Below.refl _ _) | (with_reducible assumption) | (with_reducible refine below_alloc ?_ _) | (with_reducible refine Below.drew ?_) | (with_reducible refine Below.setCell ?_ ?_ _) | (with_reducible refine below_after ?_ (by assumption)) | go_size))⟩)
              · have P3 := Lib.hid (P2.out (by have := hst.out; have := hpart.out; omega) hall'.out)
                clear e1
                go_wp2_with ((with_reducible show bodyPost _ _ _ _ _ _); refine bodyPost_ret (by simp [results, Tryd.results21, go_sem, c0, f0, z0]; try rfl) rfl ?_; exact ⟨by rw [P3.out.1, P3.out.2, zs_zero, Int.natAbs_zero, wd_zero.1, wd_zero.2.1, wd_zero.2.2.1, wd_zero.2.2.2], by (repeat' (first | (with_reducible exact Below.refl _ _) | (with_reducible assumption) | (with_reducible refine below_alloc ?_ _) | (with_reducible refine Below.drew ?_) | (with_reducible refine Below.setCell ?_ ?_ _) | (with_reducible refine below_after ?_ (by assumption)) | go_size))⟩)
          · obtain rfl : k = d.length := by omega
            rw [List.take_length] at hn HM
            have P3 := Lib.hid (P1.out hall'.out hn)
            have J := Lib.hid (join_any false (decVal d) hn)
            clear HM0 hn
            obtain ⟨c0, c1, f0, f1, z0, z1, hbb⟩ := HM
            have zw : w.heap.size < wr.heap.size := Nat.lt_trans z0 z1
            go_wp2_with fail
            ((with_reducible refine (J.out _).mono ?_); rintro e w1 ⟨rfl, hb1⟩)
            obtain ⟨hc1, hf1⟩ := bcell hb1
            have hz1_w_0 : w.heap.size < w1.heap.size := by have h := hb1.size; (try simp at h); omega
            have hz1_w_1 : w.heap.size + 1 < w1.heap.size := by have h := hb1.size; (try simp at h); omega
            go_wp2_with ((with_reducible show bodyPost _ _ _ _ _ _); refine bodyPost_ret (by simp [results, Tryd.results21, go_sem, hc1, hf1, hz1_w_0, hz1_w_1, c0, f0, zw]; try rfl) rfl ?_; exact ⟨by rw [P3.out.1, P3.out.2], by (repeat' (first | (with_reducible exact Below.refl _ _) | (with_reducible assumption) | (with_reducible refine below_alloc ?_ _) | (with_reducible refine Below.drew ?_) | (with_reducible refine Below.setCell ?_ ?_ _) | (with_reducible refine below_after ?_ (by assumption)) | go_size))⟩)
set_option maxHeartbeats 8000000 in
theorem rparse_neg (l d : List UInt8) (hl : l.length ≤ 1000) (hdl : d.length ≤ 1000) (h0 : 0 < l.length) (hd0 : 0 < d.length)
    (hX0 : ((((⟨l.toArray⟩ : ByteArray)[0]'(by rw [size_mk]; exact h0)).toNat : Int) == 45) = true) (hext : (⟨l.toArray⟩ : ByteArray).extract 1 l.length = ⟨d.toArray⟩)
    (hfirst : ¬ ((((⟨d.toArray⟩ : ByteArray)[0]'(by rw [size_mk]; exact hd0)).toNat : Int) = 48))
    (hbad : d.all isDig = false → parseZ l = 0 ∧ parseE l = 5)
    (hsum : d.all isDig = true → decVal d < 2 ^ 256 → parseZ l = val true (decVal d) ∧ parseE l = 0)
    (hov : ¬ decVal d < 2 ^ 256 → d.all isDig = true → parseZ l = 0 ∧ parseE l = 21) (w : World) :
    Calls Tryd.prog 21 #[.string ⟨l.toArray⟩] w fun e w' => e = .returned (.tuple #[(.agg #[.bool (zs (parseZ l)), .int .u64 (wd (Int.natAbs (parseZ l)) 0), .int .u64 (wd (Int.natAbs (parseZ l)) 1), .int .u64 (wd (Int.natAbs (parseZ l)) 2), .int .u64 (wd (Int.natAbs (parseZ l)) 3)]), .int .i64 (parseE l)]) ∧ Below w.heap.size w w' := by
  have BAD := Lib.hid hbad
  have P1 := Lib.hid hsum
  have P2 := Lib.hid hov
  have hne : l.isEmpty = false := by
    cases l with
    | nil => exact absurd h0 (by simp)
    | cons => rfl
  have hne2 : d.isEmpty = false := by
    cases d with
    | nil => exact absurd hd0 (by simp)
    | cons => rfl
  have hnl : ¬ l = [] := by intro h; subst h; simp at h0
  have hnd : ¬ d = [] := by intro h; subst h; simp at hd0
  clear hbad hsum hov
  go_enter Tryd.func21, Tryd.ntmps21
  go_wp2
  go_loop [6] (fun i => ∃ k : Nat, k ≤ d.length ∧ i = .int .i64 (k : Int) ∧ (d.take k).all isDig = true) (fun i => d.length - (intOf i).toNat)
  case atStart => exact ⟨0, by omega, rfl, by simp⟩
  case round =>
    obtain ⟨k, hk, rfl, hall⟩ := hrel
    have HALL := Lib.hid hall
    clear hall
    by_cases hlt : k < d.length
    · have hsz : (k : Int) < ((⟨d.toArray⟩ : ByteArray).size : Int) := by rw [size_mk]; omega
      by_cases hdg : isDig d[k] = true
      · have hb := dig_bounds8 hdg
        have x1 : 48 ≤ (((⟨d.toArray⟩ : ByteArray)[k]'(by rw [size_mk]; exact hlt)).toNat : Int) := by show 48 ≤ ((d[k]).toNat : Int); omega
        have x2 : (((⟨d.toArray⟩ : ByteArray)[k]'(by rw [size_mk]; exact hlt)).toNat : Int) ≤ 57 := by show ((d[k]).toNat : Int) ≤ 57; omega
        have HDG := Lib.hid hdg
        clear hb hdg
        go_wp2
        go_round
        case rel => exact ⟨k + 1, by omega, by go_num, by rw [List.take_succ_eq_append_getElem hlt, List.all_append, HALL.out]; simp [HDG.out]⟩
        case measure => simp [intOf]; omega
      · have P3 := Lib.hid (BAD.out (by
          cases h : d.all isDig
          · rfl
          · exact absurd (List.all_eq_true.1 h _ (List.getElem_mem hlt)) hdg))
        have hb : ((d[k]).toNat : Int) < 48 ∨ 57 < ((d[k]).toNat : Int) := by
          unfold isDig at hdg
          simp at hdg
          omega
        clear hdg
        rcases hb with hb | hb
        · have x1 : (((⟨d.toArray⟩ : ByteArray)[k]'(by rw [size_mk]; exact hlt)).toNat : Int) < 48 := hb
          clear hb
          go_wp2_with ((with_reducible show bodyPost _ _ _ _ _ _); refine bodyPost_ret (by simp [results, Tryd.results21, go_sem, go_sem]; try rfl) rfl ?_; exact ⟨by rw [P3.out.1, P3.out.2, zs_zero, Int.natAbs_zero, wd_zero.1, wd_zero.2.1, wd_zero.2.2.1, wd_zero.2.2.2], by (repeat' (first | (with_reducible exact Below.refl _ _) | (with_reducible assumption) | (with_reducible refine below_alloc ?_ _) | (with_reducible refine Below.drew ?_) | (with_reducible refine Below.setCell ?_ ?_ _) | (with_reducible refine below_after ?_ (by assumption)) | go_size))⟩)
        · have x1 : 57 < (((⟨d.toArray⟩ : ByteArray)[k]'(by rw [size_mk]; exact hlt)).toNat : Int) := hb
          clear hb
          go_wp2_with ((with_reducible show bodyPost _ _ _ _ _ _); refine bodyPost_ret (by simp [results, Tryd.results21, go_sem, go_sem]; try rfl) rfl ?_; exact ⟨by rw [P3.out.1, P3.out.2, zs_zero, Int.natAbs_zero, wd_zero.1, wd_zero.2.1, wd_zero.2.2.1, wd_zero.2.2.2], by (repeat' (first | (with_reducible exact Below.refl _ _) | (with_reducible assumption) | (with_reducible refine below_alloc ?_ _) | (with_reducible refine Below.drew ?_) | (with_reducible refine Below.setCell ?_ ?_ _) | (with_reducible refine below_after ?_ (by assumption)) | go_size))⟩)
    · obtain rfl : k = d.length := by omega
      have hall := HALL.out
      rw [List.take_length] at hall
      have hall' := Lib.hid hall
      clear hall HALL hlt hk
      go_wp2
      go_loopw [8] (fun i wr => ∃ k, k ≤ d.length ∧ i = .int .i64 (k : Int) ∧ decVal (d.take k) < 2 ^ 256 ∧ RPMem w (w.heap.size + 1) (decVal (d.take k)) wr) (fun i _ => d.length - (intOf i).toNat)
      case atStart =>
        refine ⟨0, by omega, rfl, by show 0 < 2 ^ 256; decide, ?_⟩
        refine ⟨fun o => by simp [go_sem], fun o => ?_, fun o => by simp [go_sem], fun o => by simp [go_sem], by omega, by simp, by go_grown⟩
        simp only [show decVal (d.take 0) = 0 from rfl, hw_zero]
        simp [go_sem]
      case round =>
        obtain ⟨k, hk, rfl, hn, HM⟩ := hrel
        have HM0 := Lib.hid HM
        by_cases hlt : k < d.length
        · have hdig := all_at hall'.out k hlt
          have hn' := Lib.hid hn
          have hst := Lib.hid (decVal_take d k hlt)
          have hpart := Lib.hid (decVal_part d (k + 1))
          generalize decVal (d.take k) = n at *
          have t1 := times10 n hn
          have hX : (((⟨d.toArray⟩ : ByteArray)[k]'(by rw [size_mk]; exact hlt)).toNat : Int) = ((d[k]).toNat : Int) := rfl
          have x1 : 48 ≤ (((⟨d.toArray⟩ : ByteArray)[k]'(by rw [size_mk]; exact hlt)).toNat : Int) := by rw [hX]; omega
          have x2 : (((⟨d.toArray⟩ : ByteArray)[k]'(by rw [size_mk]; exact hlt)).toNat : Int) ≤ 57 := by rw [hX]; omega
          have hsz : (k : Int) < ((⟨d.toArray⟩ : ByteArray).size : Int) := by rw [size_mk]; omega
          have dc := dig_cases n ((d[k]).toNat - 48) hn
          have p1 : ∀ w : World, Calls Tryd.prog 50 #[(.agg #[.int .u64 (hw (pm n 10) 0), .int .u64 (hw (pm n 10) 1), .int .u64 (hw (pm n 10) 2), .int .u64 (hw (pm n 10) 3), .int .u64 (hw (pm n 10) 4), .int .u64 (hw (pm n 10) 5), .int .u64 (hw (pm n 10) 6), .int .u64 (hw (pm n 10) 7)]), .agg #[.int .u64 (IntKind.u64.wrap (IntKind.u8.wrap ((((⟨d.toArray⟩ : ByteArray)[k]'(by rw [size_mk]; exact hlt)).toNat : Int) - 48))), .int .u64 0, .int .u64 0, .int .u64 0, .int .u64 0, .int .u64 0, .int .u64 0, .int .u64 0]] w fun e w' => e = .returned (.tuple #[(.agg #[.int .u64 (hw (sm (pm n 10) ((d[k]).toNat - 48)) 0), .int .u64 (hw (sm (pm n 10) ((d[k]).toNat - 48)) 1), .int .u64 (hw (sm (pm n 10) ((d[k]).toNat - 48)) 2), .int .u64 (hw (sm (pm n 10) ((d[k]).toNat - 48)) 3), .int .u64 (hw (sm (pm n 10) ((d[k]).toNat - 48)) 4), .int .u64 (hw (sm (pm n 10) ((d[k]).toNat - 48)) 5), .int .u64 (hw (sm (pm n 10) ((d[k]).toNat - 48)) 6), .int .u64 (hw (sm (pm n 10) ((d[k]).toNat - 48)) 7)]), .bool (ovB (pm n 10 + ((d[k]).toNat - 48)))]) ∧ Below w.heap.size w w' := fun w => by
            have h := plus_small (pm n 10) ((d[k]).toNat - 48) (pm_lt _ _) (by omega) w
            rwa [show (((d[k]).toNat - 48 : Nat) : Int) = IntKind.u64.wrap (IntKind.u8.wrap ((((⟨d.toArray⟩ : ByteArray)[k]'(by rw [size_mk]; exact hlt)).toNat : Int) - 48)) by rw [hX]; simp [IntKind.wrap, IntKind.signed, IntKind.bits]; omega] at h
          generalize ovB (n * 10) = o1 at t1 dc
          generalize ovB (pm n 10 + ((d[k]).toNat - 48)) = o2 at p1 dc
          generalize sm (pm n 10) ((d[k]).toNat - 48) = q at p1 dc
          have T1 := Lib.hid t1
          have P12 := Lib.hid p1
          have DC := Lib.hid dc
          clear hn hX hdig t1 p1 dc
          obtain ⟨c0, c1, f0, f1, z0, z1, hbb⟩ := HM
          go_wp2_with fail
          ((with_reducible refine (T1.out _).mono ?_); rintro e w1 ⟨rfl, hb1⟩)
          obtain ⟨hc1, hf1⟩ := bcell hb1
          have hz1_w_0 : w.heap.size < w1.heap.size := by have h := hb1.size; (try simp at h); omega
          have hz1_w_1 : w.heap.size + 1 < w1.heap.size := by have h := hb1.size; (try simp at h); omega
          go_upto_region 19 with (fail)
          refine wp_world (fun x => RPMem w (w.heap.size + 1) n x ∧ (∀ o, x.cell? ⟨w1.heap.size, o, none⟩ = (#[.int .u64 (hw (pm n 10) 0), .int .u64 (hw (pm n 10) 1), .int .u64 (hw (pm n 10) 2), .int .u64 (hw (pm n 10) 3), .int .u64 (hw (pm n 10) 4), .int .u64 (hw (pm n 10) 5), .int .u64 (hw (pm n 10) 6), .int .u64 (hw (pm n 10) 7)] : Array Value)[o]?) ∧ w1.heap.size < x.heap.size) ⟨(HM0.out.later hb1).alloc _, fun o => by simp [go_sem], by simp⟩ ?_
          clear c0 c1 f0 f1 z0 z1 hbb hc1 hf1 HM0
          rintro A ⟨a0, a1, a2⟩
          have HMA := Lib.hid a0
          clear a0
          go_cut [11, 12] (fun v11 v12 wx => ∃ B : Nat, v11 = .pointer (some ⟨B, 0, none⟩) ∧ v12 = .bool o2 ∧ New A.heap.size B #[.int .u64 (hw (q) 0), .int .u64 (hw (q) 1), .int .u64 (hw (q) 2), .int .u64 (hw (q) 3), .int .u64 (hw (q) 4), .int .u64 (hw (q) 5), .int .u64 (hw (q) 6), .int .u64 (hw (q) 7)] wx ∧ Below A.heap.size A wx)
          case first =>
            refine wp_world (fun x => (∀ o, x.cell? ⟨w1.heap.size, o, none⟩ = (#[.int .u64 (hw (pm n 10) 0), .int .u64 (hw (pm n 10) 1), .int .u64 (hw (pm n 10) 2), .int .u64 (hw (pm n 10) 3), .int .u64 (hw (pm n 10) 4), .int .u64 (hw (pm n 10) 5), .int .u64 (hw (pm n 10) 6), .int .u64 (hw (pm n 10) 7)] : Array Value)[o]?) ∧ w1.heap.size < x.heap.size ∧ Below A.heap.size A x) ⟨fun o => by first | (simp [go_sem, a1, a2]; done) | (rcases o with _ | _ | _ | _ | _ | o <;> simp [go_sem, a1, a2]), by (first | omega | (simp [go_sem, a1, a2]; done) | (simp [go_sem, a1, a2]; omega)), by (repeat' (first | (with_reducible exact Below.refl _ _) | (with_reducible assumption) | (with_reducible refine below_alloc ?_ _) | (with_reducible refine Below.drew ?_) | (with_reducible refine Below.setCell ?_ ?_ _) | (with_reducible refine below_after ?_ (by assumption)) | go_size))⟩ ?_
            rintro E ⟨hEc0, hEz0, hEb⟩
            have hEK := Lib.hid (show ∀ x : World, Kp E.heap.size [] E x → ((∀ o, x.cell? ⟨w1.heap.size, o, none⟩ = (#[.int .u64 (hw (pm n 10) 0), .int .u64 (hw (pm n 10) 1), .int .u64 (hw (pm n 10) 2), .int .u64 (hw (pm n 10) 3), .int .u64 (hw (pm n 10) 4), .int .u64 (hw (pm n 10) 5), .int .u64 (hw (pm n 10) 6), .int .u64 (hw (pm n 10) 7)] : Array Value)[o]?) ∧ w1.heap.size < x.heap.size ∧ E.heap.size ≤ x.heap.size) from fun x k => ⟨fun o => (k.cell _ o hEz0 (by first | (simp; done) | (simp; omega))).trans (hEc0 o), Nat.lt_of_lt_of_le hEz0 k.size, k.size⟩)
            go_region_held3 (fun x => (∀ o, x.cell? ⟨w1.heap.size, o, none⟩ = (#[.int .u64 (hw (pm n 10) 0), .int .u64 (hw (pm n 10) 1), .int .u64 (hw (pm n 10) 2), .int .u64 (hw (pm n 10) 3), .int .u64 (hw (pm n 10) 4), .int .u64 (hw (pm n 10) 5), .int .u64 (hw (pm n 10) 6), .int .u64 (hw (pm n 10) 7)] : Array Value)[o]?) ∧ w1.heap.size < x.heap.size ∧ E.heap.size ≤ x.heap.size) ((refine hEK.out _ ?_; (repeat (first | (with_reducible assumption) | (with_reducible exact Kp.refl (Nat.le_refl _)) | (with_reducible refine Kp.drew ?_) | (with_reducible refine Kp.alloc ?_ _) | ((with_reducible refine Kp.put ?_ ?_ _); focus (first | (left; go_size; done) | (right; simp; done))) | ((with_reducible apply Kp.later); (with_reducible assumption)))))) ((first | (go_at_call 50; (with_reducible refine (P12.out _).mono ?_); rintro e E_1 ⟨rfl, hbE_1⟩; have hkE_1 : Kp E.heap.size [] E E_1 := (by (repeat (first | (with_reducible assumption) | (with_reducible exact Kp.refl (Nat.le_refl _)) | (with_reducible refine Kp.drew ?_) | (with_reducible refine Kp.alloc ?_ _) | ((with_reducible refine Kp.put ?_ ?_ _); focus (first | (left; go_size; done) | (right; simp; done))) | ((with_reducible apply Kp.later); (with_reducible assumption))))); obtain ⟨hE_1k, hE_1g⟩ := bcell hbE_1; have hE_1r := hkE_1.size; have hE_1s := hbE_1.size; (try simp at hE_1s); have hE_1z : E.heap.size ≤ E_1.heap.size := (by (first | exact hE_1s | exact Nat.le_of_lt hE_1s | exact Nat.le_of_lt (Nat.lt_of_succ_lt hE_1s))); (try (have hE_1t00 : E.heap.size < E_1.heap.size := (by (first | exact hE_1s | exact Nat.lt_of_succ_lt hE_1s)))); (try (have hE_1t01 : E.heap.size + 1 < E_1.heap.size := (by exact hE_1s))))))
            all_goals
              go_wp2
              go_meet
              case rel =>
                (repeat (rename_i hjunk; clear hjunk)); have hwsE := hEb.size; skip
                refine ⟨_, rfl, rfl, ⟨?_, ?_, ?_, ?_⟩, by (repeat' (first | (with_reducible exact Below.refl _ _) | (with_reducible assumption) | (with_reducible refine below_alloc ?_ _) | (with_reducible refine Below.drew ?_) | (with_reducible refine Below.setCell ?_ ?_ _) | (with_reducible refine below_after ?_ (by assumption)) | go_size))⟩
                · (first | (with_reducible assumption) | omega | (simp; omega))
                · ((try simp only [World.size_alloc, World.size_drew, World.size_setCell]); (first | (with_reducible assumption) | (with_reducible exact Nat.lt_add_one _) | (with_reducible exact Nat.lt_add_one_of_lt (Nat.lt_add_one _)) | (with_reducible refine Nat.lt_add_one_of_lt ?_; with_reducible assumption) | (with_reducible refine Nat.lt_add_one_of_lt (Nat.lt_add_one_of_lt ?_); with_reducible assumption) | omega))
                · (repeat (first | (with_reducible assumption) | (with_reducible exact new_cells _ _ _) | (with_reducible exact new_cells2 _ _ _ _) | (with_reducible refine keep_drew ?_) | (with_reducible apply set8_at) | (with_reducible apply set5_at) | ((with_reducible refine new_cells_at ?_ _ _); (focus ((simp only [World.size_alloc, World.size_drew, World.size_setCell]; done)))) | ((with_reducible refine set8_far ?_ ?_); (focus ((first | (with_reducible refine Nat.ne_of_lt ?_; with_reducible assumption) | (with_reducible refine Nat.ne_of_gt ?_; with_reducible assumption) | (with_reducible exact Nat.ne_of_lt (Nat.lt_add_one _)) | (with_reducible exact Nat.ne_of_gt (Nat.lt_add_one _)) | omega)))) | ((with_reducible refine set5_far ?_ ?_); (focus ((first | (with_reducible refine Nat.ne_of_lt ?_; with_reducible assumption) | (with_reducible refine Nat.ne_of_gt ?_; with_reducible assumption) | (with_reducible exact Nat.ne_of_lt (Nat.lt_add_one _)) | (with_reducible exact Nat.ne_of_gt (Nat.lt_add_one _)) | omega)))) | ((with_reducible refine keep_cell_a ?_ ?_); (focus (((try simp only [World.size_alloc, World.size_drew, World.size_setCell]); (first | (with_reducible assumption) | (with_reducible exact Nat.lt_add_one _) | (with_reducible exact Nat.lt_add_one_of_lt (Nat.lt_add_one _)) | (with_reducible refine Nat.lt_add_one_of_lt ?_; with_reducible assumption) | (with_reducible refine Nat.lt_add_one_of_lt (Nat.lt_add_one_of_lt ?_); with_reducible assumption) | omega))))) | ((with_reducible refine keep_cell hbE_1 ?_ ?_); (focus (((try simp only [World.size_alloc, World.size_drew, World.size_setCell]); (first | (with_reducible assumption) | (with_reducible exact Nat.lt_add_one _) | (with_reducible exact Nat.lt_add_one_of_lt (Nat.lt_add_one _)) | (with_reducible refine Nat.lt_add_one_of_lt ?_; with_reducible assumption) | (with_reducible refine Nat.lt_add_one_of_lt (Nat.lt_add_one_of_lt ?_); with_reducible assumption) | omega)))))))
                · (repeat (first | (with_reducible assumption) | (with_reducible exact new_frozen _ _ _) | (with_reducible exact new_frozen2 _ _ _ _) | (with_reducible refine keep_frozen_drew ?_) | (with_reducible refine keep_frozen_c ?_) | ((with_reducible refine new_frozen_at ?_ _ _); (focus ((simp only [World.size_alloc, World.size_drew, World.size_setCell]; done)))) | ((with_reducible refine keep_frozen_a ?_ ?_); (focus (((try simp only [World.size_alloc, World.size_drew, World.size_setCell]); (first | (with_reducible assumption) | (with_reducible exact Nat.lt_add_one _) | (with_reducible exact Nat.lt_add_one_of_lt (Nat.lt_add_one _)) | (with_reducible refine Nat.lt_add_one_of_lt ?_; with_reducible assumption) | (with_reducible refine Nat.lt_add_one_of_lt (Nat.lt_add_one_of_lt ?_); with_reducible assumption) | omega))))) | ((with_reducible refine keep_frozen hbE_1 ?_ ?_); (focus (((try simp only [World.size_alloc, World.size_drew, World.size_setCell]); (first | (with_reducible assumption) | (with_reducible exact Nat.lt_add_one _) | (with_reducible exact Nat.lt_add_one_of_lt (Nat.lt_add_one _)) | (with_reducible refine Nat.lt_add_one_of_lt ?_; with_reducible assumption) | (with_reducible refine Nat.lt_add_one_of_lt (Nat.lt_add_one_of_lt ?_); with_reducible assumption) | omega)))))))
          case rest =>
            obtain ⟨B, rfl, rfl, N1, hB⟩ := hcut
            have HN := Lib.hid N1
            have HMC := HMA.out.later hB
            have HC := Lib.hid HMC
            obtain ⟨c0, c1, f0, f1, z0, z1, hbb⟩ := HMC
            have n1 := N1.cell
            have n2 := N1.lt
            clear a1 a2 N1
            rcases DC.out with ⟨e1, rfl, rfl, rfl⟩ | ⟨e1, rfl | ⟨rfl, rfl⟩⟩
            · have E1 := Lib.hid e1
              clear e1
              go_wp2
              go_roundw
              case rel =>
                refine ⟨k + 1, by omega, by go_num, by rw [hst.out]; exact E1.out, ?_⟩
                rw [hst.out]
                exact HC.out.put
              case measure => simp [intOf]; omega
            · have P3 := Lib.hid (P2.out (by have := hst.out; have := hpart.out; omega) hall'.out)
              clear e1
              go_wp2_with ((with_reducible show bodyPost _ _ _ _ _ _); refine bodyPost_ret (by simp [results, Tryd.results21, go_sem, c0, f0, z0]; try rfl) rfl ?_; exact ⟨by rw [P3.out.1, P3.out.2, zs_zero, Int.natAbs_zero, wd_zero.1, wd_zero.2.1, wd_zero.2.2.1, wd_zero.2.2.2], by (repeat' (first | (with_reducible exact Below.refl _ _) | (with_reducible assumption) | (with_reducible refine below_alloc ?_ _) | (with_reducible refine Below.drew ?_) | (with_reducible refine Below.setCell ?_ ?_ _) | (with_reducible refine below_after ?_ (by assumption)) | go_size))⟩)
            · have P3 := Lib.hid (P2.out (by have := hst.out; have := hpart.out; omega) hall'.out)
              clear e1
              go_wp2_with ((with_reducible show bodyPost _ _ _ _ _ _); refine bodyPost_ret (by simp [results, Tryd.results21, go_sem, c0, f0, z0]; try rfl) rfl ?_; exact ⟨by rw [P3.out.1, P3.out.2, zs_zero, Int.natAbs_zero, wd_zero.1, wd_zero.2.1, wd_zero.2.2.1, wd_zero.2.2.2], by (repeat' (first | (with_reducible exact Below.refl _ _) | (with_reducible assumption) | (with_reducible refine below_alloc ?_ _) | (with_reducible refine Below.drew ?_) | (with_reducible refine Below.setCell ?_ ?_ _) | (with_reducible refine below_after ?_ (by assumption)) | go_size))⟩)
        · obtain rfl : k = d.length := by omega
          rw [List.take_length] at hn HM
          have P3 := Lib.hid (P1.out hall'.out hn)
          have J := Lib.hid (join_any true (decVal d) hn)
          clear HM0 hn
          obtain ⟨c0, c1, f0, f1, z0, z1, hbb⟩ := HM
          have zw : w.heap.size < wr.heap.size := Nat.lt_trans z0 z1
          go_wp2_with fail
          ((with_reducible refine (J.out _).mono ?_); rintro e w1 ⟨rfl, hb1⟩)
          obtain ⟨hc1, hf1⟩ := bcell hb1
          have hz1_w_0 : w.heap.size < w1.heap.size := by have h := hb1.size; (try simp at h); omega
          have hz1_w_1 : w.heap.size + 1 < w1.heap.size := by have h := hb1.size; (try simp at h); omega
          go_wp2_with ((with_reducible show bodyPost _ _ _ _ _ _); refine bodyPost_ret (by simp [results, Tryd.results21, go_sem, hc1, hf1, hz1_w_0, hz1_w_1, c0, f0, zw]; try rfl) rfl ?_; exact ⟨by rw [P3.out.1, P3.out.2], by (repeat' (first | (with_reducible exact Below.refl _ _) | (with_reducible assumption) | (with_reducible refine below_alloc ?_ _) | (with_reducible refine Below.drew ?_) | (with_reducible refine Below.setCell ?_ ?_ _) | (with_reducible refine below_after ?_ (by assumption)) | go_size))⟩)
set_option maxHeartbeats 2000000 in
theorem rparse_lead_pos (l : List UInt8) (hl : l.length ≤ 1000) (h0 : 0 < l.length) (hX0 : ((((⟨l.toArray⟩ : ByteArray)[0]'(by rw [size_mk]; exact h0)).toNat : Int) == 45) = false) (h48 : (((⟨l.toArray⟩ : ByteArray)[0]'(by rw [size_mk]; exact h0)).toNat : Int) = 48) (hn : (!(l == [48])) = true) (w : World) :
    Calls Tryd.prog 21 #[.string ⟨l.toArray⟩] w fun e w' => e = .returned (.tuple #[(.agg #[.bool (zs (0)), .int .u64 (wd (Int.natAbs (0)) 0), .int .u64 (wd (Int.natAbs (0)) 1), .int .u64 (wd (Int.natAbs (0)) 2), .int .u64 (wd (Int.natAbs (0)) 3)]), .int .i64 5]) ∧ Below w.heap.size w w' := by
  simp only [zs_zero, Int.natAbs_zero, wd_zero.1, wd_zero.2.1, wd_zero.2.2.1, wd_zero.2.2.2]
  have hne : l.isEmpty = false := by
    cases l with
    | nil => exact absurd h0 (by simp)
    | cons => rfl
  have hnl : ¬ l = [] := by intro h; subst h; simp at h0
  go_enter Tryd.func21, Tryd.ntmps21
  go_wp2_with ((with_reducible show bodyPost _ _ _ _ _ _); refine bodyPost_ret (by simp [results, Tryd.results21, go_sem, go_sem]; try rfl) rfl ?_; exact ⟨rfl, by (repeat' (first | (with_reducible exact Below.refl _ _) | (with_reducible assumption) | (with_reducible refine below_alloc ?_ _) | (with_reducible refine Below.drew ?_) | (with_reducible refine Below.setCell ?_ ?_ _) | (with_reducible refine below_after ?_ (by assumption)) | go_size))⟩)
set_option maxHeartbeats 2000000 in
theorem rparse_lead_neg (l d : List UInt8) (hl : l.length ≤ 1000) (hdl : d.length ≤ 1000) (h0 : 0 < l.length) (hd0 : 0 < d.length) (hX0 : ((((⟨l.toArray⟩ : ByteArray)[0]'(by rw [size_mk]; exact h0)).toNat : Int) == 45) = true) (hext : (⟨l.toArray⟩ : ByteArray).extract 1 l.length = ⟨d.toArray⟩) (h48 : (((⟨d.toArray⟩ : ByteArray)[0]'(by rw [size_mk]; exact hd0)).toNat : Int) = 48) (hn : (!(l == [48])) = true) (w : World) :
    Calls Tryd.prog 21 #[.string ⟨l.toArray⟩] w fun e w' => e = .returned (.tuple #[(.agg #[.bool (zs (0)), .int .u64 (wd (Int.natAbs (0)) 0), .int .u64 (wd (Int.natAbs (0)) 1), .int .u64 (wd (Int.natAbs (0)) 2), .int .u64 (wd (Int.natAbs (0)) 3)]), .int .i64 5]) ∧ Below w.heap.size w w' := by
  simp only [zs_zero, Int.natAbs_zero, wd_zero.1, wd_zero.2.1, wd_zero.2.2.1, wd_zero.2.2.2]
  have hne : l.isEmpty = false := by
    cases l with
    | nil => exact absurd h0 (by simp)
    | cons => rfl
  have hne2 : d.isEmpty = false := by
    cases d with
    | nil => exact absurd hd0 (by simp)
    | cons => rfl
  have hnl : ¬ l = [] := by intro h; subst h; simp at h0
  have hnd : ¬ d = [] := by intro h; subst h; simp at hd0
  go_enter Tryd.func21, Tryd.ntmps21
  go_wp2_with ((with_reducible show bodyPost _ _ _ _ _ _); refine bodyPost_ret (by simp [results, Tryd.results21, go_sem, go_sem]; try rfl) rfl ?_; exact ⟨rfl, by (repeat' (first | (with_reducible exact Below.refl _ _) | (with_reducible assumption) | (with_reducible refine below_alloc ?_ _) | (with_reducible refine Below.drew ?_) | (with_reducible refine Below.setCell ?_ ?_ _) | (with_reducible refine below_after ?_ (by assumption)) | go_size))⟩)
theorem neg_no (c : UInt8) (t : List UInt8) (hc : ¬ c = 45) : negOf (c :: t) = false ∧ digOfS (c :: t) = c :: t := by
  have h : Lib.hasPrefix (c :: t) [45] = false := by
    unfold Lib.hasPrefix
    have h2 : ((45 : UInt8) == c) = false := by simpa using fun h => hc h.symm
    simp only [List.isPrefixOf, h2, Bool.false_and]
  unfold negOf digOfS Lib.trimPrefix
  rw [h]; exact ⟨rfl, rfl⟩
theorem neg_yes (t : List UInt8) : negOf (45 :: t) = true ∧ digOfS (45 :: t) = t := by
  have h : Lib.hasPrefix (45 :: t) [45] = true := by
    unfold Lib.hasPrefix
    simp [List.isPrefixOf]
  unfold negOf digOfS Lib.trimPrefix
  rw [h]; exact ⟨rfl, rfl⟩
/-- Parse: the number that the text denotes, or the error. -/
theorem rparse_any (l : List UInt8) (hl : l.length ≤ 1000) (w : World) :
    Calls Tryd.prog 21 #[.string ⟨l.toArray⟩] w fun e w' => e = .returned (.tuple #[(.agg #[.bool (zs (parseZ l)), .int .u64 (wd (Int.natAbs (parseZ l)) 0), .int .u64 (wd (Int.natAbs (parseZ l)) 1), .int .u64 (wd (Int.natAbs (parseZ l)) 2), .int .u64 (wd (Int.natAbs (parseZ l)) 3)]), .int .i64 (parseE l)]) ∧ Below w.heap.size w w' := by
  have bad : ∀ l : List UInt8, l.isEmpty = false → badS l = true → parseZ l = 0 ∧ parseE l = 5 := fun l h0 hb => by unfold parseZ parseE; rw [h0, hb]; exact ⟨rfl, rfl⟩
  match l, hl with
  | [], _ =>
    have e : parseZ [] = 0 ∧ parseE [] = 3 := by unfold parseZ parseE; exact ⟨rfl, rfl⟩
    rw [e.1, e.2]; exact rparse_none w
  | c :: t, hl =>
    by_cases hc : c = 45
    · subst hc
      obtain ⟨hg, hdg⟩ := neg_yes t
      cases t with
      | nil =>
        have e := bad [45] rfl (by unfold badS; rw [hdg]; rfl)
        rw [e.1, e.2]; exact rparse_dash w
      | cons c2 t2 =>
        have hne48 : ((45 :: c2 :: t2) == [48]) = false := by simp
        by_cases h48 : c2 = 48
        · subst h48
          have e := bad (45 :: 48 :: t2) rfl (by unfold badS; rw [hdg, hne48]; simp)
          rw [e.1, e.2]
          exact rparse_lead_neg _ (48 :: t2) hl (by simp at hl ⊢; omega) (by simp) (by simp) rfl (ext1 45 (48 :: t2)) rfl (by rw [hne48]; rfl) w
        · refine rparse_neg _ (c2 :: t2) hl (by simp at hl ⊢; omega) (by simp) (by simp) rfl (ext1 45 (c2 :: t2)) (fun h => h48 (UInt8.toNat_inj.1 (by have h2 : ((c2.toNat : Nat) : Int) = 48 := h; show c2.toNat = 48; omega))) ?_ ?_ ?_ w
          · intro ha
            exact bad _ rfl (by unfold badS; rw [hdg, ha]; simp)
          · intro ha hv
            have hb : badS (45 :: c2 :: t2) = false := by unfold badS; rw [hdg, ha]; simp [h48]
            have k := parse_sum (l := 45 :: c2 :: t2) rfl hb (by rw [hdg]; exact hv)
            rw [hg, hdg] at k; exact k
          · intro hv ha
            have hb : badS (45 :: c2 :: t2) = false := by unfold badS; rw [hdg, ha]; simp [h48]
            exact parse_over (l := 45 :: c2 :: t2) rfl hb (by rw [hdg]; exact hv)
    · obtain ⟨hg, hdg⟩ := neg_no c t hc
      have hx : (((c.toNat : Nat) : Int) == 45) = false := by
        simp only [beq_eq_false_iff_ne, ne_eq]; intro h; exact hc (UInt8.toNat_inj.1 (by show c.toNat = 45; omega))
      by_cases hz : c = 48 ∧ ((c :: t) == [48]) = false
      · obtain ⟨rfl, hz⟩ := hz
        have e := bad (48 :: t) rfl (by unfold badS; rw [hdg, hz]; simp)
        rw [e.1, e.2]
        exact rparse_lead_pos _ hl (by simp) hx rfl (by rw [hz]; rfl) w
      · refine rparse_pos _ hl (by simp) hx ?_ ?_ ?_ ?_ w
        · by_cases h48 : c = 48
          · right
            refine ⟨by subst h48; rfl, ?_⟩
            cases h : ((c :: t) == [48])
            · exact absurd ⟨h48, h⟩ hz
            · rfl
          · left
            intro h
            exact h48 (UInt8.toNat_inj.1 (by have h2 : ((c.toNat : Nat) : Int) = 48 := h; show c.toNat = 48; omega))
        · intro ha
          exact bad _ rfl (by unfold badS; rw [hdg, ha]; simp)
        · intro ha hv
          have hb : badS (c :: t) = false := by
            unfold badS; rw [hdg, ha]
            by_cases h48 : c = 48
            · cases h : ((c :: t) == [48])
              · exact absurd ⟨h48, h⟩ hz
              · simp
            · simp [h48]
          have k := parse_sum (l := c :: t) rfl hb (by rw [hdg]; exact hv)
          rw [hg, hdg] at k; exact k
        · intro hv ha
          have hb : badS (c :: t) = false := by
            unfold badS; rw [hdg, ha]
            by_cases h48 : c = 48
            · cases h : ((c :: t) == [48])
              · exact absurd ⟨h48, h⟩ hz
              · simp
            · simp [h48]
          exact parse_over (l := c :: t) rfl hb (by rw [hdg]; exact hv)
end Go.Proofs.YtnbdccobfmlhbaaDoor
