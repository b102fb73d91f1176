/-
  What Parse of package wide returns, for all texts of at most 1000 bytes: the number that they denote, or the error.
-/
import Derived.Test.YtnbdccobfmlhbaaDoorText
import Derived.Test.YtnbdccobfmlhbaaDoorParseM
import Derived.Shelf.Strings.SlTrimAscii
namespace Go.Proofs.YtnbdccobfmlhbaaDoor
set_option linter.all false
open Go Go.RowKit Wd
set_option maxRecDepth 100000
theorem zs_nat (n : Nat) : zs (n : Int) = false := by unfold zs; simp
/-- Of, Mul and Add of natural numbers: what fits, or 0 and the error. -/
theorem ofN_any (n : Nat) (h : n ≤ 1000) (w : World) : Calls Tryd.prog 28 #[.int .i64 (n : Int)] w fun e w' => e = .returned (.agg #[.bool (false), .int .u64 (wd (n) 0), .int .u64 (wd (n) 1), .int .u64 (wd (n) 2), .int .u64 (wd (n) 3)]) ∧ Below w.heap.size w w' := by
  have H := of_any (n : Int) (by omega) (by omega) w
  rwa [zs_nat, Int.natAbs_natCast] at H
theorem mulN_any (n m : Nat) (hn : n < 2 ^ 256) (hm : m < 2 ^ 256) : ∃ (p : Nat) (e : Int), ((n * m < 2 ^ 256 ∧ p = n * m ∧ e = 0) ∨ (¬ n * m < 2 ^ 256 ∧ p = 0 ∧ e = 21)) ∧ ∀ w : World,
    Calls Tryd.prog 13 #[(.agg #[.bool (false), .int .u64 (wd (n) 0), .int .u64 (wd (n) 1), .int .u64 (wd (n) 2), .int .u64 (wd (n) 3)]), (.agg #[.bool (false), .int .u64 (wd (m) 0), .int .u64 (wd (m) 1), .int .u64 (wd (m) 2), .int .u64 (wd (m) 3)])] w fun r w' => r = .returned (.tuple #[(.agg #[.bool (false), .int .u64 (wd (p) 0), .int .u64 (wd (p) 1), .int .u64 (wd (p) 2), .int .u64 (wd (p) 3)]), .int .i64 e]) ∧ Below w.heap.size w w' := by
  have H := mul_any false false n m hn hm
  have e0 : val false n * val false m = ((n * m : Nat) : Int) := by unfold val; simp
  rw [e0] at H
  by_cases h : n * m < 2 ^ 256
  · rw [fitZ_in (by rw [Int.natAbs_natCast]; exact h), fitE_in (by rw [Int.natAbs_natCast]; exact h), zs_nat, Int.natAbs_natCast] at H
    exact ⟨_, _, Or.inl ⟨h, rfl, rfl⟩, H⟩
  · rw [fitZ_out (by rw [Int.natAbs_natCast]; exact h), fitE_out (by rw [Int.natAbs_natCast]; exact h), zs_zero, Int.natAbs_zero] at H
    exact ⟨_, _, Or.inr ⟨h, rfl, rfl⟩, H⟩
theorem addN_any (n m : Nat) (hn : n < 2 ^ 256) (hm : m < 2 ^ 256) : ∃ (p : Nat) (e : Int), ((n + m < 2 ^ 256 ∧ p = n + m ∧ e = 0) ∨ (¬ n + m < 2 ^ 256 ∧ p = 0 ∧ e = 21)) ∧ ∀ w : World,
    Calls Tryd.prog 33 #[(.agg #[.bool (false), .int .u64 (wd (n) 0), .int .u64 (wd (n) 1), .int .u64 (wd (n) 2), .int .u64 (wd (n) 3)]), (.agg #[.bool (false), .int .u64 (wd (m) 0), .int .u64 (wd (m) 1), .int .u64 (wd (m) 2), .int .u64 (wd (m) 3)])] w fun r w' => r = .returned (.tuple #[(.agg #[.bool (false), .int .u64 (wd (p) 0), .int .u64 (wd (p) 1), .int .u64 (wd (p) 2), .int .u64 (wd (p) 3)]), .int .i64 e]) ∧ Below w.heap.size w w' := by
  have H := add_any false false n m hn hm
  have e0 : val false n + val false m = ((n + m : Nat) : Int) := by unfold val; simp
  rw [e0] at H
  by_cases h : n + m < 2 ^ 256
  · rw [fitZ_in (by rw [Int.natAbs_natCast]; exact h), fitE_in (by rw [Int.natAbs_natCast]; exact h), zs_nat, Int.natAbs_natCast] at H
    exact ⟨_, _, Or.inl ⟨h, rfl, rfl⟩, H⟩
  · rw [fitZ_out (by rw [Int.natAbs_natCast]; exact h), fitE_out (by rw [Int.natAbs_natCast]; exact h), zs_zero, Int.natAbs_zero] at H
    exact ⟨_, _, Or.inr ⟨h, rfl, rfl⟩, H⟩
theorem trim_call (l : List UInt8) (hl : l.length ≤ 1000) (w : World) :
    Calls Tryd.prog 59 #[.string ⟨l.toArray⟩, .string ⟨#[48, 49, 50, 51, 52, 53, 54, 55, 56, 57]⟩] w fun e w' => e = .returned (.string ⟨(Lib.trimS l digits10).toArray⟩) ∧ Below w.heap.size w w' := by
  have h := Any.strings_Trim_laid Tryd.lays160 (by kernel_rfl) ⟨l.toArray⟩ ⟨#[48, 49, 50, 51, 52, 53, 54, 55, 56, 57]⟩ w (by show l.toArray.size ≤ _; simp; omega) (by decide) (ascii_of_all (by decide))
  exact h
theorem cut_call (l : List UInt8) (w : World) :
    Calls Tryd.prog 58 #[.string ⟨l.toArray⟩, .string ⟨#[45]⟩] w fun e w' => e = .returned (.tuple #[.string ⟨(digOfS l).toArray⟩, .bool (negOf l)]) ∧ w' = w :=
  Tryd.strings_CutPrefix ⟨l.toArray⟩ ⟨#[45]⟩ w
set_option maxHeartbeats 1000000 in
theorem parse_none (w : World) :
    Calls Tryd.prog 20 #[.string ⟨#[]⟩] w fun e w' => e = .returned (.tuple #[(.agg #[.bool (zs (0)), .int .u64 (wd (Int.natAbs (0)) 0), .int .u64 (wd (Int.natAbs (0)) 1), .int .u64 (wd (Int.natAbs (0)) 2), .int .u64 (wd (Int.natAbs (0)) 3)]), .int .i64 3]) ∧ Below w.heap.size w w' := by
  simp only [zs_zero, Int.natAbs_zero, wd_zero.1, wd_zero.2.1, wd_zero.2.2.1, wd_zero.2.2.2]
  go_enter Tryd.func20, Tryd.ntmps20
  go_wp2_with ((with_reducible show bodyPost _ _ _ _ _ _); refine bodyPost_ret (by simp [results, Tryd.results20, go_sem, go_sem]; try rfl) rfl ?_; exact ⟨rfl, by (repeat' (first | (with_reducible exact Below.refl _ _) | (with_reducible assumption) | (with_reducible refine below_alloc ?_ _) | (with_reducible refine Below.drew ?_) | (with_reducible refine Below.setCell ?_ ?_ _) | (with_reducible refine below_after ?_ (by assumption)) | go_size))⟩)
set_option maxHeartbeats 1000000 in
theorem parse_bad (l : List UInt8) (hl : l.length ≤ 1000) (h0 : l.isEmpty = false) (hb : badS l = true) (w : World) :
    Calls Tryd.prog 20 #[.string ⟨l.toArray⟩] w fun e w' => e = .returned (.tuple #[(.agg #[.bool (zs (0)), .int .u64 (wd (Int.natAbs (0)) 0), .int .u64 (wd (Int.natAbs (0)) 1), .int .u64 (wd (Int.natAbs (0)) 2), .int .u64 (wd (Int.natAbs (0)) 3)]), .int .i64 5]) ∧ Below w.heap.size w w' := by
  simp only [zs_zero, Int.natAbs_zero, wd_zero.1, wd_zero.2.1, wd_zero.2.2.1, wd_zero.2.2.2]
  have hd : (digOfS l).length ≤ 1000 := by
    unfold digOfS Lib.trimPrefix; split
    · simp; omega
    · exact hl
  have H1 := Lib.hid (cut_call l)
  have H2 := Lib.hid (trim_call (digOfS l) hd)
  have ht := trim_all (digOfS l)
  unfold badS at hb
  generalize digOfS l = d at *
  cases d with
  | nil =>
    clear hb H2 ht
    go_enter Tryd.func20, Tryd.ntmps20
    go_wp2_with fail
    refine (H1.out _).mono ?_
    rintro e w1 ⟨rfl, rfl⟩
    go_wp2_with ((with_reducible show bodyPost _ _ _ _ _ _); refine bodyPost_ret (by simp [results, Tryd.results20, go_sem, go_sem]; try rfl) rfl ?_; exact ⟨rfl, by (repeat' (first | (with_reducible exact Below.refl _ _) | (with_reducible assumption) | (with_reducible refine below_alloc ?_ _) | (with_reducible refine Below.drew ?_) | (with_reducible refine Below.setCell ?_ ?_ _) | (with_reducible refine below_after ?_ (by assumption)) | go_size))⟩)
  | cons c t =>
    cases h2 : (c :: t).all isDig
    · rw [h2] at ht
      clear hb h2
      go_enter Tryd.func20, Tryd.ntmps20
      go_wp2_with fail
      refine (H1.out _).mono ?_
      rintro e w1 ⟨rfl, rfl⟩
      go_wp2_with fail
      ((with_reducible refine (H2.out _).mono ?_); rintro e w2 ⟨rfl, hb2⟩)
      obtain ⟨hc2, hf2⟩ := bcell hb2
      have hz2_w_0 : w.heap.size < w2.heap.size := by have h := hb2.size; (try simp at h); omega
      go_wp2_with ((with_reducible show bodyPost _ _ _ _ _ _); refine bodyPost_ret (by simp [results, Tryd.results20, go_sem, hc2, hf2, hz2_w_0]; try rfl) rfl ?_; exact ⟨rfl, by (repeat' (first | (with_reducible exact Below.refl _ _) | (with_reducible assumption) | (with_reducible refine below_alloc ?_ _) | (with_reducible refine Below.drew ?_) | (with_reducible refine Below.setCell ?_ ?_ _) | (with_reducible refine below_after ?_ (by assumption)) | go_size))⟩)
    · rw [h2] at ht
      rw [h2] at hb
      simp only [List.isEmpty_cons, Bool.not_true, Bool.or_false, Bool.false_or, List.head?_cons, Bool.and_eq_true, Bool.not_eq_true', beq_iff_eq, Option.some.injEq] at hb
      obtain ⟨rfl, e1⟩ := hb
      clear h2
      go_enter Tryd.func20, Tryd.ntmps20
      go_wp2_with fail
      refine (H1.out _).mono ?_
      rintro e w1 ⟨rfl, rfl⟩
      go_wp2_with fail
      ((with_reducible refine (H2.out _).mono ?_); rintro e w2 ⟨rfl, hb2⟩)
      obtain ⟨hc2, hf2⟩ := bcell hb2
      have hz2_w_0 : w.heap.size < w2.heap.size := by have h := hb2.size; (try simp at h); omega
      go_wp2_with ((with_reducible show bodyPost _ _ _ _ _ _); refine bodyPost_ret (by simp [results, Tryd.results20, go_sem, hc2, hf2, hz2_w_0]; try rfl) rfl ?_; exact ⟨rfl, by (repeat' (first | (with_reducible exact Below.refl _ _) | (with_reducible assumption) | (with_reducible refine below_alloc ?_ _) | (with_reducible refine Below.drew ?_) | (with_reducible refine Below.setCell ?_ ?_ _) | (with_reducible refine below_after ?_ (by assumption)) | go_size))⟩)
theorem size_mk (d : List UInt8) : (⟨d.toArray⟩ : ByteArray).size = d.length := by show d.toArray.size = _; simp
/-- The call's own memory while it reads digits: the result's box and the number's. -/
def PrsMem (w : World) (B n : Nat) (wr : World) : Prop :=
  (∀ o, wr.cell? ⟨w.heap.size, o, none⟩ = (#[.bool false, .int .u64 0, .int .u64 0, .int .u64 0, .int .u64 0] : Array Value)[o]?) ∧ (∀ o, wr.cell? ⟨B, o, none⟩ = (#[.bool (false), .int .u64 (wd (n) 0), .int .u64 (wd (n) 1), .int .u64 (wd (n) 2), .int .u64 (wd (n) 3)] : Array Value)[o]?)
  ∧ (∀ o, wr.frozen? ⟨w.heap.size, o, none⟩ = false) ∧ (∀ o, wr.frozen? ⟨B, o, none⟩ = false) ∧ w.heap.size < B ∧ B < wr.heap.size ∧ Below w.heap.size w wr
theorem PrsMem.later {w wr wx : World} {B n : Nat} (h : PrsMem w B n wr) (hb : Below wr.heap.size wr wx) : PrsMem w B n wx := by
  obtain ⟨c0, c1, f0, f1, z0, z1, hB⟩ := h
  exact ⟨keep_cell hb (by omega) c0, keep_cell hb z1 c1, keep_frozen hb (by omega) f0, keep_frozen hb z1 f1, z0, keep_lt hb z1, below_after hB hb⟩
theorem PrsMem.far {w wr : World} {B B' n i : Nat} {v : Value} (h : PrsMem w B n wr) (hB : B < B') : PrsMem w B n (wr.setCell ⟨B', i, none⟩ v) := by
  obtain ⟨c0, c1, f0, f1, z0, z1, hb⟩ := h
  exact ⟨set_far (by omega) c0, set_far (by omega) c1, fun o => by rw [World.frozen?_setCell]; exact f0 o, fun o => by rw [World.frozen?_setCell]; exact f1 o, z0, by simpa using z1, hb.setCell (by simp; omega) _⟩
theorem PrsMem.put {w wr : World} {B n n' : Nat} (h : PrsMem w B n wr) :
    PrsMem w B n' (((((wr.setCell ⟨B, 0, none⟩ (.bool false)).setCell ⟨B, 1, none⟩ (.int .u64 (wd n' 0))).setCell ⟨B, 2, none⟩ (.int .u64 (wd n' 1))).setCell ⟨B, 3, none⟩ (.int .u64 (wd n' 2))).setCell ⟨B, 4, none⟩ (.int .u64 (wd n' 3))) := by
  obtain ⟨c0, c1, f0, f1, z0, z1, hb⟩ := h
  refine ⟨set_far (by omega) (set_far (by omega) (set_far (by omega) (set_far (by omega) (set_far (by omega) c0)))), set_at (set_at (set_at (set_at (set_at c1)))), fun o => ?_, fun o => ?_, z0, by simpa using z1, ?_⟩
  · simp only [World.frozen?_setCell]; exact f0 o
  · simp only [World.frozen?_setCell]; exact f1 o
  · exact ((((hb.setCell (by simp; omega) _).setCell (by simp; omega) _).setCell (by simp; omega) _).setCell (by simp; omega) _).setCell (by simp; omega) _
theorem parse_sum {l : List UInt8} (h0 : l.isEmpty = false) (hb : badS l = false) (h : decVal (digOfS l) < 2 ^ 256) : parseZ l = val (negOf l) (decVal (digOfS l)) ∧ parseE l = 0 := by
  unfold parseZ parseE val
  rw [h0, hb]
  simp [h]
theorem parse_over {l : List UInt8} (h0 : l.isEmpty = false) (hb : badS l = false) (h : ¬ decVal (digOfS l) < 2 ^ 256) : parseZ l = 0 ∧ parseE l = 21 := by
  unfold parseZ parseE
  rw [h0, hb]
  simp [h]
set_option maxHeartbeats 4000000 in
theorem parse_good (l : List UInt8) (hl : l.length ≤ 1000) (h0 : l.isEmpty = false) (hb : badS l = false) (w : World) :
    Calls Tryd.prog 20 #[.string ⟨l.toArray⟩] w fun e w' => e = .returned (.tuple #[(.agg #[.bool (zs (parseZ l)), .int .u64 (wd (Int.natAbs (parseZ l)) 0), .int .u64 (wd (Int.natAbs (parseZ l)) 1), .int .u64 (wd (Int.natAbs (parseZ l)) 2), .int .u64 (wd (Int.natAbs (parseZ l)) 3)]), .int .i64 (parseE l)]) ∧ Below w.heap.size w w' := by
  have hd : (digOfS l).length ≤ 1000 := by
    unfold digOfS Lib.trimPrefix; split
    · simp; omega
    · exact hl
  have H1 := Lib.hid (cut_call l)
  have H2 := Lib.hid (trim_call (digOfS l) hd)
  have ht := trim_all (digOfS l)
  have P1 := Lib.hid (fun h => parse_sum (l := l) h0 hb h)
  have P2 := Lib.hid (fun h => parse_over (l := l) h0 hb h)
  unfold badS at hb
  generalize digOfS l = d at *
  generalize negOf l = ng at *
  have hne : d.isEmpty = false := by
    cases h : d.isEmpty
    · rfl
    · rw [h] at hb; simp at hb
  have hall : d.all isDig = true := by
    cases h : d.all isDig
    · rw [h] at hb; simp at hb
    · rfl
  rw [hall] at ht
  rw [hne, hall] at hb
  have hlen : 0 < d.length := by cases d with | nil => simp at hne | cons => simp
  have hfirst : (¬ ((((⟨d.toArray⟩ : ByteArray)[0]'(by rw [size_mk]; exact hlen)).toNat : Int) = 48)) ∨ (((((⟨d.toArray⟩ : ByteArray)[0]'(by rw [size_mk]; exact hlen)).toNat : Int) = 48) ∧ (!(l == [48])) = false) := by
    cases d with
    | nil => exact absurd hlen (by simp)
    | cons c t =>
      simp only [List.head?_cons, Bool.not_true, Bool.false_or, Bool.or_false, Bool.and_eq_false_iff] at hb
      by_cases hp : ((((⟨(c :: t).toArray⟩ : ByteArray)[0]'(by rw [size_mk]; exact hlen)).toNat : Int) = 48)
      case neg => exact Or.inl hp
      rcases hb with hb | hb
      · left
        intro h
        have h1 : c = 48 := UInt8.toNat_inj.1 (show c.toNat = 48 by have h2 : ((c.toNat : Nat) : Int) = 48 := h; omega)
        subst h1
        simp at hb
      · right; exact ⟨hp, hb⟩
  have hall' := Lib.hid hall
  clear hb hall
  rcases hfirst with hfirst | ⟨hfirst, hfirst2⟩
  all_goals
    go_enter Tryd.func20, Tryd.ntmps20
    go_wp2_with fail
    refine (H1.out _).mono ?_
    rintro e w1 ⟨rfl, rfl⟩
    go_wp2_with fail
    ((with_reducible refine (H2.out _).mono ?_); rintro e w2 ⟨rfl, hb2⟩)
    obtain ⟨hc2, hf2⟩ := bcell hb2
    have hz2_w_0 : w.heap.size < w2.heap.size := by have h := hb2.size; (try simp at h); omega
    go_wp2_with fail
    clear hfirst
    have hB : w.heap.size < w2.heap.size := hz2_w_0
    go_loopw [37] (fun i wr => ∃ k, k ≤ d.length ∧ i = .int .i64 (k : Int) ∧ decVal (d.take k) < 2 ^ 256 ∧ PrsMem w w2.heap.size (decVal (d.take k)) wr) (fun i _ => d.length - (intOf i).toNat)
    case atStart =>
      refine ⟨0, by omega, rfl, by show 0 < 2 ^ 256; decide, ?_⟩
      refine ⟨fun o => by simp [go_sem, hc2, hB], fun o => ?_, fun o => by simp [go_sem, hf2, hB], fun o => by simp [go_sem], hB, by simp, by (repeat' (first | (with_reducible exact Below.refl _ _) | (with_reducible assumption) | (with_reducible refine below_alloc ?_ _) | (with_reducible refine Below.drew ?_) | (with_reducible refine Below.setCell ?_ ?_ _) | (with_reducible refine below_after ?_ (by assumption)) | go_size))⟩
      simp only [show decVal (d.take 0) = 0 from rfl, wd_zero.1, wd_zero.2.1, wd_zero.2.2.1, wd_zero.2.2.2]
      simp [go_sem]
    case round =>
      obtain ⟨k, hk, rfl, hn, HM⟩ := hrel
      clear hc2 hf2 hz2_w_0 hb2
      have HM0 := Lib.hid HM
      by_cases hlt : k < d.length
      · have hn' := Lib.hid hn
        have hst := Lib.hid (decVal_take d k hlt)
        have hpart := Lib.hid (decVal_part d (k + 1))
        have hdig := all_at hall'.out k hlt
        generalize decVal (d.take k) = n at *
        clear hn
        obtain ⟨p, e, hpe, M10⟩ := mulN_any n 10 hn'.out (by decide)
        have O10 := Lib.hid (show ∀ w : World, Calls Tryd.prog 28 #[.int .i64 10] w fun e w' => e = .returned (.agg #[.bool (false), .int .u64 (wd (10) 0), .int .u64 (wd (10) 1), .int .u64 (wd (10) 2), .int .u64 (wd (10) 3)]) ∧ Below w.heap.size w w' from fun w => ofN_any 10 (by omega) w)
        have MM := Lib.hid M10
        have HPE := Lib.hid hpe
        clear M10 hpe
        obtain ⟨c0, c1, f0, f1, z0, z1, hb⟩ := HM
        go_upto_region 10 with (fail)
        go_cut [8, 9] (fun v8 v9 wx => ∃ B : Nat, v8 = .pointer (some ⟨B, 0, none⟩) ∧ v9 = .int .i64 e ∧ wr.heap.size ≤ B ∧ B < wx.heap.size ∧ (∀ o, wx.cell? ⟨B, o, none⟩ = (#[.bool (false), .int .u64 (wd (p) 0), .int .u64 (wd (p) 1), .int .u64 (wd (p) 2), .int .u64 (wd (p) 3)] : Array Value)[o]?) ∧ (∀ o, wx.frozen? ⟨B, o, none⟩ = false) ∧ Below wr.heap.size wr wx)
        case first =>
          refine wp_world (fun x => (∀ o, x.cell? ⟨w2.heap.size, o, none⟩ = (#[.bool (false), .int .u64 (wd (n) 0), .int .u64 (wd (n) 1), .int .u64 (wd (n) 2), .int .u64 (wd (n) 3)] : Array Value)[o]?) ∧ w2.heap.size < x.heap.size ∧ Below wr.heap.size wr x) ⟨fun o => by first | (simp [go_sem, c1, z1]; done) | (rcases o with _ | _ | _ | _ | _ | o <;> simp [go_sem, c1, z1]), by (first | omega | (simp [go_sem, c1, z1]; done) | (simp [go_sem, c1, z1]; omega)), by (repeat' (first | (with_reducible exact Below.refl _ _) | (with_reducible assumption) | (with_reducible refine below_alloc ?_ _) | (with_reducible refine Below.drew ?_) | (with_reducible refine Below.setCell ?_ ?_ _) | (with_reducible refine below_after ?_ (by assumption)) | go_size))⟩ ?_
          rintro W ⟨hWc0, hWz0, hWb⟩
          have hWK := Lib.hid (show ∀ x : World, Kp W.heap.size [] W x → ((∀ o, x.cell? ⟨w2.heap.size, o, none⟩ = (#[.bool (false), .int .u64 (wd (n) 0), .int .u64 (wd (n) 1), .int .u64 (wd (n) 2), .int .u64 (wd (n) 3)] : Array Value)[o]?) ∧ w2.heap.size < x.heap.size ∧ W.heap.size ≤ x.heap.size) from fun x k => ⟨fun o => (k.cell _ o hWz0 (by first | (simp; done) | (simp; omega))).trans (hWc0 o), Nat.lt_of_lt_of_le hWz0 k.size, k.size⟩)
          go_region_held3 (fun x => (∀ o, x.cell? ⟨w2.heap.size, o, none⟩ = (#[.bool (false), .int .u64 (wd (n) 0), .int .u64 (wd (n) 1), .int .u64 (wd (n) 2), .int .u64 (wd (n) 3)] : Array Value)[o]?) ∧ w2.heap.size < x.heap.size ∧ W.heap.size ≤ x.heap.size) ((refine hWK.out _ ?_; (repeat (first | (with_reducible assumption) | (with_reducible exact Kp.refl (Nat.le_refl _)) | (with_reducible refine Kp.drew ?_) | (with_reducible refine Kp.alloc ?_ _) | ((with_reducible refine Kp.put ?_ ?_ _); focus (first | (left; go_size; done) | (right; simp; done))) | ((with_reducible apply Kp.later); (with_reducible assumption)))))) ((first | (go_at_call 28; (with_reducible refine (O10.out _).mono ?_); rintro e W_1 ⟨rfl, hbW_1⟩; have hkW_1 : Kp W.heap.size [] W W_1 := (by (repeat (first | (with_reducible assumption) | (with_reducible exact Kp.refl (Nat.le_refl _)) | (with_reducible refine Kp.drew ?_) | (with_reducible refine Kp.alloc ?_ _) | ((with_reducible refine Kp.put ?_ ?_ _); focus (first | (left; go_size; done) | (right; simp; done))) | ((with_reducible apply Kp.later); (with_reducible assumption))))); obtain ⟨hW_1k, hW_1g⟩ := bcell hbW_1; have hW_1r := hkW_1.size; have hW_1s := hbW_1.size; (try (have hW_1t : W.heap.size < W_1.heap.size := (by simp at hW_1s; omega)))) | (go_at_call 13; (with_reducible refine (MM.out _).mono ?_); rintro e W_2 ⟨rfl, hbW_2⟩; have hkW_2 : Kp W.heap.size [] W W_2 := (by (repeat (first | (with_reducible assumption) | (with_reducible exact Kp.refl (Nat.le_refl _)) | (with_reducible refine Kp.drew ?_) | (with_reducible refine Kp.alloc ?_ _) | ((with_reducible refine Kp.put ?_ ?_ _); focus (first | (left; go_size; done) | (right; simp; done))) | ((with_reducible apply Kp.later); (with_reducible assumption))))); obtain ⟨hW_2k, hW_2g⟩ := bcell hbW_2; have hW_2r := hkW_2.size; have hW_2s := hbW_2.size; (try (have hW_2t : W.heap.size < W_2.heap.size := (by simp at hW_2s; omega))))))
          all_goals
            go_wp2
            go_meet
            case rel =>
              have hws := hWb.size
              refine ⟨_, rfl, rfl, ?_, ?_, ?_, ?_, ?_⟩
              · omega
              · (try simp at hW_2s); (try simp at hW_1s); simp; (try omega)
              · first
                  | (intro o; simp [go_sem]; done)
                  | exact set_at (set_at (set_at (set_at (set_at (xs := #[.bool false, .int .u64 0, .int .u64 0, .int .u64 0, .int .u64 0]) (fun o => by first | (simp [go_sem, hW_2k]; done) | (simp [go_sem, hW_2k, hW_1k, hW_1t]; done))))))
              · intro o
                first
                  | (simp [go_sem]; done)
                  | (simp [go_sem, hW_2g]; done)
                  | (simp [go_sem, hW_2g, hW_1g, hW_1t]; done)
              · (repeat' (first | (with_reducible exact Below.refl _ _) | (with_reducible assumption) | (with_reducible refine below_alloc ?_ _) | (with_reducible refine Below.drew ?_) | (with_reducible refine Below.setCell ?_ ?_ _) | (with_reducible refine below_after ?_ (by assumption)) | go_size))
        case rest =>
          obtain ⟨B, rfl, rfl, hB1, hB2, hB3, hB4, hB5⟩ := hcut
          have HC := HM0.out.later hB5
          have HC0 := Lib.hid HC
          rcases HPE.out with ⟨hp, hp2, rfl⟩ | ⟨hp, hp2, rfl⟩
          · have HP := Lib.hid hp
            have HP2 := Lib.hid hp2
            clear hp hp2 c0 c1 f0 f1 z0 z1 hb
            have hX : (((⟨d.toArray⟩ : ByteArray)[k]'(by rw [size_mk]; exact hlt)).toNat : Int) = ((d[k]).toNat : Int) := rfl
            have x1 : 48 ≤ (((⟨d.toArray⟩ : ByteArray)[k]'(by rw [size_mk]; exact hlt)).toNat : Int) := by rw [hX]; omega
            have x2 : (((⟨d.toArray⟩ : ByteArray)[k]'(by rw [size_mk]; exact hlt)).toNat : Int) ≤ 57 := by rw [hX]; omega
            have hsz : (k : Int) < ((⟨d.toArray⟩ : ByteArray).size : Int) := by rw [size_mk]; omega
            have O12 : ∀ w : World, Calls Tryd.prog 28 #[.int .i64 (IntKind.i64.wrap (IntKind.u8.wrap ((((⟨d.toArray⟩ : ByteArray)[k]'(by rw [size_mk]; exact hlt)).toNat : Int) - 48)))] w fun e w' => e = .returned (.agg #[.bool (false), .int .u64 (wd ((d[k]).toNat - 48) 0), .int .u64 (wd ((d[k]).toNat - 48) 1), .int .u64 (wd ((d[k]).toNat - 48) 2), .int .u64 (wd ((d[k]).toNat - 48) 3)]) ∧ Below w.heap.size w w' := fun w => by
              have h := ofN_any ((d[k]).toNat - 48) (by omega) w
              rwa [show (((d[k]).toNat - 48 : Nat) : Int) = IntKind.i64.wrap (IntKind.u8.wrap ((((⟨d.toArray⟩ : ByteArray)[k]'(by rw [size_mk]; exact hlt)).toNat : Int) - 48)) by rw [hX]; simp [IntKind.wrap, IntKind.signed, IntKind.bits]; omega] at h
            have hc9 : (d[k]).toNat - 48 ≤ 9 := by omega
            generalize (d[k]).toNat - 48 = c at *
            obtain ⟨q, e2, hqe, A12⟩ := addN_any p c (by rw [HP2.out]; exact HP.out) (Nat.lt_of_le_of_lt hc9 (by decide))
            have K12 := Lib.hid O12
            have L12 := Lib.hid A12
            have HQE := Lib.hid hqe
            clear O12 A12 hqe hX hdig
            go_upto_region 12 with (fail)
            refine wp_world (fun x => (∀ o, x.cell? ⟨B, o, none⟩ = (#[.bool (false), .int .u64 (wd (p) 0), .int .u64 (wd (p) 1), .int .u64 (wd (p) 2), .int .u64 (wd (p) 3)] : Array Value)[o]?) ∧ (∀ o, x.frozen? ⟨B, o, none⟩ = false) ∧ B < x.heap.size ∧ PrsMem w w2.heap.size n x) ⟨hB3, hB4, hB2, HC⟩ ?_
            rintro X ⟨k1, k2, k3, k4⟩
            have KX := Lib.hid k4
            clear k4 HC
            go_region_with ((first | (go_at_call 28; (with_reducible refine (K12.out _).mono ?_); rintro e X_1 ⟨rfl, hbX_1⟩; have hX_1c := keep_cell_d hbX_1 k3 k1; have hX_1f := keep_frozen_d hbX_1 k3 k2; have hX_1z := keep_lt_d hbX_1 k3) | (go_at_call 33; (with_reducible refine (L12.out _).mono ?_); rintro e X_2 ⟨rfl, hbX_2⟩; have hX_2c := keep_cell hbX_2 hX_1z hX_1c; have hX_2f := keep_frozen hbX_2 hX_1z hX_1f; have hX_2z := keep_lt hbX_2 hX_1z)))
            all_goals
              have D0 := ((KX.out.later (Below.refl _ _).drew).later hbX_1).later hbX_2
              have hBB : w2.heap.size < B := Nat.lt_of_lt_of_le HM0.out.2.2.2.2.2.1 hB1
              go_upto_region 13 with (fail)
              refine wp_world (fun x => PrsMem w w2.heap.size n x ∧ (∀ o, x.cell? ⟨B, o, none⟩ = (#[.bool (false), .int .u64 (wd (q) 0), .int .u64 (wd (q) 1), .int .u64 (wd (q) 2), .int .u64 (wd (q) 3)] : Array Value)[o]?) ∧ B < x.heap.size) ⟨((((D0.far hBB).far hBB).far hBB).far hBB).far hBB, set_at (set_at (set_at (set_at (set_at hX_2c)))), by simpa using hX_2z⟩ ?_
              rintro Y ⟨m1, m2, m3⟩
              have MY := Lib.hid m1
              obtain ⟨y0, y1, yf0, yf1, yz0, yz1, yb⟩ := m1
              clear D0 hX_1c hX_1f hX_1z hX_2c hX_2f hX_2z k1 k2 k3 hB3 hB4
              rcases HQE.out with ⟨hq, hq2, rfl⟩ | ⟨hq, hq2, rfl⟩
              · have Q1 := Lib.hid hq
                have Q2 := Lib.hid hq2
                clear hq hq2
                go_wp2
                go_roundw
                case rel =>
                  have e := hst.out
                  rw [show 10 * n + c = q by rw [Q2.out, HP2.out]; omega] at e
                  refine ⟨k + 1, by omega, by go_num, by rw [e, Q2.out]; exact Q1.out, ?_⟩
                  rw [e]
                  exact MY.out.put
                case measure => simp [intOf]; omega
              · have hov : ¬ decVal d < 2 ^ 256 := by
                  have e := hst.out
                  have := hpart.out
                  rw [HP2.out] at hq
                  omega
                have P3 := Lib.hid (P2.out hov)
                clear hq hq2 hov
                go_wp2_with ((with_reducible show bodyPost _ _ _ _ _ _); refine bodyPost_ret (by simp [results, Tryd.results20, go_sem, y0, yf0]; try rfl) rfl ?_; exact ⟨by rw [P3.out.1, P3.out.2, zs_zero, Int.natAbs_zero, wd_zero.1, wd_zero.2.1, wd_zero.2.2.1, wd_zero.2.2.2], by (repeat' (first | (with_reducible exact Below.refl _ _) | (with_reducible assumption) | (with_reducible refine below_alloc ?_ _) | (with_reducible refine Below.drew ?_) | (with_reducible refine Below.setCell ?_ ?_ _) | (with_reducible refine below_after ?_ (by assumption)) | go_size))⟩)
          · have hov : ¬ decVal d < 2 ^ 256 := by
              have e := hst.out
              have := hpart.out
              omega
            have P3 := Lib.hid (P2.out hov)
            obtain ⟨y0, y1, yf0, yf1, yz0, yz1, yb⟩ := HC
            clear hp hp2 hov c0 c1 f0 f1 z0 z1 hb
            go_wp2_with ((with_reducible show bodyPost _ _ _ _ _ _); refine bodyPost_ret (by simp [results, Tryd.results20, go_sem, y0, yf0]; try rfl) rfl ?_; exact ⟨by rw [P3.out.1, P3.out.2, zs_zero, Int.natAbs_zero, wd_zero.1, wd_zero.2.1, wd_zero.2.2.1, wd_zero.2.2.2], by (repeat' (first | (with_reducible exact Below.refl _ _) | (with_reducible assumption) | (with_reducible refine below_alloc ?_ _) | (with_reducible refine Below.drew ?_) | (with_reducible refine Below.setCell ?_ ?_ _) | (with_reducible refine below_after ?_ (by assumption)) | go_size))⟩)
      · obtain rfl : k = d.length := by omega
        rw [List.take_length] at hn HM
        have P3 := Lib.hid (P1.out hn)
        have S3 := Lib.hid (signed_any ng (decVal d) hn)
        clear HM0 hn
        obtain ⟨c0, c1, f0, f1, z0, z1, hb⟩ := HM
        have hwr := Nat.lt_trans z0 z1
        go_wp2_with fail
        ((with_reducible refine (S3.out _).mono ?_); rintro e w3 ⟨rfl, hb3⟩)
        obtain ⟨hc3, hf3⟩ := bcell hb3
        have y0 := keep_cell hb3 hwr c0
        have yf0 := keep_frozen hb3 hwr f0
        have yz0 := keep_lt hb3 hwr
        clear hc3 hf3
        go_wp2_with ((with_reducible show bodyPost _ _ _ _ _ _); refine bodyPost_ret (by simp [results, Tryd.results20, go_sem, y0, yf0, yz0]; try rfl) rfl ?_; exact ⟨by rw [P3.out.1, P3.out.2], by (repeat' (first | (with_reducible exact Below.refl _ _) | (with_reducible assumption) | (with_reducible refine below_alloc ?_ _) | (with_reducible refine Below.drew ?_) | (with_reducible refine Below.setCell ?_ ?_ _) | (with_reducible refine below_after ?_ (by assumption)) | go_size))⟩)
/-- Parse: the number that the text denotes, or the error. -/
theorem parse_any (l : List UInt8) (hl : l.length ≤ 1000) (w : World) :
    Calls Tryd.prog 20 #[.string ⟨l.toArray⟩] w fun e w' => e = .returned (.tuple #[(.agg #[.bool (zs (parseZ l)), .int .u64 (wd (Int.natAbs (parseZ l)) 0), .int .u64 (wd (Int.natAbs (parseZ l)) 1), .int .u64 (wd (Int.natAbs (parseZ l)) 2), .int .u64 (wd (Int.natAbs (parseZ l)) 3)]), .int .i64 (parseE l)]) ∧ Below w.heap.size w w' := by
  cases h0 : l.isEmpty
  · cases hb : badS l
    · exact parse_good l hl h0 hb w
    · have h := parse_bad l hl h0 hb w
      have e : parseZ l = 0 ∧ parseE l = 5 := by unfold parseZ parseE; rw [h0, hb]; exact ⟨rfl, rfl⟩
      rw [e.1, e.2]
      exact h
  · have e : parseZ l = 0 ∧ parseE l = 3 := by unfold parseZ parseE; rw [h0]; exact ⟨rfl, rfl⟩
    rw [e.1, e.2]
    cases l with
    | nil => exact parse_none w
    | cons c t => exact absurd h0 (by simp)
end Go.Proofs.YtnbdccobfmlhbaaDoor
