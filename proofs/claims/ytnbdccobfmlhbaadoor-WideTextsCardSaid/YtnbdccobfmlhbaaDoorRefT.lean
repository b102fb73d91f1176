/-
  What the reference's Text returns, for all inputs.
-/
import Derived.Test.YtnbdccobfmlhbaaDoorRefG
import Derived.Test.YtnbdccobfmlhbaaDoorText
namespace Go.Proofs.YtnbdccobfmlhbaaDoor
set_option linter.all false
open Go Go.RowKit Wd
set_option maxRecDepth 100000
/-- What is left of the number, and the digits that are done. -/
def TInv (a x : Nat) (l : List UInt8) : Prop := if x = 0 then l = Lib.decDigits a else Lib.decDigits x ++ l = Lib.decDigits a
theorem dec_step {x : Nat} (h : ¬ x < 10) : Lib.decDigits x = Lib.decDigits (x / 10) ++ [UInt8.ofNat (48 + x % 10)] := by
  rw [Lib.decDigits, dif_neg h]
theorem TInv.next {a x : Nat} {l : List UInt8} (hx : x ≠ 0) (h : TInv a x l) : TInv a (x / 10) (UInt8.ofNat (48 + x % 10) :: l) := by
  unfold TInv at *
  rw [if_neg hx] at h
  by_cases h1 : x < 10
  · rw [if_pos (by omega), ← h, Lib.decDigits_one h1, Nat.mod_eq_of_lt h1]; rfl
  · rw [if_neg (by omega), ← h, dec_step h1]; simp
theorem TInv.start {a : Nat} (h : a ≠ 0) : TInv a a [] := by unfold TInv; rw [if_neg h]; simp
theorem TInv.len {a x : Nat} {l : List UInt8} (h : TInv a x l) : l.length ≤ (Lib.decDigits a).length := by
  unfold TInv at h
  split at h
  · rw [h]; exact Nat.le_refl _
  · rw [← h]; simp
theorem piece (n : Nat) (h : n < 10) : (⟨#[48, 49, 50, 51, 52, 53, 54, 55, 56, 57]⟩ : ByteArray).extract n (n + 1) = ⟨#[UInt8.ofNat (48 + n)]⟩ := by
  have hh : ∀ m : Fin 10, (⟨#[48, 49, 50, 51, 52, 53, 54, 55, 56, 57]⟩ : ByteArray).extract m.val (m.val + 1) = ⟨#[UInt8.ofNat (48 + m.val)]⟩ := by decide +kernel
  exact hh ⟨n, h⟩
theorem dec_len {a : Nat} (ha : a < 2 ^ 256) : (Lib.decDigits a).length ≤ 1000 := by
  have h : ∀ n x : Nat, x < 10 ^ (n + 1) → (Lib.decDigits x).length ≤ n + 1 := by
    intro n
    induction n with
    | zero => intro x hx; rw [Lib.decDigits_one (by simpa using hx)]; simp
    | succ n ih =>
      intro x hx
      by_cases h1 : x < 10
      · rw [Lib.decDigits_one h1]; simp
      · rw [dec_step h1, List.length_append]
        have := ih (x / 10) (by rw [Nat.pow_succ] at hx; omega)
        simp; omega
  have h2 := h 99 a (Nat.lt_of_lt_of_le ha (by decide))
  omega
/-- The call's own memory. -/
def TMem (w : World) (B : Nat) (s : Bool) (a x : Nat) (wr : World) : Prop :=
  (∀ o, wr.cell? ⟨w.heap.size, o, none⟩ = (#[.bool (s), .int .u64 (wd (a) 0), .int .u64 (wd (a) 1), .int .u64 (wd (a) 2), .int .u64 (wd (a) 3)] : Array Value)[o]?) ∧ (∀ o, wr.cell? ⟨B, o, none⟩ = (#[.int .u64 (hw (x) 0), .int .u64 (hw (x) 1), .int .u64 (hw (x) 2), .int .u64 (hw (x) 3), .int .u64 (hw (x) 4), .int .u64 (hw (x) 5), .int .u64 (hw (x) 6), .int .u64 (hw (x) 7)] : Array Value)[o]?) ∧ (∀ o, wr.frozen? ⟨B, o, none⟩ = false) ∧ w.heap.size < B ∧ B < wr.heap.size ∧ Below w.heap.size w wr
theorem TMem.later {w wr wx : World} {B : Nat} {s : Bool} {a x : Nat} (h : TMem w B s a x wr) (hb : Below wr.heap.size wr wx) : TMem w B s a x wx := by
  obtain ⟨c0, c1, f1, z0, z1, hB⟩ := h
  exact ⟨keep_cell hb (by omega) c0, keep_cell hb z1 c1, keep_frozen hb z1 f1, z0, Nat.lt_of_lt_of_le z1 hb.size, below_after hB hb⟩
theorem TMem.alloc {w wr : World} {B : Nat} {s : Bool} {a x : Nat} (h : TMem w B s a x wr) (O : Obj) : TMem w B s a x (wr.alloc O) := h.later ((Below.refl _ _).alloc (Nat.le_refl _) O)
theorem TMem.set {w wr : World} {B : Nat} {s : Bool} {a x x' : Nat} (h : TMem w B s a x wr) : TMem w B s a x' ((((((((wr.setCell ⟨B, 0, none⟩ (.int .u64 (hw x' 0))).setCell ⟨B, 1, none⟩ (.int .u64 (hw x' 1))).setCell ⟨B, 2, none⟩ (.int .u64 (hw x' 2))).setCell ⟨B, 3, none⟩ (.int .u64 (hw x' 3))).setCell ⟨B, 4, none⟩ (.int .u64 (hw x' 4))).setCell ⟨B, 5, none⟩ (.int .u64 (hw x' 5))).setCell ⟨B, 6, none⟩ (.int .u64 (hw x' 6))).setCell ⟨B, 7, none⟩ (.int .u64 (hw x' 7))) := by
  obtain ⟨c0, c1, f1, z0, z1, hB⟩ := h
  exact ⟨set8_far (by omega) c0, set8_at c1, set8_froz f1, z0, by simpa using z1, set8_below (by omega) hB⟩
theorem str_cons (c : UInt8) (l : List UInt8) : (⟨#[c]⟩ : ByteArray) ++ ⟨l.toArray⟩ = ⟨(c :: l).toArray⟩ := ByteArray.ext (by simp)
theorem dig_sum (r : Nat) : 48 + UInt8.ofNat r = UInt8.ofNat (48 + r) := by rw [UInt8.ofNat_add]; rfl
theorem small10 (a : Nat) (ha : a < 2 ^ 256) (w : World) : Calls Tryd.prog 56 #[(.agg #[.int .u64 (hw (a) 0), .int .u64 (hw (a) 1), .int .u64 (hw (a) 2), .int .u64 (hw (a) 3), .int .u64 (hw (a) 4), .int .u64 (hw (a) 5), .int .u64 (hw (a) 6), .int .u64 (hw (a) 7)]), .int .u64 10] w fun e w' => e = .returned (.tuple #[(.agg #[.int .u64 (hw (a / 10) 0), .int .u64 (hw (a / 10) 1), .int .u64 (hw (a / 10) 2), .int .u64 (hw (a / 10) 3), .int .u64 (hw (a / 10) 4), .int .u64 (hw (a / 10) 5), .int .u64 (hw (a / 10) 6), .int .u64 (hw (a / 10) 7)]), .int .u64 ((a % 10 : Nat) : Int)]) ∧ Below w.heap.size w w' :=
  small_any a 10 ha (by omega) (by omega) w
set_option maxHeartbeats 2000000 in
theorem rtext_some (s : Bool) (a : Nat) (ha : a < 2 ^ 256) (h0 : a ≠ 0) (w : World) :
    Calls Tryd.prog 23 #[(.agg #[.bool (s), .int .u64 (wd (a) 0), .int .u64 (wd (a) 1), .int .u64 (wd (a) 2), .int .u64 (wd (a) 3)])] w fun e w' => e = .returned (.string ⟨(textOf s a).toArray⟩) ∧ Below w.heap.size w w' := by
  have S1 := Lib.hid (split_any s a)
  have z := zero_any a ha
  rw [show eqN a 0 = false by unfold eqN; simpa using h0] at z
  have ZA := Lib.hid z
  have HA := Lib.hid ha
  have H0 := Lib.hid h0
  have TLEN := Lib.hid (show ∀ (x : Nat) (l : List UInt8), TInv a x l → l.length ≤ 1000 from fun _ _ h => Nat.le_trans h.len (dec_len ha))
  clear z ha h0
  go_enter Tryd.func23, Tryd.ntmps23
  go_wp2_with fail
  ((with_reducible refine (S1.out _).mono ?_); rintro e w1 ⟨rfl, hb1⟩)
  obtain ⟨hc1, hf1⟩ := bcell hb1
  have hz1_w_0 : w.heap.size < w1.heap.size := by have h := hb1.size; (try simp at h); omega
  go_wp2_with fail
  ((with_reducible refine (ZA.out _).mono ?_); rintro e w2 ⟨rfl, hb2⟩)
  obtain ⟨hc2, hf2⟩ := bcell hb2
  have hz2_w_0 : w.heap.size < w2.heap.size := by have h := hb2.size; (try simp at h); omega
  go_wp2
  have M0 : TMem w w1.heap.size s a a w2 := by
    refine ⟨fun o => ?_, fun o => ?_, fun o => ?_, hz1_w_0, by have := hb2.size; simp at this; omega, by (repeat' (first | (with_reducible exact Below.refl _ _) | (with_reducible assumption) | (with_reducible refine below_alloc ?_ _) | (with_reducible refine Below.drew ?_) | (with_reducible refine Below.setCell ?_ ?_ _) | (with_reducible refine below_after ?_ (by assumption)) | go_size))⟩
    · rw [hc2 _ _ (by simp; omega)]; simp [go_sem, hc1, hz1_w_0]
    · rw [hc2 _ _ (by simp)]; simp [go_sem]
    · rw [hf2 _ _ (by simp)]; simp [go_sem]
  have HM0 := Lib.hid M0
  clear M0 hc1 hf1 hc2 hf2
  go_loopg [4] a (fun g v wr => ∃ l : List UInt8, v = .string ⟨l.toArray⟩ ∧ g < 2 ^ 256 ∧ TInv a g l ∧ TMem w w1.heap.size s a g wr)
  case atStart => exact ⟨[], rfl, HA.out, TInv.start H0.out, HM0.out⟩
  case round =>
    obtain ⟨l, rfl, hg, HI, HM⟩ := hrel
    clear HM0
    have HM1 := Lib.hid HM
    have HI' := Lib.hid HI
    obtain ⟨c0, c1, f1, z0, z1, hbb⟩ := HM
    have zw : w.heap.size < wr.heap.size := by omega
    by_cases hx : gk = 0
    · subst hx
      have hl : l = Lib.decDigits a := by have := HI'.out; unfold TInv at this; simpa using this
      have T1 := Lib.hid (show textOf s a = if s then 45 :: Lib.decDigits a else Lib.decDigits a by unfold textOf; rw [if_neg H0.out])
      have hlen := TLEN.out _ _ HI'.out
      have ZG := Lib.hid (show ∀ w, Calls Tryd.prog 48 #[(.agg #[.int .u64 (hw (0) 0), .int .u64 (hw (0) 1), .int .u64 (hw (0) 2), .int .u64 (hw (0) 3), .int .u64 (hw (0) 4), .int .u64 (hw (0) 5), .int .u64 (hw (0) 6), .int .u64 (hw (0) 7)])] w fun e w' => e = .returned (.bool true) ∧ Below w.heap.size w w' from fun w => by
        have k := zero_any 0 (Nat.pow_pos (by omega)) w
        rw [show eqN 0 0 = true by unfold eqN; rfl] at k
        exact k)
      have HLQ := Lib.hid hl
      clear HI hl
      go_wp2_with fail
      ((with_reducible refine (ZG.out _).mono ?_); rintro e w3 ⟨rfl, hb3⟩)
      obtain ⟨hc3, hf3⟩ := bcell hb3
      have hz3_w_0 : w.heap.size < w3.heap.size := by have h := hb3.size; (try simp at h); omega
      cases s
      · go_wp2
        go_ret
        exact ⟨by rw [T1.out, HLQ.out]; rfl, by (repeat' (first | (with_reducible exact Below.refl _ _) | (with_reducible assumption) | (with_reducible refine below_alloc ?_ _) | (with_reducible refine Below.drew ?_) | (with_reducible refine Below.setCell ?_ ?_ _) | (with_reducible refine below_after ?_ (by assumption)) | go_size))⟩
      · go_wp2
        go_ret
        exact ⟨by rw [T1.out, HLQ.out, str_cons]; rfl, by (repeat' (first | (with_reducible exact Below.refl _ _) | (with_reducible assumption) | (with_reducible refine below_alloc ?_ _) | (with_reducible refine Below.drew ?_) | (with_reducible refine Below.setCell ?_ ?_ _) | (with_reducible refine below_after ?_ (by assumption)) | go_size))⟩
    · have z := zero_any gk hg
      rw [show eqN gk 0 = false by unfold eqN; simpa using hx] at z
      have ZG := Lib.hid z
      have SG := Lib.hid (small10 gk hg)
      have NI := Lib.hid (HI.next hx)
      have pc := piece (gk % 10) (Nat.mod_lt _ (by omega))
      have r9 : gk % 10 < 10 := Nat.mod_lt _ (by omega)
      have HG := Lib.hid (show gk / 10 < 2 ^ 256 from Nat.lt_of_le_of_lt (Nat.div_le_self _ _) hg)
      have HL := Lib.hid (show gk / 10 < gk by omega)
      have hlen := TLEN.out _ _ HI
      clear z HI hx hg
      generalize gk % 10 = r at *
      generalize gk / 10 = q at *
      go_wp2_with fail
      ((with_reducible refine (ZG.out _).mono ?_); rintro e w3 ⟨rfl, hb3⟩)
      obtain ⟨hc3, hf3⟩ := bcell hb3
      have hz3_w_0 : w.heap.size < w3.heap.size := by have h := hb3.size; (try simp at h); omega
      have hz3b := Nat.lt_of_lt_of_le z1 hb3.size
      go_wp2_with fail
      ((with_reducible refine (SG.out _).mono ?_); rintro e w4 ⟨rfl, hb4⟩)
      obtain ⟨hc4, hf4⟩ := bcell hb4
      have hz4_w_0 : w.heap.size < w4.heap.size := by have h := hb4.size; (try simp at h); omega
      have hz4b := Nat.lt_of_lt_of_le hz3b hb4.size
      have M4 := Lib.hid (((HM1.out.later hb3).later hb4).set (x' := q))
      go_wp2
      go_roundg q
      case measure => exact HL.out
      case rel =>
        refine ⟨UInt8.ofNat (48 + r) :: l, ?_, HG.out, NI.out, ?_⟩
        · rw [dig_sum, str_cons]
        · exact M4.out.alloc _
theorem rtext_none (s : Bool) (w : World) :
    Calls Tryd.prog 23 #[(.agg #[.bool (s), .int .u64 (wd (0) 0), .int .u64 (wd (0) 1), .int .u64 (wd (0) 2), .int .u64 (wd (0) 3)])] w fun e w' => e = .returned (.string ⟨(textOf s 0).toArray⟩) ∧ Below w.heap.size w w' := by
  have S1 := Lib.hid (split_any s 0)
  have z := zero_any 0 (Nat.pow_pos (by omega))
  rw [show eqN 0 0 = true by unfold eqN; rfl] at z
  have ZA := Lib.hid z
  have T1 := Lib.hid (show textOf s 0 = [48] by unfold textOf; rw [if_pos rfl])
  clear z
  go_enter Tryd.func23, Tryd.ntmps23
  go_wp2_with fail
  ((with_reducible refine (S1.out _).mono ?_); rintro e w1 ⟨rfl, hb1⟩)
  obtain ⟨hc1, hf1⟩ := bcell hb1
  have hz1_w_0 : w.heap.size < w1.heap.size := by have h := hb1.size; (try simp at h); omega
  go_wp2_with fail
  ((with_reducible refine (ZA.out _).mono ?_); rintro e w2 ⟨rfl, hb2⟩)
  obtain ⟨hc2, hf2⟩ := bcell hb2
  have hz2_w_0 : w.heap.size < w2.heap.size := by have h := hb2.size; (try simp at h); omega
  go_wp2
  go_ret
  exact ⟨by rw [T1.out]; rfl, by (repeat' (first | (with_reducible exact Below.refl _ _) | (with_reducible assumption) | (with_reducible refine below_alloc ?_ _) | (with_reducible refine Below.drew ?_) | (with_reducible refine Below.setCell ?_ ?_ _) | (with_reducible refine below_after ?_ (by assumption)) | go_size))⟩
/-- Text: the number in decimal. -/
theorem rtext_any (s : Bool) (a : Nat) (ha : a < 2 ^ 256) (w : World) :
    Calls Tryd.prog 23 #[(.agg #[.bool (s), .int .u64 (wd (a) 0), .int .u64 (wd (a) 1), .int .u64 (wd (a) 2), .int .u64 (wd (a) 3)])] w fun e w' => e = .returned (.string ⟨(textOf s a).toArray⟩) ∧ Below w.heap.size w w' := by
  by_cases h : a = 0
  · subst h; exact rtext_none s w
  · exact rtext_some s a ha h w
end Go.Proofs.YtnbdccobfmlhbaaDoor
