/-
  Two slices of fractions that a call makes side by side; what a hull's outline holds.
-/
import Derived.Test.YtfmmnnodihpgmaaDoorMeshD
import Derived.Test.YtfmmnnodihpgmaaDoorHullE
namespace Go.Proofs.YtfmmnnodihpgmaaDoor
set_option linter.all false
open Go Go.RowKit Wd
set_option maxRecDepth 100000
theorem own_later {w w' : World} {base : Nat} {e : TypeId} {size : Nat} {v : Value} {n : Nat} {xs : List Value} (h : w.ownsRow base e size v n xs) (hb : Below w.heap.size w w') : w'.ownsRow base e size v n xs := by
  have hlt := h.lt
  obtain ⟨h1, h2⟩ := h
  refine ⟨h1, ?_⟩
  rcases h2 with h2 | ⟨g, cap, cur, hv, hg, hh, r⟩
  · exact Or.inl h2
  · have := (hlt g (by rw [hv]; rfl)).2
    exact Or.inr ⟨g, cap, cur, hv, hg, by rw [hb.block g this]; exact hh, r⟩
/-- Below a number that is not above the heap. -/
theorem below_in {b0 : Nat} {a W x : World} (h : Below b0 a W) (hs : b0 ≤ W.heap.size) (hb : Below W.heap.size W x) : Below b0 a x := h.trans (hb.mono hs)
structure Two (b0 : Nat) (w0 w : World) (xv yv : Value) (nx ny : Nat) (xs ys : List Value) : Prop where
  x : w.ownsRow b0 35 10 xv nx xs
  y : w.ownsRow b0 35 10 yv ny ys
  sep : ∀ k, xv.ownBlock = some k → yv.ownBlock ≠ some k
  below : Below b0 w0 w
  base : b0 ≤ w.heap.size
theorem Two.later {b0 : Nat} {w0 w w' : World} {xv yv : Value} {nx ny : Nat} {xs ys : List Value} (h : Two b0 w0 w xv yv nx ny xs ys) (hb : Below w.heap.size w w') : Two b0 w0 w' xv yv nx ny xs ys :=
  ⟨own_later h.x hb, own_later h.y hb, h.sep, below_in h.below h.base hb, Nat.le_trans h.base hb.size⟩
theorem Two.alloc {b0 : Nat} {w0 w : World} {xv yv : Value} {nx ny : Nat} {xs ys : List Value} (h : Two b0 w0 w xv yv nx ny xs ys) (O : Obj) : Two b0 w0 (w.alloc O) xv yv nx ny xs ys := h.later ((Below.refl _ _).alloc (Nat.le_refl _) O)
theorem Two.drew {b0 : Nat} {w0 w : World} {xv yv : Value} {nx ny : Nat} {xs ys : List Value} (h : Two b0 w0 w xv yv nx ny xs ys) : Two b0 w0 w.drew xv yv nx ny xs ys := h.later (Below.refl _ _).drew
theorem Two.pushX {b0 : Nat} {w0 w w1 : World} {xv yv : Value} {nx ny nx' : Nat} {xs ys xs' : List Value} {g cap : Nat} (h : Two b0 w0 w xv yv nx ny xs ys)
    (hown : w1.ownsRow b0 35 10 (.slice (some ⟨g, 0, none⟩) nx' cap) nx' xs') (hg : w.grownBy w1 xv.ownBlock) (hat : xv.ownBlock = some g ∨ g = w.heap.size) :
    Two b0 w0 w1 (.slice (some ⟨g, 0, none⟩) nx' cap) yv nx' ny xs' ys := by
  refine ⟨hown, h.y.kept hg ?_, ?_, h.below.grown hg h.base (fun k hk => (h.x.lt k hk).1), Nat.le_trans h.base hg.size⟩
  · cases hy : yv.ownBlock with
    | none => exact Or.inl rfl
    | some k => exact Or.inr (fun e => h.sep k e.symm hy)
  · intro k hk hy
    have hk' : g = k := by simpa [Value.ownBlock] using hk
    subst hk'
    rcases hat with e | e
    · exact h.sep g e hy
    · have := (h.y.lt g hy).2; omega
theorem Two.pushY {b0 : Nat} {w0 w w1 : World} {xv yv : Value} {nx ny ny' : Nat} {xs ys ys' : List Value} {g cap : Nat} (h : Two b0 w0 w xv yv nx ny xs ys)
    (hown : w1.ownsRow b0 35 10 (.slice (some ⟨g, 0, none⟩) ny' cap) ny' ys') (hg : w.grownBy w1 yv.ownBlock) (hat : yv.ownBlock = some g ∨ g = w.heap.size) :
    Two b0 w0 w1 xv (.slice (some ⟨g, 0, none⟩) ny' cap) nx ny' xs ys' := by
  refine ⟨h.x.kept hg ?_, hown, ?_, h.below.grown hg h.base (fun k hk => (h.y.lt k hk).1), Nat.le_trans h.base hg.size⟩
  · cases hx : xv.ownBlock with
    | none => exact Or.inl rfl
    | some k => exact Or.inr (fun e => h.sep k hx e.symm)
  · intro k hk hy
    have hk' : g = k := by simpa [Value.ownBlock] using hy
    subst hk'
    rcases hat with e | e
    · exact h.sep g hk e
    · have := (h.x.lt g hk).2; omega
/-- The cells of a fraction. -/
@[irreducible] def rc (n d : Int) : List Value := [.bool (zs (rn n d)), .int .u64 (wd (Int.natAbs (rn n d)) 0), .int .u64 (wd (Int.natAbs (rn n d)) 1), .int .u64 (wd (Int.natAbs (rn n d)) 2), .int .u64 (wd (Int.natAbs (rn n d)) 3), .bool (zs (rd n d)), .int .u64 (wd (Int.natAbs (rd n d)) 0), .int .u64 (wd (Int.natAbs (rd n d)) 1), .int .u64 (wd (Int.natAbs (rd n d)) 2), .int .u64 (wd (Int.natAbs (rd n d)) 3)]
/-- Whether there is no corner behind a station. -/
@[irreducible] def last (X Z : List Int) (z : Int) (k a : Nat) : Bool := decide (ix Z k = z) || decide (a + 1 = X.length)
@[irreducible] def lvN (Z : List Int) (z : Int) (k : Nat) (a b : Int) : Int := a * (ix Z (k + 1) - ix Z k) + (b - a) * (z - ix Z k)
@[irreducible] def lvD (Z : List Int) (k : Nat) : Int := ix Z (k + 1) - ix Z k
@[irreducible] def olX (X Z : List Int) (z : Int) (k i : Nat) : List Value := (List.range i).flatMap fun a => rc (ix X a) 1 ++ (if last X Z z k a then [] else rc (lvN Z z k (ix X a) (ix X (a + 1))) (lvD Z k))
@[irreducible] def olY (X Z : List Int) (H : List (List Int)) (z : Int) (k i : Nat) : List Value := (List.range i).flatMap fun a => rc (hfN Z (row H a) z k) (hfD Z z k) ++ (if last X Z z k a then [] else rc (lvN Z z k (ix (row H a) k) (ix (row H (a + 1)) (k + 1))) (lvD Z k))
theorem olX_zero (X Z : List Int) (z : Int) (k : Nat) : olX X Z z k 0 = [] := by unfold olX; rfl
theorem olY_zero (X Z : List Int) (H : List (List Int)) (z : Int) (k : Nat) : olY X Z H z k 0 = [] := by unfold olY; rfl
theorem olX_succ (X Z : List Int) (z : Int) (k i : Nat) : olX X Z z k (i + 1) = olX X Z z k i ++ (rc (ix X i) 1 ++ (if last X Z z k i then [] else rc (lvN Z z k (ix X i) (ix X (i + 1))) (lvD Z k))) := by unfold olX; rw [List.range_succ, List.flatMap_append]; simp
theorem olY_succ (X Z : List Int) (H : List (List Int)) (z : Int) (k i : Nat) : olY X Z H z k (i + 1) = olY X Z H z k i ++ (rc (hfN Z (row H i) z k) (hfD Z z k) ++ (if last X Z z k i then [] else rc (lvN Z z k (ix (row H i) k) (ix (row H (i + 1)) (k + 1))) (lvD Z k))) := by unfold olY; rw [List.range_succ, List.flatMap_append]; simp
theorem infoR : (Tryd.prog.info? 35).map (fun i => (i.zero, i.size, i.bytes)) = some (some (.agg #[.bool false, .int .u64 0, .int .u64 0, .int .u64 0, .int .u64 0, .bool false, .int .u64 0, .int .u64 0, .int .u64 0, .int .u64 0]), 10, 80) := by kernel_rfl
set_option maxHeartbeats 1000000 in
theorem Outline_bad (ax az ah : Option Addr) (cx cz ch : Nat) (A : Nat → Option Addr) (C : Nat → Nat) (X Z : List Int) (H : List (List Int)) (z : Int) (hs : rgt X Z H z ≠ 0) (w : World) (hf : Frm w ax az ah A C X Z H) :
    Calls Tryd.prog 17 #[.agg #[.slice ax X.length cx, .slice az Z.length cz, .slice ah H.length ch], .int .i64 z] w fun e w' => e = .returned (.tuple #[.slice none 0 0, .slice none 0 0, .int .i64 (rgt X Z H z)]) ∧ Below w.heap.size w w' := by
  have K := Lib.hid (fun W hF => right_any ax az ah cx cz ch A C X Z H z W hF)
  generalize rgt X Z H z = r at *
  have HF := Lib.hid hf
  clear hf
  go_enter Tryd.func17, Tryd.ntmps17
  go_wp2_with fail
  ((with_reducible refine (K.out _ (HF.out.later (by (repeat' (first | (with_reducible exact Below.refl _ _) | (with_reducible assumption) | (with_reducible refine below_alloc ?_ _) | (with_reducible refine Below.drew ?_) | (with_reducible refine Below.setCell ?_ ?_ _) | (with_reducible refine below_after ?_ (by assumption)) | go_size))))).mono ?_); rintro e w1 ⟨rfl, hb1⟩)
  obtain ⟨hc1, hf1⟩ := bcell hb1
  have hz1_w_0 : w.heap.size < w1.heap.size := by have h := hb1.size; (try simp at h); omega
  go_wp2_with ((with_reducible show bodyPost _ _ _ _ _ _); refine bodyPost_ret (by simp [results, Tryd.results17, go_sem, ]; try rfl) rfl ?_; exact ⟨rfl, by (repeat' (first | (with_reducible exact Below.refl _ _) | (with_reducible assumption) | (with_reducible refine below_alloc ?_ _) | (with_reducible refine Below.drew ?_) | (with_reducible refine Below.setCell ?_ ?_ _) | (with_reducible refine below_after ?_ (by assumption)) | go_size))⟩)
end Go.Proofs.YtfmmnnodihpgmaaDoor
