/-
  The law's function det: numbers that are the same but for multiples of 2^64.
  The law's function under: what a triangle has at and below a height.
  (Written by wip/pack.py out of XFTopA, XFTopB.)
-/
import Derived.Test.YthikaimhmpenhaaDoorK37
import Derived.Test.YthikaimhmpenhaaDoorK34
import Derived.Test.YthikaimhmpenhaaDoorK29
namespace Go.Proofs.YthikaimhmpenhaaDoor
set_option linter.all false
open Go Go.RowKit Wd
set_option maxRecDepth 100000
def Cg (x y : Int) : Prop := ∃ k : Int, x = y + 18446744073709551616 * k
theorem Cg.refl (x : Int) : Cg x x := ⟨0, by omega⟩
theorem Cg.wrap {x y : Int} (h : Cg x y) : Cg (IntKind.i64.wrap x) y := by
  obtain ⟨k, rfl⟩ := h
  rw [IntKind.wrap_i64]
  refine ⟨k - (y + 18446744073709551616 * k + 9223372036854775808) / 18446744073709551616, ?_⟩
  omega
theorem Cg.add {x y a b : Int} (h : Cg x y) (h' : Cg a b) : Cg (x + a) (y + b) := by
  obtain ⟨k, rfl⟩ := h
  obtain ⟨l, rfl⟩ := h'
  exact ⟨k + l, by omega⟩
theorem Cg.sub {x y a b : Int} (h : Cg x y) (h' : Cg a b) : Cg (x - a) (y - b) := by
  obtain ⟨k, rfl⟩ := h
  obtain ⟨l, rfl⟩ := h'
  exact ⟨k - l, by omega⟩
theorem Cg.mul {x y a b : Int} (h : Cg x y) (h' : Cg a b) : Cg (x * a) (y * b) := by
  obtain ⟨k, rfl⟩ := h
  obtain ⟨l, rfl⟩ := h'
  exact ⟨y * l + k * b + 18446744073709551616 * (k * l), by grind⟩
theorem Cg.eq {x y : Int} (h : Cg x y) : IntKind.i64.wrap x = IntKind.i64.wrap y := by
  obtain ⟨k, rfl⟩ := h
  rw [IntKind.wrap_i64, IntKind.wrap_i64]
  omega
theorem Cg.trans {x y z : Int} (h : Cg x y) (h' : Cg y z) : Cg x z := by
  obtain ⟨k, rfl⟩ := h
  obtain ⟨l, rfl⟩ := h'
  exact ⟨k + l, by omega⟩
@[irreducible] def w64 (x : Int) : Int := IntKind.i64.wrap x
theorem wrap64_is (x : Int) : wrap64 x = IntKind.i64.wrap x := by rw [IntKind.wrap_i64, wrap64]
theorem Cg.w {x y : Int} (h : Cg x y) : Cg (wrap64 x) y := by rw [wrap64_is]; exact h.wrap
theorem w64_cg (x : Int) : Cg (w64 x) x := by unfold w64; exact (Cg.refl x).wrap
theorem w64_of {x y : Int} (h : Cg x y) : wrap64 x = w64 y := by unfold w64; rw [wrap64_is]; exact h.eq
theorem w64_small {x : Int} (h : -9223372036854775808 ≤ x) (h' : x < 9223372036854775808) : w64 x = x := by unfold w64; rw [IntKind.wrap_i64]; omega
set_option maxHeartbeats 4000000 in
theorem detH (a0 a1 a2 b0 b1 b2 c0 c1 c2 z : Int) (w : World) :
    Calls Tryd.prog 21 #[.agg #[.int .i64 a0, .int .i64 a1, .int .i64 a2], .agg #[.int .i64 b0, .int .i64 b1, .int .i64 b2], .agg #[.int .i64 c0, .int .i64 c1, .int .i64 c2], .int .i64 z] w fun e w' =>
      e = .returned (.int .i64 (w64 (Fa.dt a0 a1 a2 b0 b1 b2 c0 c1 c2 z))) ∧ Below w.heap.size w w' := by
  go_enter Tryd.func21, Tryd.ntmps21
  go_wp2_with ((with_reducible show bodyPost _ _ _ _ _ _); refine bodyPost_ret (by simp [results, Tryd.results21, go_sem, ]; try rfl) rfl ?_; exact ⟨by (refine congrArg (fun x => Ending.returned (Value.int .i64 x)) (w64_of ?_); unfold Fa.dt; repeat' (first | (with_reducible exact Cg.refl _) | (with_reducible refine Cg.w ?_) | (with_reducible refine Cg.add ?_ ?_) | (with_reducible refine Cg.sub ?_ ?_) | (with_reducible refine Cg.mul ?_ ?_))), by (repeat' first | (with_reducible first | exact Bq0 | assumption | refine Bq1 ?_ | refine Bq2 ?_ | refine Bq3 ?_ ?_ | refine Bq4 ?_ (by assumption)) | go_size)⟩)
end Go.Proofs.YthikaimhmpenhaaDoor
namespace Go.Proofs.YthikaimhmpenhaaDoor
set_option linter.all false
open Go Go.RowKit Wd
open Fa (P3 und1 und)
set_option maxRecDepth 100000
@[irreducible] def ptC (l : List P3) : List Value := l.flatMap fun p => [.int .i64 (w64 p.1), .int .i64 (w64 p.2.1), .int .i64 (w64 p.2.2)]
theorem ptC_nil : ptC [] = [] := by unfold ptC; rfl
theorem ptC_app (l m : List P3) : ptC (l ++ m) = ptC l ++ ptC m := by unfold ptC; rw [List.flatMap_append]
theorem ptC_one (p : P3) : ptC [p] = [.int .i64 (w64 p.1), .int .i64 (w64 p.2.1), .int .i64 (w64 p.2.2)] := by unfold ptC; rfl
theorem ptC_cons (p : P3) (l : List P3) : ptC (p :: l) = [.int .i64 (w64 p.1), .int .i64 (w64 p.2.1), .int .i64 (w64 p.2.2)] ++ ptC l := by unfold ptC; rfl
theorem ptC_at : ∀ (l : List P3) (i : Nat) (h : i < l.length), (ptC l)[i * 3]? = some (.int .i64 (w64 l[i].1)) ∧ (ptC l)[i * 3 + 1]? = some (.int .i64 (w64 l[i].2.1)) ∧ (ptC l)[i * 3 + 2]? = some (.int .i64 (w64 l[i].2.2))
  | [], i, h => by simp at h
  | p :: l, 0, h => by
    rw [ptC_cons]
    simp
  | p :: l, i + 1, h => by
    have := ptC_at l i (by simpa using h)
    rw [ptC_cons]
    rw [List.getElem?_append_right (by simp; omega), List.getElem?_append_right (by simp; omega), List.getElem?_append_right (by simp; omega)]
    simp only [List.length_cons, List.length_nil, List.cons_append, List.nil_append, List.getElem_cons_succ]
    rw [show (i + 1) * 3 - (0 + 1 + 1 + 1) = i * 3 by omega, show (i + 1) * 3 + 1 - (0 + 1 + 1 + 1) = i * 3 + 1 by omega, show (i + 1) * 3 + 2 - (0 + 1 + 1 + 1) = i * 3 + 2 by omega]
    exact this
theorem infoP : (Tryd.prog.info? 68).map (fun i => (i.zero, i.size, i.bytes)) = some (some (.agg #[.int .i64 0, .int .i64 0, .int .i64 0]), 3, 24) := by kernel_rfl
def trp (a b c : P3) (i : Nat) : P3 := if i = 0 then a else if i = 1 then b else c
def undTo (z d : Int) (a b c : P3) : Nat → List P3
  | 0 => []
  | i + 1 => undTo z d a b c i ++ und1 z d (trp a b c i) (trp a b c ((i + 1) % 3))
theorem undTo_3 (z d : Int) (a b c : P3) : undTo z d a b c 3 = und z d a b c := by simp [undTo, und, trp]
theorem und1_len (z d : Int) (a b : P3) : (und1 z d a b).length ≤ 2 := by
  unfold und1
  rw [List.length_append]
  split <;> split <;> simp
theorem undTo_len (z d : Int) (a b c : P3) : ∀ i, (undTo z d a b c i).length ≤ 2 * i
  | 0 => by simp [undTo]
  | i + 1 => by
    have h1 := undTo_len z d a b c i
    have h2 := und1_len z d (trp a b c i) (trp a b c ((i + 1) % 3))
    rw [undTo, List.length_append]
    omega
structure UnM (w : World) (a b c : P3) (v : Value) (L : List P3) (wr : World) : Prop where
  c : ∀ o, wr.cell? ⟨w.heap.size, o, none⟩ = (#[.int .i64 a.1, .int .i64 a.2.1, .int .i64 a.2.2, .int .i64 b.1, .int .i64 b.2.1, .int .i64 b.2.2, .int .i64 c.1, .int .i64 c.2.1, .int .i64 c.2.2] : Array Value)[o]?
  own : wr.ownsRow (w.heap.size + 1) 68 3 v L.length (ptC L)
  b : Below w.heap.size w wr
  base : w.heap.size + 1 ≤ wr.heap.size
theorem UnM.later {w wr x : World} {a b c : P3} {v : Value} {L : List P3} (h : UnM w a b c v L wr) (hb : Below wr.heap.size wr x) : UnM w a b c v L x :=
  ⟨keep_cell hb (by have := h.base; omega) h.c, own_later h.own hb, below_after h.b hb, by have := h.base; have := hb.size; omega⟩
theorem UnM.at' {w wr : World} {a b c : P3} {v : Value} {L : List P3} (h : UnM w a b c v L wr) {i : Nat} (hi : i < 3) : wr.cell? ⟨w.heap.size, i * 3, none⟩ = some (.int .i64 (trp a b c i).1) ∧ wr.cell? ⟨w.heap.size, i * 3 + 1, none⟩ = some (.int .i64 (trp a b c i).2.1) ∧ wr.cell? ⟨w.heap.size, i * 3 + 2, none⟩ = some (.int .i64 (trp a b c i).2.2) := by
  rw [h.c, h.c, h.c]
  match i, hi with
  | 0, _ | 1, _ | 2, _ => exact ⟨rfl, rfl, rfl⟩
structure UnR (w : World) (a b c : P3) (v : Value) (L : List P3) (b9 b10 : Nat) (p q : P3) (wr : World) : Prop where
  m : UnM w a b c v L wr
  c9 : ∀ o, wr.cell? ⟨b9, o, none⟩ = (#[.int .i64 p.1, .int .i64 p.2.1, .int .i64 p.2.2] : Array Value)[o]?
  c10 : ∀ o, wr.cell? ⟨b10, o, none⟩ = (#[.int .i64 q.1, .int .i64 q.2.1, .int .i64 q.2.2] : Array Value)[o]?
  l9 : b9 < wr.heap.size
  l10 : b10 < wr.heap.size
  n9 : ∀ k, v.ownBlock = some k → k ≠ b9
  n10 : ∀ k, v.ownBlock = some k → k ≠ b10
theorem UnR.later {w wr x : World} {a b c p q : P3} {v : Value} {L : List P3} {b9 b10 : Nat} (h : UnR w a b c v L b9 b10 p q wr) (hb : Below wr.heap.size wr x) : UnR w a b c v L b9 b10 p q x :=
  ⟨h.m.later hb, keep_cell hb h.l9 h.c9, keep_cell hb h.l10 h.c10, keep_lt hb h.l9, keep_lt hb h.l10, h.n9, h.n10⟩
theorem UnR.push {w wr w1 : World} {a b c p q u : P3} {v : Value} {L : List P3} {b9 b10 g cap n : Nat} (h : UnR w a b c v L b9 b10 p q wr) (hn : n = (L ++ [u]).length) (hown : w1.ownsRow (w.heap.size + 1) 68 3 (.slice (some ⟨g, 0, none⟩) n cap) n (ptC L ++ ptC [u])) (hg : wr.grownBy w1 v.ownBlock) (hat : v.ownBlock = some g ∨ g = wr.heap.size) :
    UnR w a b c (.slice (some ⟨g, 0, none⟩) n cap) (L ++ [u]) b9 b10 p q w1 := by
  have hb := h.m.base
  have hsz := hg.size
  have blk : ∀ B : Nat, B < wr.heap.size → (∀ k, v.ownBlock = some k → k ≠ B) → w1.heap[B]? = wr.heap[B]? := fun B hB hne => hg.block B hB (fun e => hne B e.symm rfl)
  have k0 : ∀ k, v.ownBlock = some k → k ≠ w.heap.size := fun k hk e => by have := (h.m.own.lt k hk).1; omega
  have cel : ∀ (B : Nat) (xs : Array Value), B < wr.heap.size → (∀ k, v.ownBlock = some k → k ≠ B) → (∀ o, wr.cell? ⟨B, o, none⟩ = xs[o]?) → ∀ o, w1.cell? ⟨B, o, none⟩ = xs[o]? := fun B xs hB hne hc o => (World.cell?_of_block (a := ⟨B, o, none⟩) (blk B hB hne)).trans (hc o)
  have gne : ∀ B : Nat, B < wr.heap.size → (∀ k, v.ownBlock = some k → k ≠ B) → ∀ k, (Value.slice (some ⟨g, 0, none⟩) n cap).ownBlock = some k → k ≠ B := fun B hB hne k hk => by
    have hk' : g = k := by simpa [Value.ownBlock] using hk
    subst hk'
    rcases hat with e | e
    · exact hne g e
    · omega
  refine ⟨⟨cel _ _ (by omega) k0 h.m.c, ?_, h.m.b.grown hg (by omega) (fun k hk => by have := (h.m.own.lt k hk).1; omega), by omega⟩, cel _ _ h.l9 h.n9 h.c9, cel _ _ h.l10 h.n10 h.c10, by have := h.l9; omega, by have := h.l10; omega, gne _ h.l9 h.n9, gne _ h.l10 h.n10⟩
  rw [ptC_app, ← hn]
  exact hown
theorem news3 (x : World) (T : TypeId) (u0 u1 u2 : Value) : ∀ j v, ([u0, u1, u2] : List Value)[j]? = some v → (x.alloc (.cells #[u0, u1, u2] T)).cell? ((⟨x.heap.size, 0, none⟩ : Addr).add j) = some v := fun j v hv => by
  have hadd : (⟨x.heap.size, 0, none⟩ : Addr).add j = ⟨x.heap.size, j, none⟩ := by unfold Addr.add; split <;> simp_all
  rw [hadd, new_cells]
  simpa using hv
theorem und1_a {z d p0 p1 p2 r0 r1 r2 : Int} (h : p2 < z) (h' : z < r2) : und1 z d (p0, p1, p2) (r0, r1, r2) = [(d * p0, d * p1, d * p2)] ++ [(d * p0 + (r0 - p0) * (z - p2), d * p1 + (r1 - p1) * (z - p2), d * z)] := by
  unfold und1
  simp only [if_pos (show p2 ≤ z by omega), if_neg (show ¬ z - p2 < 0 by omega)]
  rw [if_pos (Or.inl ⟨h, h'⟩)]
theorem und1_b {z d p0 p1 p2 r0 r1 r2 : Int} (h : p2 ≤ z) (h' : ¬ (p2 < z ∧ z < r2)) : und1 z d (p0, p1, p2) (r0, r1, r2) = [(d * p0, d * p1, d * p2)] := by
  unfold und1
  simp only [if_pos h]
  rw [if_neg (by omega)]
  rfl
theorem und1_c {z d p0 p1 p2 r0 r1 r2 : Int} (h : z < p2) (h' : r2 < z) : und1 z d (p0, p1, p2) (r0, r1, r2) = [(d * p0 + (r0 - p0) * -(z - p2), d * p1 + (r1 - p1) * -(z - p2), d * z)] := by
  unfold und1
  simp only [if_neg (show ¬ p2 ≤ z by omega), if_pos (show z - p2 < 0 by omega)]
  rw [if_pos (Or.inr ⟨h, h'⟩)]
  rfl
theorem und1_d {z d p0 p1 p2 r0 r1 r2 : Int} (h : z < p2) (h' : ¬ r2 < z) : und1 z d (p0, p1, p2) (r0, r1, r2) = [] := by
  unfold und1
  simp only [if_neg (show ¬ p2 ≤ z by omega)]
  rw [if_neg (by omega)]
  rfl
theorem al1 (w : World) (O : Obj) : Below w.heap.size w (w.alloc O) := (Below.refl _ _).alloc (Nat.le_refl _) O
set_option maxHeartbeats 8000000 in
theorem underH (a b c : P3) (z d : Int) (hz : 0 ≤ z) (hz' : z ≤ 1000000) (ha : 0 ≤ a.2.2 ∧ a.2.2 ≤ 1000000) (hb : 0 ≤ b.2.2 ∧ b.2.2 ≤ 1000000) (hc : 0 ≤ c.2.2 ∧ c.2.2 ≤ 1000000) (w : World) :
    Calls Tryd.prog 20 #[.agg #[.int .i64 a.1, .int .i64 a.2.1, .int .i64 a.2.2, .int .i64 b.1, .int .i64 b.2.1, .int .i64 b.2.2, .int .i64 c.1, .int .i64 c.2.1, .int .i64 c.2.2], .int .i64 z, .int .i64 d] w fun e w' =>
      ∃ v, e = .returned v ∧ w'.ownsRow (w.heap.size + 1) 68 3 v (und z d a b c).length (ptC (und z d a b c)) ∧ Below w.heap.size w w' := by
  have HML := Lib.hid (show ∀ q : Nat, q ≤ 1000 → q + 1 ≤ maxLen from fun q hq => by unfold maxLen; omega)
  have HBD := Lib.hid (show ∀ i, 0 ≤ (trp a b c i).2.2 ∧ (trp a b c i).2.2 ≤ 1000000 from fun i => by unfold trp; split; exact ha; split; exact hb; exact hc)
  obtain ⟨i0, hinf, hi0, hi1, hi2⟩ := info_parts infoP
  clear ha hb hc
  go_enter Tryd.func20, Tryd.ntmps20
  go_wp2
  go_loopg [7, 8] 3 (fun gg v7 v wr => ∃ i : Nat, i ≤ 3 ∧ 3 - i ≤ gg ∧ v = .int .i64 (i : Int) ∧ Hid (UnM w a b c v7 (undTo z d a b c i) wr))
  case atStart => exact ⟨0, by omega, by omega, rfl, Lib.hid ⟨fun o => by simp [go_sem], by rw [undTo, ptC_nil]; exact World.ownsRow_nil _ _ _ _, by (repeat' first | (with_reducible first | exact Bq0 | assumption | refine Bq1 ?_ | refine Bq2 ?_ | refine Bq3 ?_ ?_ | refine Bq4 ?_ (by assumption)) | go_size), by simp⟩⟩
  case round =>
    obtain ⟨i, hi, hgi, rfl, HI⟩ := hrel
    by_cases hlt : i < 3
    · have hi3 : (i : Int) < 3 := by omega
      have hlen := undTo_len z d a b c i
      obtain ⟨j, hj, hjm⟩ : ∃ j : Nat, j = (i + 1) % 3 ∧ j < 3 := ⟨(i + 1) % 3, rfl, Nat.mod_lt _ (by omega)⟩
      have htm : ((i : Int) + 1).tmod 3 = (j : Int) := by rw [Int.tmod_eq_emod_of_nonneg (by omega)]; omega
      have ca := HI.out.at' hlt
      have cb := HI.out.at' hjm
      have ba := HBD.out i
      have bb := HBD.out j
      have hnext : undTo z d a b c (i + 1) = undTo z d a b c i ++ und1 z d (trp a b c i) (trp a b c j) := by rw [undTo, ← hj]
      generalize trp a b c i = p at *
      generalize trp a b c j = r at *
      have htm2 : ((i : Int) + 1) % 3 = (j : Int) := by omega
      have hw1 : IntKind.i64.wrap ((i : Int) + 1) = (i : Int) + 1 := by rw [IntKind.wrap_i64]; omega
      have hj3 : (j : Int) < 3 := by omega
      clear hj
      obtain ⟨p0, p1, p2⟩ := p
      obtain ⟨r0, r1, r2⟩ := r
      simp only at ca cb ba bb
      generalize undTo z d a b c i = L at *
      go_upto_region 5 with (fail)
      have hkown : ∀ k, u7.ownBlock = some k → k < wr.heap.size := fun k hk => (HI.out.own.lt k hk).2
      have lw : w.heap.size < wr.heap.size := by have := HI.out.base; omega
      have hS := Lib.hid (show ∀ x : World, Below wr.heap.size wr x → ((x.cell? ⟨w.heap.size, i * 3, none⟩ = some (.int .i64 p0) ∧ x.cell? ⟨w.heap.size, i * 3 + 1, none⟩ = some (.int .i64 p1) ∧ x.cell? ⟨w.heap.size, i * 3 + 2, none⟩ = some (.int .i64 p2)) ∧ (x.cell? ⟨w.heap.size, j * 3, none⟩ = some (.int .i64 r0) ∧ x.cell? ⟨w.heap.size, j * 3 + 1, none⟩ = some (.int .i64 r1) ∧ x.cell? ⟨w.heap.size, j * 3 + 2, none⟩ = some (.int .i64 r2)) ∧ Below wr.heap.size wr x) from fun x hb => ⟨⟨keep_one hb lw ca.1, keep_one hb lw ca.2.1, keep_one hb lw ca.2.2⟩, ⟨keep_one hb lw cb.1, keep_one hb lw cb.2.1, keep_one hb lw cb.2.2⟩, hb⟩)
      clear ca cb
      go_cut [9, 10] (fun v9 v10 wx => ∃ b9 b10, v9 = .pointer (some ⟨b9, 0, none⟩) ∧ v10 = .pointer (some ⟨b10, 0, none⟩) ∧ Hid (UnR w a b c u7 L b9 b10 (p0, p1, p2) (r0, r1, r2) wx))
      case first =>
        refine wp_region_held_drew (S := fun x => ((x.cell? ⟨w.heap.size, i * 3, none⟩ = some (.int .i64 p0) ∧ x.cell? ⟨w.heap.size, i * 3 + 1, none⟩ = some (.int .i64 p1) ∧ x.cell? ⟨w.heap.size, i * 3 + 2, none⟩ = some (.int .i64 p2)) ∧ (x.cell? ⟨w.heap.size, j * 3, none⟩ = some (.int .i64 r0) ∧ x.cell? ⟨w.heap.size, j * 3 + 1, none⟩ = some (.int .i64 r1) ∧ x.cell? ⟨w.heap.size, j * 3 + 2, none⟩ = some (.int .i64 r2)) ∧ Below wr.heap.size wr x)) (by kernel_rfl) (by (refine hS.out _ ?_; (repeat' first | (with_reducible first | exact Bq0 | assumption | refine Bq1 ?_ | refine Bq2 ?_ | refine Bq3 ?_ ?_ | refine Bq4 ?_ (by assumption)) | go_size))) (fun hHeld => ?_)
        iterate 12 (all_goals (first
          | ((refine wpAnyH_take (i := 0) (v := .int .i64 (i : Int)) rfl (by kernel_rfl) (by decide +kernel) (by decide +kernel) (fun _ _ _ h => h) (Or.inl ⟨rfl, fun x hx => (by ((try dsimp only at hx); go_simp))⟩) hHeld ?_); (try simp only [Nq1, Nq2, Nq3, Act.put, Nq4, Nq5, Nq6]))
          | ((refine wpAnyH_take (i := 1) (v := .pointer (some ⟨w.heap.size, i * 3, none⟩)) rfl (by kernel_rfl) (by decide +kernel) (by decide +kernel) (fun _ _ _ h => h) (Or.inl ⟨rfl, fun x hx => (by ((try dsimp only at hx); go_simp))⟩) hHeld ?_); (try simp only [Nq1, Nq2, Nq3, Act.put, Nq4, Nq5, Nq6]))
          | ((refine wpAnyH_take (i := 2) (v := .agg (#[.int .i64 p0, .int .i64 p1, .int .i64 p2] : Array Value)) rfl (by kernel_rfl) (by decide +kernel) (by decide +kernel) (fun _ _ _ h => h) (Or.inl ⟨rfl, fun x hx => (by ((try dsimp only at hx); go_simp))⟩) hHeld ?_); (try simp only [Nq1, Nq2, Nq3, Act.put, Nq4, Nq5, Nq6]))
          | ((refine wpAnyH_take (i := 3) (v := .int .i64 (i : Int)) rfl (by kernel_rfl) (by decide +kernel) (by decide +kernel) (fun _ _ _ h => h) (Or.inl ⟨rfl, fun x hx => (by ((try dsimp only at hx); go_simp))⟩) hHeld ?_); (try simp only [Nq1, Nq2, Nq3, Act.put, Nq4, Nq5, Nq6]))
          | ((refine wpAnyH_take (i := 4) (v := .int .i64 ((i : Int) + 1)) rfl (by kernel_rfl) (by decide +kernel) (by decide +kernel) (fun _ _ _ h => h) (Or.inl ⟨rfl, fun x hx => (by ((try dsimp only at hx); go_simp))⟩) hHeld ?_); (try simp only [Nq1, Nq2, Nq3, Act.put, Nq4, Nq5, Nq6]))
          | ((refine wpAnyH_take (i := 5) (v := .int .i64 (j : Int)) rfl (by kernel_rfl) (by decide +kernel) (by decide +kernel) (fun _ _ _ h => h) (Or.inl ⟨rfl, fun x hx => (by ((try dsimp only at hx); go_simp))⟩) hHeld ?_); (try simp only [Nq1, Nq2, Nq3, Act.put, Nq4, Nq5, Nq6]))
          | ((refine wpAnyH_take (i := 6) (v := .pointer (some ⟨w.heap.size, j * 3, none⟩)) rfl (by kernel_rfl) (by decide +kernel) (by decide +kernel) (fun _ _ _ h => h) (Or.inl ⟨rfl, fun x hx => (by ((try dsimp only at hx); go_simp))⟩) hHeld ?_); (try simp only [Nq1, Nq2, Nq3, Act.put, Nq4, Nq5, Nq6]))
          | ((refine wpAnyH_take (i := 7) (v := .agg (#[.int .i64 r0, .int .i64 r1, .int .i64 r2] : Array Value)) rfl (by kernel_rfl) (by decide +kernel) (by decide +kernel) (fun _ _ _ h => h) (Or.inl ⟨rfl, fun x hx => (by ((try dsimp only at hx); go_simp))⟩) hHeld ?_); (try simp only [Nq1, Nq2, Nq3, Act.put, Nq4, Nq5, Nq6]))
          | ((refine wpAnyH_ready (rs := [8, 9]) (by decide +kernel) (by simp) (AllReadyH.cons rfl (fun K hK => ?_) (AllReadyH.cons rfl (fun K hK => ?_) AllReadyH.nil))) <;> (go_simp; (first | skip | skip); (refine hK.out _ _ ?_ (fun hNew => ?_)); (focus (refine hS.out _ ?_; (repeat' first | (with_reducible first | exact Bq0 | assumption | refine Bq1 ?_ | refine Bq2 ?_ | refine Bq3 ?_ ?_ | refine Bq4 ?_ (by assumption)) | go_size))); clear hHeld hK K; have hHeld := hNew; clear hNew; (try simp only [Nq1, Nq2, Nq3, Act.put, Nq4, Nq5, Nq6])))
          | ((refine wpAnyH_ready (rs := [8]) (by decide +kernel) (by simp) (AllReadyH.cons rfl (fun K hK => ?_) AllReadyH.nil)) <;> (go_simp; (first | skip | skip); (refine hK.out _ _ ?_ (fun hNew => ?_)); (focus (refine hS.out _ ?_; (repeat' first | (with_reducible first | exact Bq0 | assumption | refine Bq1 ?_ | refine Bq2 ?_ | refine Bq3 ?_ ?_ | refine Bq4 ?_ (by assumption)) | go_size))); clear hHeld hK K; have hHeld := hNew; clear hNew; (try simp only [Nq1, Nq2, Nq3, Act.put, Nq4, Nq5, Nq6])))
          | ((refine wpAnyH_ready (rs := [9]) (by decide +kernel) (by simp) (AllReadyH.cons rfl (fun K hK => ?_) AllReadyH.nil)) <;> (go_simp; (first | skip | skip); (refine hK.out _ _ ?_ (fun hNew => ?_)); (focus (refine hS.out _ ?_; (repeat' first | (with_reducible first | exact Bq0 | assumption | refine Bq1 ?_ | refine Bq2 ?_ | refine Bq3 ?_ ?_ | refine Bq4 ?_ (by assumption)) | go_size))); clear hHeld hK K; have hHeld := hNew; clear hNew; (try simp only [Nq1, Nq2, Nq3, Act.put, Nq4, Nq5, Nq6])))
          | ((refine wpAnyH_ready (rs := [10, 11]) (by decide +kernel) (by simp) (AllReadyH.cons rfl (fun K hK => ?_) (AllReadyH.cons rfl (fun K hK => ?_) AllReadyH.nil))) <;> (go_simp; (first | skip | skip); (refine hK.out _ _ ?_ (fun hNew => ?_)); (focus (refine hS.out _ ?_; (repeat' first | (with_reducible first | exact Bq0 | assumption | refine Bq1 ?_ | refine Bq2 ?_ | refine Bq3 ?_ ?_ | refine Bq4 ?_ (by assumption)) | go_size))); clear hHeld hK K; have hHeld := hNew; clear hNew; (try simp only [Nq1, Nq2, Nq3, Act.put, Nq4, Nq5, Nq6])))
          | ((refine wpAnyH_ready (rs := [10]) (by decide +kernel) (by simp) (AllReadyH.cons rfl (fun K hK => ?_) AllReadyH.nil)) <;> (go_simp; (first | skip | skip); (refine hK.out _ _ ?_ (fun hNew => ?_)); (focus (refine hS.out _ ?_; (repeat' first | (with_reducible first | exact Bq0 | assumption | refine Bq1 ?_ | refine Bq2 ?_ | refine Bq3 ?_ ?_ | refine Bq4 ?_ (by assumption)) | go_size))); clear hHeld hK K; have hHeld := hNew; clear hNew; (try simp only [Nq1, Nq2, Nq3, Act.put, Nq4, Nq5, Nq6])))
          | ((refine wpAnyH_ready (rs := [11]) (by decide +kernel) (by simp) (AllReadyH.cons rfl (fun K hK => ?_) AllReadyH.nil)) <;> (go_simp; (first | skip | skip); (refine hK.out _ _ ?_ (fun hNew => ?_)); (focus (refine hS.out _ ?_; (repeat' first | (with_reducible first | exact Bq0 | assumption | refine Bq1 ?_ | refine Bq2 ?_ | refine Bq3 ?_ ?_ | refine Bq4 ?_ (by assumption)) | go_size))); clear hHeld hK K; have hHeld := hNew; clear hNew; (try simp only [Nq1, Nq2, Nq3, Act.put, Nq4, Nq5, Nq6])))))
        all_goals (refine wpAnyH_done (by kernel_rfl) ?_ _; clear hHeld)
        all_goals
          go_wp2
          go_meet
          case rel => exact ⟨_, _, rfl, rfl, Lib.hid ⟨HI.out.later (by (repeat' first | (with_reducible first | exact Bq0 | assumption | refine Bq1 ?_ | refine Bq2 ?_ | refine Bq3 ?_ ?_ | refine Bq4 ?_ (by assumption)) | go_size)), fun o => by simp [go_sem], fun o => by simp [go_sem], by simp; first | done | omega, by simp; first | done | omega, fun k hk => by have := hkown k hk; (try simp only [World.size_alloc, World.size_drew]); omega, fun k hk => by have := hkown k hk; (try simp only [World.size_alloc, World.size_drew]); omega⟩⟩
      case rest =>
        obtain ⟨b9, b10, rfl, rfl, HR⟩ := hcut
        clear hS HI hkown lw
        have c9 := HR.out.c9
        have c10 := HR.out.c10
        have hw2 : wrap64 (z - p2) = z - p2 := by unfold wrap64; omega
        have hw3 : wrap64 (-(z - p2)) = -(z - p2) := by unfold wrap64; omega
        by_cases h1 : p2 ≤ z
        · go_upto_region 7 with (fail)
          go_wp2_with (first | (at_builtin; refine wpList_append_lies _ rfl _ _ 64 rfl (w.heap.size + 1) 68 i0 (.agg #[.int .i64 0, .int .i64 0, .int .i64 0]) 3 24 Tryd.underlying64 hinf hi0 hi1 hi2 rfl (by decide) u7 L.length (ptC L) rfl (HR.out.later (al1 _ _)).m.own ⟨wc.heap.size, 0, none⟩ 1 1 [.int .i64 (wrap64 (d * p0)), .int .i64 (wrap64 (d * p1)), .int .i64 (wrap64 (d * p2))] rfl rfl (news3 wc _ _ _ _) (by simp [Value.oneCell']) (by omega) (HML.out _ (by omega)) (by omega) (by have := HR.out.m.base; simp; omega) _ rfl ?_))
          intro g1 cap1 v1 hown1 hgrow1 hat1 hlt1
          have HR1 := Lib.hid ((HR.out.later (al1 _ _)).push (u := (d * p0, d * p1, d * p2)) (n := L.length + 1) (g := g1) (cap := cap1) (by simp) (by rw [ptC_one, ← w64_of (Cg.refl (d * p0)), ← w64_of (Cg.refl (d * p1)), ← w64_of (Cg.refl (d * p2))]; exact hown1) hgrow1 (by simpa using hat1))
          clear hown1 hgrow1 hat1 hlt1 HR c9 c10
          have c9 := HR1.out.c9
          have c10 := HR1.out.c10
          by_cases h2 : p2 < z ∧ z < r2
          · obtain ⟨h2, h3⟩ := h2
            have h4 : ¬ z - p2 < 0 := by omega
            have hlen1 : (L ++ [(d * p0, d * p1, d * p2)]).length = L.length + 1 := by simp
            rw [und1_a h2 h3, ← List.append_assoc] at hnext
            generalize hL1 : L ++ [(d * p0, d * p1, d * p2)] = L1 at *
            clear hL1
            have HO2 := Lib.hid (show ∀ O, (v1.alloc O).ownsRow (w.heap.size + 1) 68 3 (.slice (some ⟨g1, 0, none⟩) (L.length + 1) cap1) (L.length + 1) (ptC L1) from fun O => by have := (HR1.out.later (al1 _ O)).m.own; rw [hlen1] at this; exact this)
            go_upto_region 12 with (fail)
            go_wp2_with (first | (at_builtin; refine wpList_append_lies _ rfl _ _ 64 rfl (w.heap.size + 1) 68 i0 (.agg #[.int .i64 0, .int .i64 0, .int .i64 0]) 3 24 Tryd.underlying64 hinf hi0 hi1 hi2 rfl (by decide) (.slice (some ⟨g1, 0, none⟩) (L.length + 1 : Nat) cap1) (L.length + 1) (ptC L1) rfl (HO2.out _) ⟨v1.heap.size, 0, none⟩ 1 1 [.int .i64 (wrap64 (wrap64 (d * p0) + wrap64 (wrap64 (r0 - p0) * (z - p2)))), .int .i64 (wrap64 (wrap64 (d * p1) + wrap64 (wrap64 (r1 - p1) * (z - p2)))), .int .i64 (wrap64 (d * z))] rfl rfl (news3 v1 _ _ _ _) (by simp [Value.oneCell']) (by omega) (HML.out _ (by omega)) (by omega) (by have := HR1.out.m.base; simp; omega) _ rfl ?_))
            intro g2 cap2 v2 hown2 hgrow2 hat2 hlt2
            have HR2 := Lib.hid ((HR1.out.later (al1 _ _)).push (u := (d * p0 + (r0 - p0) * (z - p2), d * p1 + (r1 - p1) * (z - p2), d * z)) (n := L.length + 1 + 1) (g := g2) (cap := cap2) (by simp [hlen1]) (by rw [ptC_one, ← w64_of (((Cg.refl (d * p0)).w).add (((Cg.refl (r0 - p0)).w.mul (Cg.refl (z - p2))).w)), ← w64_of (((Cg.refl (d * p1)).w).add (((Cg.refl (r1 - p1)).w.mul (Cg.refl (z - p2))).w)), ← w64_of (Cg.refl (d * z))]; exact hown2) hgrow2 (by simpa using hat2))
            clear hown2 hgrow2 hat2 hlt2 HR1 HO2 c9 c10
            go_wp2
            go_roundg (3 - (i + 1))
            case measure => omega
            case rel => exact ⟨i + 1, by omega, by omega, by go_num, by rw [hnext]; exact Lib.hid HR2.out.m⟩
          · rw [und1_b h1 h2] at hnext
            have h3 : ¬ z < p2 := by omega
            by_cases h5 : p2 < z
            · have h6 : ¬ z < r2 := by omega
              go_wp2
              go_roundg (3 - (i + 1))
              case measure => omega
              case rel => exact ⟨i + 1, by omega, by omega, by go_num, by rw [hnext]; exact Lib.hid HR1.out.m⟩
            · go_wp2
              go_roundg (3 - (i + 1))
              case measure => omega
              case rel => exact ⟨i + 1, by omega, by omega, by go_num, by rw [hnext]; exact Lib.hid HR1.out.m⟩
        · have h2 : ¬ p2 < z := by omega
          have h3 : z < p2 := by omega
          by_cases h4 : r2 < z
          · have h5 : z - p2 < 0 := by omega
            rw [und1_c h3 h4] at hnext
            go_upto_region 12 with (fail)
            go_wp2_with (first | (at_builtin; refine wpList_append_lies _ rfl _ _ 64 rfl (w.heap.size + 1) 68 i0 (.agg #[.int .i64 0, .int .i64 0, .int .i64 0]) 3 24 Tryd.underlying64 hinf hi0 hi1 hi2 rfl (by decide) u7 L.length (ptC L) rfl (HR.out.later (al1 _ _)).m.own ⟨wc.heap.size, 0, none⟩ 1 1 [.int .i64 (wrap64 (wrap64 (d * p0) + wrap64 (wrap64 (r0 - p0) * -(z - p2)))), .int .i64 (wrap64 (wrap64 (d * p1) + wrap64 (wrap64 (r1 - p1) * -(z - p2)))), .int .i64 (wrap64 (d * z))] rfl rfl (news3 wc _ _ _ _) (by simp [Value.oneCell']) (by omega) (HML.out _ (by omega)) (by omega) (by have := HR.out.m.base; simp; omega) _ rfl ?_))
            intro g2 cap2 v2 hown2 hgrow2 hat2 hlt2
            have HR2 := Lib.hid ((HR.out.later (al1 _ _)).push (u := (d * p0 + (r0 - p0) * -(z - p2), d * p1 + (r1 - p1) * -(z - p2), d * z)) (n := L.length + 1) (g := g2) (cap := cap2) (by simp) (by rw [ptC_one, ← w64_of (((Cg.refl (d * p0)).w).add (((Cg.refl (r0 - p0)).w.mul (Cg.refl (-(z - p2)))).w)), ← w64_of (((Cg.refl (d * p1)).w).add (((Cg.refl (r1 - p1)).w.mul (Cg.refl (-(z - p2)))).w)), ← w64_of (Cg.refl (d * z))]; exact hown2) hgrow2 (by simpa using hat2))
            clear hown2 hgrow2 hat2 hlt2 HR c9 c10
            go_wp2
            go_roundg (3 - (i + 1))
            case measure => omega
            case rel => exact ⟨i + 1, by omega, by omega, by go_num, by rw [hnext]; exact Lib.hid HR2.out.m⟩
          · rw [und1_d h3 h4, List.append_nil] at hnext
            go_wp2
            go_roundg (3 - (i + 1))
            case measure => omega
            case rel => exact ⟨i + 1, by omega, by omega, by go_num, by rw [hnext]; exact Lib.hid HR.out.m⟩
    · obtain rfl : i = 3 := by omega
      rw [undTo_3] at HI
      go_wp2
      go_returns
      exact ⟨_, rfl, HI.out.own, HI.out.b⟩
end Go.Proofs.YthikaimhmpenhaaDoor
