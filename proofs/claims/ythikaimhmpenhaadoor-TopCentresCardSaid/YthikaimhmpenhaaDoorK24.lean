/-
  What the closure at of package hydro's corners returns: a number at a height between two waterlines.
  (Written by wip/pack.py out of XFHyG.)
-/
import Derived.Test.YthikaimhmpenhaaDoorK23

namespace Go.Proofs.YthikaimhmpenhaaDoor
set_option linter.all false
open Go Go.RowKit Wd
set_option maxRecDepth 100000
structure Cap (w : World) (bw bz bf bk bZ oZ m cz : Nat) (whole : Bool) (z z0 z1 : Int) (k : Nat) : Prop where
  vw : w.cell? ⟨bw, 0, none⟩ = some (.bool whole)
  vz : w.cell? ⟨bz, 0, none⟩ = some (.int .i64 z)
  vf : w.cell? ⟨bf, 1, none⟩ = some (.slice (some ⟨bZ, oZ, none⟩) m cz)
  vk : w.cell? ⟨bk, 0, none⟩ = some (.int .i64 (k : Int))
  va : w.cell? ⟨bZ, oZ + k, none⟩ = some (.int .i64 z0)
  vb : whole = false → w.cell? ⟨bZ, oZ + (k + 1), none⟩ = some (.int .i64 z1)
  lw : bw < w.heap.size
  lz : bz < w.heap.size
  lf : bf < w.heap.size
  lk : bk < w.heap.size
  lZ : bZ < w.heap.size
theorem Cap.later {w x : World} {bw bz bf bk bZ oZ m cz : Nat} {whole : Bool} {z z0 z1 : Int} {k : Nat} (h : Cap w bw bz bf bk bZ oZ m cz whole z z0 z1 k) (hb : Below w.heap.size w x) : Cap x bw bz bf bk bZ oZ m cz whole z z0 z1 k :=
  ⟨keep_one hb h.lw h.vw, keep_one hb h.lz h.vz, keep_one hb h.lf h.vf, keep_one hb h.lk h.vk, keep_one hb h.lZ h.va, fun e => keep_one hb h.lZ (h.vb e), keep_lt hb h.lw, keep_lt hb h.lz, keep_lt hb h.lf, keep_lt hb h.lk, keep_lt hb h.lZ⟩
def AtC (bw bz bf bk bZ oZ m cz : Nat) (whole : Bool) (z z0 z1 : Int) (k : Nat) (a b : Int) (r : Fr) : Prop := ∀ w, Tab64 w → Cap w bw bz bf bk bZ oZ m cz whole z z0 z1 k →
  Calls Tryd.prog 68 #[.int .i64 a, .int .i64 b, .pointer (some ⟨bw, 0, none⟩), .pointer (some ⟨bz, 0, none⟩), .pointer (some ⟨bf, 0, none⟩), .pointer (some ⟨bk, 0, none⟩)] w fun e w' => e = .returned (.agg #[.bool ((r).s), .int .u64 ↑r.a, .int .u64 0, .int .u64 0, .int .u64 0, .bool false, .int .u64 ↑r.d, .int .u64 0, .int .u64 0, .int .u64 0]) ∧ Below w.heap.size w w'
set_option maxHeartbeats 8000000 in
theorem at_cut {bw bz bf bk bZ oZ m cz : Nat} {z z0 z1 : Int} {k : Nat} {a b : Int} {o1 o2 o3 t r : Fr} (hk : k + 1 < m) (hm : m ≤ 100) (ha : 0 ≤ a) (ha' : a ≤ 1000000) (hb : 0 ≤ b) (hb' : b ≤ 1000000) (h0 : 0 ≤ z0) (h1 : z0 ≤ z) (h2 : z ≤ z1) (h3 : z1 ≤ 1000000)
    (h4 : OfC a 1 o1) (h5 : OfC (z - z0) (z1 - z0) o2) (h6 : OfC (b - a) 1 o3) (h7 : TimC 2 (pk2 o2 o3) t) (h8 : SumC 2 (pk2 o1 t) r) : AtC bw bz bf bk bZ oZ m cz false z z0 z1 k a b r := fun w hT hC => by
  have H4 := Lib.hid h4
  have H5 := Lib.hid h5
  have H6 := Lib.hid h6
  have H7 := Lib.hid h7
  have H8 := Lib.hid h8
  have HT := Lib.hid hT
  have HC := Lib.hid hC
  have c0 := hC.vw
  have l0 := hC.lw
  have hkm : (k : Int) + 1 < (m : Int) := by omega
  have hm' : (m : Int) ≤ 100 := by omega
  clear h4 h5 h6 h7 h8 hT hC
  go_enter Tryd.func68, Tryd.ntmps68
  go_upto_region 3 with (fail)
  refine wp_world (fun x => (∀ o, x.cell? ⟨w.heap.size, o, none⟩ = (#[.bool false, .int .u64 0, .int .u64 0, .int .u64 0, .int .u64 0, .bool false, .int .u64 0, .int .u64 0, .int .u64 0, .int .u64 0] : Array Value)[o]?) ∧ (∀ o, x.frozen? ⟨w.heap.size, o, none⟩ = false) ∧ w.heap.size < x.heap.size ∧ Below w.heap.size w x) (by (repeat' apply And.intro) <;> first | (intro o; simp [go_sem]; done) | ((repeat' first | (with_reducible first | exact Bq0 | assumption | refine Bq1 ?_ | refine Bq2 ?_ | refine Bq3 ?_ ?_ | refine Bq4 ?_ (by assumption)) | go_size); done) | omega | (simp [go_sem]; done) | (simp [go_sem]; omega)) ?_
  rintro A ⟨hAc0, hAf0, hAz0, hAb⟩
  have TA := Lib.hid (HT.out.later hAb)
  have J4 := fun (x : World) (hx : Below A.heap.size A x) => And.intro (keep_cell hx hAz0 hAc0) (And.intro (keep_frozen hx hAz0 hAf0) (keep_lt hx hAz0))
  have KA := fun (x : World) (hx : Below A.heap.size A x) => (fun (C : Cap x bw bz bf bk bZ oZ m cz false z z0 z1 k) => And.intro C.vz (And.intro C.vf (And.intro C.vk (And.intro C.va (C.vb rfl))))) ((HC.out.later hAb).later hx)
  refine wp_region_kn 30 [.val (.int .i64 a), .val ((.agg #[.bool ((o1).s), .int .u64 ↑o1.a, .int .u64 0, .int .u64 0, .int .u64 0, .bool false, .int .u64 ↑o1.d, .int .u64 0, .int .u64 0, .int .u64 0])), .val (.int .i64 z), .val (.pointer (some ⟨bf, 1, none⟩)), .val (.slice (some ⟨bZ, oZ, none⟩) m cz), .val (.int .i64 (k : Int)), .val (.pointer (some ⟨bZ, oZ + k, none⟩)), .val (.int .i64 z0), .val (.int .i64 (z - z0)), .val (.pointer (some ⟨bf, 1, none⟩)), .val (.slice (some ⟨bZ, oZ, none⟩) m cz), .val (.int .i64 (k : Int)), .val (.int .i64 ((k : Int) + 1)), .val (.pointer (some ⟨bZ, oZ + (k + 1), none⟩)), .val (.int .i64 z1), .val (.pointer (some ⟨bf, 1, none⟩)), .val (.slice (some ⟨bZ, oZ, none⟩) m cz), .val (.int .i64 (k : Int)), .val (.pointer (some ⟨bZ, oZ + k, none⟩)), .val (.int .i64 z0), .val (.int .i64 (z1 - z0)), .val ((.agg #[.bool ((o2).s), .int .u64 ↑o2.a, .int .u64 0, .int .u64 0, .int .u64 0, .bool false, .int .u64 ↑o2.d, .int .u64 0, .int .u64 0, .int .u64 0])), .val (.int .i64 b), .val (.int .i64 a), .val (.int .i64 (b - a)), .val ((.agg #[.bool ((o3).s), .int .u64 ↑o3.a, .int .u64 0, .int .u64 0, .int .u64 0, .bool false, .int .u64 ↑o3.d, .int .u64 0, .int .u64 0, .int .u64 0])), .row (2) (pk2 o2 o3), .val ((.agg #[.bool ((t).s), .int .u64 ↑t.a, .int .u64 0, .int .u64 0, .int .u64 0, .bool false, .int .u64 ↑t.d, .int .u64 0, .int .u64 0, .int .u64 0])), .row (2) (pk2 o1 t), .val ((.agg #[.bool ((r).s), .int .u64 ↑r.a, .int .u64 0, .int .u64 0, .int .u64 0, .bool false, .int .u64 ↑r.d, .int .u64 0, .int .u64 0, .int .u64 0]))] A (by kernel_rfl) (by kernel_rfl) (by kernel_rfl) (by kernel_rfl) (by kernel_rfl) (by decide) (Below.refl _ _) ?_ ?_
  · refine steps_next (n := 0) ⟨_, by rfl, fun vals x hx hj => ?_⟩ ?_
    · have hk := KA x hx; clear hj; refine kn_val hx ?_; simp only [putF, dstO, Act.put]; go_simp; (try first | with_reducible rfl | (intros; omega) | (simp only [IntKind.wrap_i64]; omega))
    refine steps_next (n := 1) ⟨_, by rfl, fun vals x hx hj => ?_⟩ ?_
    · have hk := KA x hx; have e0 : _ = _ := hj 0 (by decide +kernel); clear hj; refine kn_call hx (H4.out x (TA.out.later hx)) ?_; simp only [putF, dstO, Act.put]; (try simp only [e0]); go_simp
    refine steps_next (n := 2) ⟨_, by rfl, fun vals x hx hj => ?_⟩ ?_
    · have hk := KA x hx; clear hj; refine kn_val hx ?_; simp only [putF, dstO, Act.put]; go_simp; (try first | with_reducible rfl | (intros; omega) | (simp only [IntKind.wrap_i64]; omega))
    refine steps_next (n := 3) ⟨_, by rfl, fun vals x hx hj => ?_⟩ ?_
    · have hk := KA x hx; clear hj; refine kn_val hx ?_; simp only [putF, dstO, Act.put]; go_simp
    refine steps_next (n := 4) ⟨_, by rfl, fun vals x hx hj => ?_⟩ ?_
    · have hk := KA x hx; have e3 : _ = _ := hj 3 (by decide +kernel); clear hj; refine kn_val hx ?_; simp only [putF, dstO, Act.put]; (try simp only [e3]); go_simp
    refine steps_next (n := 5) ⟨_, by rfl, fun vals x hx hj => ?_⟩ ?_
    · have hk := KA x hx; clear hj; refine kn_val hx ?_; simp only [putF, dstO, Act.put]; go_simp; (try first | with_reducible rfl | (intros; omega) | (simp only [IntKind.wrap_i64]; omega))
    refine steps_next (n := 6) ⟨_, by rfl, fun vals x hx hj => ?_⟩ ?_
    · have hk := KA x hx; have e4 : _ = _ := hj 4 (by decide +kernel); have e5 : _ = _ := hj 5 (by decide +kernel); clear hj; refine kn_val hx ?_; simp only [putF, dstO, Act.put]; (try simp only [e4, e5]); go_simp; (try first | with_reducible rfl | (intros; omega) | (simp only [IntKind.wrap_i64]; omega))
    refine steps_next (n := 7) ⟨_, by rfl, fun vals x hx hj => ?_⟩ ?_
    · have hk := KA x hx; have e6 : _ = _ := hj 6 (by decide +kernel); clear hj; refine kn_val hx ?_; simp only [putF, dstO, Act.put]; (try simp only [e6]); go_simp; (try first | with_reducible rfl | (intros; omega) | (simp only [IntKind.wrap_i64]; omega))
    refine steps_next (n := 8) ⟨_, by rfl, fun vals x hx hj => ?_⟩ ?_
    · have hk := KA x hx; have e2 : _ = _ := hj 2 (by decide +kernel); have e7 : _ = _ := hj 7 (by decide +kernel); clear hj; refine kn_val hx ?_; simp only [putF, dstO, Act.put]; (try simp only [e2, e7]); go_simp; (try first | with_reducible rfl | (intros; omega) | (simp only [IntKind.wrap_i64]; omega))
    refine steps_next (n := 9) ⟨_, by rfl, fun vals x hx hj => ?_⟩ ?_
    · have hk := KA x hx; clear hj; refine kn_val hx ?_; simp only [putF, dstO, Act.put]; go_simp
    refine steps_next (n := 10) ⟨_, by rfl, fun vals x hx hj => ?_⟩ ?_
    · have hk := KA x hx; have e9 : _ = _ := hj 9 (by decide +kernel); clear hj; refine kn_val hx ?_; simp only [putF, dstO, Act.put]; (try simp only [e9]); go_simp
    refine steps_next (n := 11) ⟨_, by rfl, fun vals x hx hj => ?_⟩ ?_
    · have hk := KA x hx; clear hj; refine kn_val hx ?_; simp only [putF, dstO, Act.put]; go_simp; (try first | with_reducible rfl | (intros; omega) | (simp only [IntKind.wrap_i64]; omega))
    refine steps_next (n := 12) ⟨_, by rfl, fun vals x hx hj => ?_⟩ ?_
    · have hk := KA x hx; have e11 : _ = _ := hj 11 (by decide +kernel); clear hj; refine kn_val hx ?_; simp only [putF, dstO, Act.put]; (try simp only [e11]); go_simp; (try first | with_reducible rfl | (intros; omega) | (simp only [IntKind.wrap_i64]; omega))
    refine steps_next (n := 13) ⟨_, by rfl, fun vals x hx hj => ?_⟩ ?_
    · have hk := KA x hx; have e10 : _ = _ := hj 10 (by decide +kernel); have e12 : _ = _ := hj 12 (by decide +kernel); clear hj; refine kn_val hx ?_; simp only [putF, dstO, Act.put]; (try simp only [e10, e12]); go_simp; (try first | with_reducible rfl | (intros; omega) | (simp only [IntKind.wrap_i64]; omega))
    refine steps_next (n := 14) ⟨_, by rfl, fun vals x hx hj => ?_⟩ ?_
    · have hk := KA x hx; have e13 : _ = _ := hj 13 (by decide +kernel); clear hj; refine kn_val hx ?_; simp only [putF, dstO, Act.put]; (try simp only [e13]); go_simp; (try first | with_reducible rfl | (intros; omega) | (simp only [IntKind.wrap_i64]; omega))
    refine steps_next (n := 15) ⟨_, by rfl, fun vals x hx hj => ?_⟩ ?_
    · have hk := KA x hx; clear hj; refine kn_val hx ?_; simp only [putF, dstO, Act.put]; go_simp
    refine steps_next (n := 16) ⟨_, by rfl, fun vals x hx hj => ?_⟩ ?_
    · have hk := KA x hx; have e15 : _ = _ := hj 15 (by decide +kernel); clear hj; refine kn_val hx ?_; simp only [putF, dstO, Act.put]; (try simp only [e15]); go_simp
    refine steps_next (n := 17) ⟨_, by rfl, fun vals x hx hj => ?_⟩ ?_
    · have hk := KA x hx; clear hj; refine kn_val hx ?_; simp only [putF, dstO, Act.put]; go_simp; (try first | with_reducible rfl | (intros; omega) | (simp only [IntKind.wrap_i64]; omega))
    refine steps_next (n := 18) ⟨_, by rfl, fun vals x hx hj => ?_⟩ ?_
    · have hk := KA x hx; have e16 : _ = _ := hj 16 (by decide +kernel); have e17 : _ = _ := hj 17 (by decide +kernel); clear hj; refine kn_val hx ?_; simp only [putF, dstO, Act.put]; (try simp only [e16, e17]); go_simp; (try first | with_reducible rfl | (intros; omega) | (simp only [IntKind.wrap_i64]; omega))
    refine steps_next (n := 19) ⟨_, by rfl, fun vals x hx hj => ?_⟩ ?_
    · have hk := KA x hx; have e18 : _ = _ := hj 18 (by decide +kernel); clear hj; refine kn_val hx ?_; simp only [putF, dstO, Act.put]; (try simp only [e18]); go_simp; (try first | with_reducible rfl | (intros; omega) | (simp only [IntKind.wrap_i64]; omega))
    refine steps_next (n := 20) ⟨_, by rfl, fun vals x hx hj => ?_⟩ ?_
    · have hk := KA x hx; have e14 : _ = _ := hj 14 (by decide +kernel); have e19 : _ = _ := hj 19 (by decide +kernel); clear hj; refine kn_val hx ?_; simp only [putF, dstO, Act.put]; (try simp only [e14, e19]); go_simp; (try first | with_reducible rfl | (intros; omega) | (simp only [IntKind.wrap_i64]; omega))
    refine steps_next (n := 21) ⟨_, by rfl, fun vals x hx hj => ?_⟩ ?_
    · have hk := KA x hx; have e8 : _ = _ := hj 8 (by decide +kernel); have e20 : _ = _ := hj 20 (by decide +kernel); clear hj; refine kn_call hx (H5.out x (TA.out.later hx)) ?_; simp only [putF, dstO, Act.put]; (try simp only [e8, e20]); go_simp
    refine steps_next (n := 22) ⟨_, by rfl, fun vals x hx hj => ?_⟩ ?_
    · have hk := KA x hx; clear hj; refine kn_val hx ?_; simp only [putF, dstO, Act.put]; go_simp; (try first | with_reducible rfl | (intros; omega) | (simp only [IntKind.wrap_i64]; omega))
    refine steps_next (n := 23) ⟨_, by rfl, fun vals x hx hj => ?_⟩ ?_
    · have hk := KA x hx; clear hj; refine kn_val hx ?_; simp only [putF, dstO, Act.put]; go_simp; (try first | with_reducible rfl | (intros; omega) | (simp only [IntKind.wrap_i64]; omega))
    refine steps_next (n := 24) ⟨_, by rfl, fun vals x hx hj => ?_⟩ ?_
    · have hk := KA x hx; have e22 : _ = _ := hj 22 (by decide +kernel); have e23 : _ = _ := hj 23 (by decide +kernel); clear hj; refine kn_val hx ?_; simp only [putF, dstO, Act.put]; (try simp only [e22, e23]); go_simp; (try first | with_reducible rfl | (intros; omega) | (simp only [IntKind.wrap_i64]; omega))
    refine steps_next (n := 25) ⟨_, by rfl, fun vals x hx hj => ?_⟩ ?_
    · have hk := KA x hx; have e24 : _ = _ := hj 24 (by decide +kernel); clear hj; refine kn_call hx (H6.out x (TA.out.later hx)) ?_; simp only [putF, dstO, Act.put]; (try simp only [e24]); go_simp
    refine steps_next (n := 26) ⟨_, by rfl, fun vals x hx hj => ?_⟩ ?_
    · have hk := KA x hx; have e21 : _ = _ := hj 21 (by decide +kernel); have e25 : _ = _ := hj 25 (by decide +kernel); clear hj; refine kn_row (c := 2) hx (rf2_new x 39 o2 o3) ?_; simp only [putF, dstO, Act.put]; (try simp only [e21, e25]); go_simp
    refine steps_next (n := 27) ⟨_, by rfl, fun vals x hx hj => ?_⟩ ?_
    · have hk := KA x hx; obtain ⟨b26, c26, e26, R26⟩ := hj 26 (by decide +kernel); clear hj; refine kn_call hx (H7.out b26 c26 x (TA.out.later hx) R26) ?_; simp only [putF, dstO, Act.put]; (try simp only [e26]); go_simp
    refine steps_next (n := 28) ⟨_, by rfl, fun vals x hx hj => ?_⟩ ?_
    · have hk := KA x hx; have e1 : _ = _ := hj 1 (by decide +kernel); have e27 : _ = _ := hj 27 (by decide +kernel); clear hj; refine kn_row (c := 2) hx (rf2_new x 39 o1 t) ?_; simp only [putF, dstO, Act.put]; (try simp only [e1, e27]); go_simp
    refine steps_next (n := 29) ⟨_, by rfl, fun vals x hx hj => ?_⟩ ?_
    · have hk := KA x hx; obtain ⟨b28, c28, e28, R28⟩ := hj 28 (by decide +kernel); clear hj; refine kn_call hx (H8.out b28 c28 x (TA.out.later hx) R28) ?_; simp only [putF, dstO, Act.put]; (try simp only [e28]); go_simp
    exact steps_end
  intro vals Ax hAx hv
  have hkAx := KA Ax hAx
  have e0 : _ = _ := hv 0 (by omega)
  have e1 : _ = _ := hv 1 (by omega)
  have e2 : _ = _ := hv 2 (by omega)
  have e3 : _ = _ := hv 3 (by omega)
  have e4 : _ = _ := hv 4 (by omega)
  have e5 : _ = _ := hv 5 (by omega)
  have e6 : _ = _ := hv 6 (by omega)
  have e7 : _ = _ := hv 7 (by omega)
  have e8 : _ = _ := hv 8 (by omega)
  have e9 : _ = _ := hv 9 (by omega)
  have e10 : _ = _ := hv 10 (by omega)
  have e11 : _ = _ := hv 11 (by omega)
  have e12 : _ = _ := hv 12 (by omega)
  have e13 : _ = _ := hv 13 (by omega)
  have e14 : _ = _ := hv 14 (by omega)
  have e15 : _ = _ := hv 15 (by omega)
  have e16 : _ = _ := hv 16 (by omega)
  have e17 : _ = _ := hv 17 (by omega)
  have e18 : _ = _ := hv 18 (by omega)
  have e19 : _ = _ := hv 19 (by omega)
  have e20 : _ = _ := hv 20 (by omega)
  have e21 : _ = _ := hv 21 (by omega)
  have e22 : _ = _ := hv 22 (by omega)
  have e23 : _ = _ := hv 23 (by omega)
  have e24 : _ = _ := hv 24 (by omega)
  have e25 : _ = _ := hv 25 (by omega)
  obtain ⟨b26, c26, e26, R26⟩ := hv 26 (by omega)
  have e27 : _ = _ := hv 27 (by omega)
  obtain ⟨b28, c28, e28, R28⟩ := hv 28 (by omega)
  have e29 : _ = _ := hv 29 (by omega)
  clear hv
  simp only [putF, dstO, Act.put]
  (try simp only [e0, e1, e2, e3, e4, e5, e6, e7, e8, e9, e10, e11, e12, e13, e14, e15, e16, e17, e18, e19, e20, e21, e22, e23, e24, e25, e26, e27, e28, e29])
  refine wpAny_ready (rs := [30]) (by decide +kernel) (by simp) (AllReady.cons rfl (fun KK hKK => ?_) AllReady.nil)
  go_simp
  (refine hKK _ _ ?_); clear hKK KK; (try simp only [Nq1, Nq2, Nq3, Act.put, Nq4, Nq5, Nq6])
  refine wpAny_done (by kernel_rfl) ?_ _
  obtain ⟨hBc4, hBf4, hBz4⟩ := J4 Ax hAx
  have hB := below_after hAb hAx
  clear J4 KA TA hkAx R26 R28
  go_wp2_with ((with_reducible show bodyPost _ _ _ _ _ _); refine bodyPost_ret (by simp [results, Tryd.results68, go_sem, hBc4, hBf4, hBz4]; try rfl) rfl ?_; exact ⟨rfl, by (repeat' first | (with_reducible first | exact Bq0 | assumption | refine Bq1 ?_ | refine Bq2 ?_ | refine Bq3 ?_ ?_ | refine Bq4 ?_ (by assumption)) | go_size)⟩)
end Go.Proofs.YthikaimhmpenhaaDoor
