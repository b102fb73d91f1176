/-
  What package hydro's below returns: an integrand's sum over the bands up to a height.
  (Written by wip/pack.py out of XFHyM.)
-/
import Derived.Test.YthikaimhmpenhaaDoorK32

namespace Go.Proofs.YthikaimhmpenhaaDoor
set_option linter.all false
open Go Go.RowKit Wd
set_option maxRecDepth 100000
structure BlM (w : World) (B : Nat) (f : FuncId) (fx fz fh : Value) (high : Bool) (s : Fr) (wr : World) : Prop where
  c0 : ∀ o, wr.cell? ⟨w.heap.size, o, none⟩ = (#[fx, fz, fh] : Array Value)[o]?
  c1 : ∀ o, wr.cell? ⟨w.heap.size + 1, o, none⟩ = (#[.func (.func f) #[] #[]] : Array Value)[o]?
  c2 : ∀ o, wr.cell? ⟨w.heap.size + 1 + 1, o, none⟩ = (#[.bool high] : Array Value)[o]?
  c3 : ∀ o, wr.cell? ⟨w.heap.size + 1 + 1 + 1, o, none⟩ = (#[.bool false, .int .u64 0, .int .u64 0, .int .u64 0, .int .u64 0, .bool false, .int .u64 0, .int .u64 0, .int .u64 0, .int .u64 0] : Array Value)[o]?
  cB : ∀ o, wr.cell? ⟨B, o, none⟩ = (#[.bool ((s).s), .int .u64 ↑s.a, .int .u64 0, .int .u64 0, .int .u64 0, .bool false, .int .u64 ↑s.d, .int .u64 0, .int .u64 0, .int .u64 0] : Array Value)[o]?
  f0 : ∀ o, wr.frozen? ⟨w.heap.size, o, none⟩ = false
  f1 : ∀ o, wr.frozen? ⟨w.heap.size + 1, o, none⟩ = false
  f2 : ∀ o, wr.frozen? ⟨w.heap.size + 1 + 1, o, none⟩ = false
  f3 : ∀ o, wr.frozen? ⟨w.heap.size + 1 + 1 + 1, o, none⟩ = false
  fB : ∀ o, wr.frozen? ⟨B, o, none⟩ = false
  z1 : w.heap.size + 1 + 1 + 1 < B
  z2 : B < wr.heap.size
  b : Below w.heap.size w wr
theorem BlM.later {w wr x : World} {B : Nat} {f : FuncId} {fx fz fh : Value} {high : Bool} {s : Fr} (h : BlM w B f fx fz fh high s wr) (hb : Below wr.heap.size wr x) : BlM w B f fx fz fh high s x := by
  obtain ⟨c0, c1, c2, c3, cB, f0, f1, f2, f3, fB, z1, z2, b⟩ := h
  exact ⟨keep_cell hb (by omega) c0, keep_cell hb (by omega) c1, keep_cell hb (by omega) c2, keep_cell hb (by omega) c3, keep_cell hb z2 cB, keep_frozen hb (by omega) f0, keep_frozen hb (by omega) f1, keep_frozen hb (by omega) f2, keep_frozen hb (by omega) f3, keep_frozen hb z2 fB, z1, keep_lt hb z2, below_after b hb⟩
theorem BlM.cap {w wr : World} {B : Nat} {f : FuncId} {fx fz fh : Value} {high : Bool} {s : Fr} (h : BlM w B f fx fz fh high s wr) : VCap wr (w.heap.size + 1) w.heap.size (w.heap.size + 1 + 1) f fx fz fh high :=
  ⟨h.c1 0, h.c0 0, h.c0 1, h.c0 2, h.c2 0, by have := h.z1; have := h.z2; omega, by have := h.z1; have := h.z2; omega, by have := h.z1; have := h.z2; omega⟩
def topB (Z : List Int) (z : Int) (k : Nat) : Int := if z < ix Z (k + 1) then z else ix Z (k + 1)
def BelC (f : FuncId) (X Z : List Int) (H : List (List Int)) (high : Bool) (z : Int) (r : Fr) : Prop := ∀ (bX oX cX bZ oZ cZ bH oH cH : Nat) (A : Nat → Option Addr) (C : Nat → Nat) (w : World), Tab64 w → Fm w bX oX bZ oZ bH oH A C X Z H →
  Calls Tryd.prog 18 #[.agg #[.slice (some ⟨bX, oX, none⟩) X.length cX, .slice (some ⟨bZ, oZ, none⟩) Z.length cZ, .slice (some ⟨bH, oH, none⟩) H.length cH], .int .i64 z, .agg #[.func (.func f) #[] #[]], .bool high] w fun e w' => e = .returned (.agg #[.bool ((r).s), .int .u64 ↑r.a, .int .u64 0, .int .u64 0, .int .u64 0, .bool false, .int .u64 ↑r.d, .int .u64 0, .int .u64 0, .int .u64 0]) ∧ Below w.heap.size w w'
set_option maxHeartbeats 8000000 in
theorem belowH {f : FuncId} {X Z : List Int} {H : List (List Int)} {high : Bool} {z : Int} (n : Nat) (S y : Nat → Fr) (hz1 : 1 ≤ Z.length) (hz16 : Z.length ≤ 16) (hZb : ∀ k, k < Z.length → 0 ≤ ix Z k ∧ ix Z k ≤ 1000000) (hzz : 0 ≤ z) (hzz' : z ≤ 1000000)
    (hn : ∀ k, k < n → k + 1 < Z.length ∧ ix Z k < z) (hn' : n + 1 < Z.length → z ≤ ix Z n) (hnZ : n < Z.length)
    (h0 : OfC 0 1 (S 0)) (hv : ∀ k, k < n → ∃ v0 v1 v2, ValC f X Z H high (2 * ix Z k) v0 ∧ ValC f X Z H high (ix Z k + topB Z z k) v1 ∧ ValC f X Z H high (2 * topB Z z k) v2 ∧ BandC (topB Z z k - ix Z k) v0 v1 v2 (y k))
    (hs : ∀ k, k < n → SumC 2 (pk2 (S k) (y k)) (S (k + 1))) : BelC f X Z H high z (S n) := by
  intro bX oX cX bZ oZ cZ bH oH cH A C w hT hF
  have H0 := Lib.hid (fun w hT => h0 w hT)
  have HF := Lib.hid hF
  have HT := Lib.hid hT
  have HV := Lib.hid hv
  have HS := Lib.hid hs
  have HB := Lib.hid hZb
  have HN := Lib.hid hn
  have HN' := Lib.hid hn'
  have hzl : (Z.length : Int) ≤ 16 := by omega
  clear h0 hF hT hv hs hZb hn hn'
  go_enter Tryd.func18, Tryd.ntmps18
  go_wp2_with fail
  ((with_reducible refine (H0.out _ (HT.out.later (by (repeat' first | (with_reducible first | exact Bq0 | assumption | refine Bq1 ?_ | refine Bq2 ?_ | refine Bq3 ?_ ?_ | refine Bq4 ?_ (by assumption)) | go_size)))).mono ?_); rintro e w0 ⟨rfl, hb0⟩)
  obtain ⟨hc0, hf0⟩ := bcell hb0
  have hz0_w_0 : w.heap.size < w0.heap.size := by have h := hb0.size; (try simp at h); omega
  have hz0_w_1 : w.heap.size + 1 < w0.heap.size := by have h := hb0.size; (try simp at h); omega
  have hz0_w_2 : w.heap.size + 1 + 1 < w0.heap.size := by have h := hb0.size; (try simp at h); omega
  have hz0_w_3 : w.heap.size + 1 + 1 + 1 < w0.heap.size := by have h := hb0.size; (try simp at h); omega
  have M0 : BlM w w0.heap.size f (.slice (some ⟨bX, oX, none⟩) X.length cX) (.slice (some ⟨bZ, oZ, none⟩) Z.length cZ) (.slice (some ⟨bH, oH, none⟩) H.length cH) high (S 0) (w0.alloc (.cells #[.bool ((S 0).s), .int .u64 ((((S 0).a) : Nat) : Int), .int .u64 0, .int .u64 0, .int .u64 0, .bool false, .int .u64 ((((S 0).d) : Nat) : Int), .int .u64 0, .int .u64 0, .int .u64 0] 39)) := by
    have q2 : w.heap.size + 1 + 1 + 1 < w0.heap.size := by have := hb0.size; simp at this; omega
    have q3 : Below w.heap.size w w0 := by (repeat' first | (with_reducible first | exact Bq0 | assumption | refine Bq1 ?_ | refine Bq2 ?_ | refine Bq3 ?_ ?_ | refine Bq4 ?_ (by assumption)) | go_size)
    refine ⟨keep_cell_a (by omega) (fun o => by rw [hc0 _ _ (by first | (simp; done) | (simp; omega))]; simp [go_sem]), keep_cell_a (by omega) (fun o => by rw [hc0 _ _ (by first | (simp; done) | (simp; omega))]; simp [go_sem]), keep_cell_a (by omega) (fun o => by rw [hc0 _ _ (by first | (simp; done) | (simp; omega))]; simp [go_sem]), keep_cell_a (by omega) (fun o => by rw [hc0 _ _ (by first | (simp; done) | (simp; omega))]; simp [go_sem]), fun o => new_cells _ _ _ o, keep_frozen_a (by omega) (fun o => by rw [hf0 _ _ (by first | (simp; done) | (simp; omega))]; simp [go_sem]), keep_frozen_a (by omega) (fun o => by rw [hf0 _ _ (by first | (simp; done) | (simp; omega))]; simp [go_sem]), keep_frozen_a (by omega) (fun o => by rw [hf0 _ _ (by first | (simp; done) | (simp; omega))]; simp [go_sem]), keep_frozen_a (by omega) (fun o => by rw [hf0 _ _ (by first | (simp; done) | (simp; omega))]; simp [go_sem]), fun o => new_frozen _ _ _ o, q2, by simp, below_alloc q3 _⟩
  have HM0 := Lib.hid M0
  clear M0
  go_wp2
  go_loopg [10] n (fun gg v wr => ∃ j : Nat, j ≤ n ∧ n - j ≤ gg ∧ v = .int .i64 (j : Int) ∧ Hid (BlM w w0.heap.size f (.slice (some ⟨bX, oX, none⟩) X.length cX) (.slice (some ⟨bZ, oZ, none⟩) Z.length cZ) (.slice (some ⟨bH, oH, none⟩) H.length cH) high (S j) wr))
  case atStart => exact ⟨0, by omega, by omega, rfl, Lib.hid (by have := HM0.out; exact this)⟩
  case round =>
    obtain ⟨j, hj, hgj, rfl, HI⟩ := hrel
    clear hb0 hc0 hf0 HM0
    generalize w0.heap.size = B at *
    by_cases hlt : j < n
    · obtain ⟨hjZ, hjz⟩ := HN.out j hlt
      have hjl : (j : Int) + 1 < (Z.length : Int) := by omega
      obtain ⟨c0, c1, c2, c3, cB, f0, f1, f2, f3, fB, z1, z2, b⟩ := HI.out
      have zc := (HF.out.later b).z.cell j (by omega)
      have zc1 := (HF.out.later b).z.cell (j + 1) hjZ
      have zb := HB.out j (by omega)
      have zb1 := HB.out (j + 1) hjZ
      obtain ⟨v0, v1, v2, hv0, hv1, hv2, o4, p, u, oh, h4, hp, hu, hoh, hy⟩ := HV.out j hlt
      have V0 := Lib.hid hv0
      have V1 := Lib.hid hv1
      have V2 := Lib.hid hv2
      have O4 := Lib.hid (fun w hT => h4 w hT)
      have OH := Lib.hid (fun w hT => hoh w hT)
      have HP := Lib.hid hp
      have HU := Lib.hid hu
      have HY := Lib.hid hy
      have HSj := Lib.hid (HS.out j hlt)
      clear hv0 hv1 hv2 h4 hp hu hoh hy
      have htop : topB Z z j = if z < ix Z (j + 1) then z else ix Z (j + 1) := rfl
      obtain ⟨zj, hzj⟩ : ∃ u, u = ix Z j := ⟨_, rfl⟩
      obtain ⟨zk, hzk⟩ : ∃ u, u = ix Z (j + 1) := ⟨_, rfl⟩
      obtain ⟨tp, htp⟩ : ∃ u, u = topB Z z j := ⟨_, rfl⟩
      rw [← hzj] at zc zb hjz
      rw [← hzk] at zc1 zb1
      rw [← hzk, ← htp] at htop
      simp only [← hzj, ← htp] at V0 V1 V2 OH
      have HTP := Lib.hid htop
      have hZr := Lib.hid (show ∀ x : World, Below w.heap.size w x → x.cell? ⟨bZ, oZ + j, none⟩ = some (.int .i64 zj) ∧ x.cell? ⟨bZ, oZ + (j + 1), none⟩ = some (.int .i64 zk) from fun x hb => ⟨((HF.out.later hb).z.cell j (by omega)).trans (by rw [hzj]), ((HF.out.later hb).z.cell (j + 1) hjZ).trans (by rw [hzk])⟩)
      clear hzj hzk htp htop HV HS
      go_upto_region 3 with (fail)
      go_upto_region 5 with (fail)
      clear zc zc1
      have KA := fun (x : World) (hx : Below wr.heap.size wr x) => And.intro (HI.out.later hx).c0 (hZr.out x (b.trans (hx.mono b.size)))
      have hmn : (if z < zk then z else zk) = tp := HTP.out.symm
      refine wp_region_kn 15 [.val (.pointer (some ⟨w.heap.size, 1, none⟩)), .val (.slice (some ⟨bZ, oZ, none⟩) Z.length cZ), .val (.int .i64 (j : Int)), .val (.pointer (some ⟨bZ, oZ + j, none⟩)), .val (.int .i64 zj), .val (.pointer (some ⟨w.heap.size, 1, none⟩)), .val (.slice (some ⟨bZ, oZ, none⟩) Z.length cZ), .val (.int .i64 (j : Int)), .val (.int .i64 ((j : Int) + 1)), .val (.pointer (some ⟨bZ, oZ + (j + 1), none⟩)), .val (.int .i64 zk), .val (.int .i64 z), .val (.int .i64 tp), .val (.int .i64 zj), .val (.int .i64 tp)] wr (by kernel_rfl) (by kernel_rfl) (by kernel_rfl) (by kernel_rfl) (by kernel_rfl) (by decide) (Below.refl _ _) ?_ ?_
      · refine steps_next (n := 0) ⟨_, by rfl, fun vals x hx hj => ?_⟩ ?_
        · have hk := KA x hx; clear hj; refine kn_val hx ?_; simp only [putF, dstO, Act.put]; go_simp
        refine steps_next (n := 1) ⟨_, by rfl, fun vals x hx hj => ?_⟩ ?_
        · have hk := KA x hx; have e0 : _ = _ := hj 0 (by decide +kernel); clear hj; refine kn_val hx ?_; simp only [putF, dstO, Act.put]; (try simp only [e0]); go_simp
        refine steps_next (n := 2) ⟨_, by rfl, fun vals x hx hj => ?_⟩ ?_
        · have hk := KA x hx; clear hj; refine kn_val hx ?_; simp only [putF, dstO, Act.put]; go_simp; (try first | with_reducible rfl | (intros; omega) | (simp only [IntKind.wrap_i64]; omega))
        refine steps_next (n := 3) ⟨_, by rfl, fun vals x hx hj => ?_⟩ ?_
        · have hk := KA x hx; have e1 : _ = _ := hj 1 (by decide +kernel); have e2 : _ = _ := hj 2 (by decide +kernel); clear hj; refine kn_val hx ?_; simp only [putF, dstO, Act.put]; (try simp only [e1, e2]); go_simp; (try first | with_reducible rfl | (intros; omega) | (simp only [IntKind.wrap_i64]; omega))
        refine steps_next (n := 4) ⟨_, by rfl, fun vals x hx hj => ?_⟩ ?_
        · have hk := KA x hx; have e3 : _ = _ := hj 3 (by decide +kernel); clear hj; refine kn_val hx ?_; simp only [putF, dstO, Act.put]; (try simp only [e3]); go_simp; (try first | with_reducible rfl | (intros; omega) | (simp only [IntKind.wrap_i64]; omega))
        refine steps_next (n := 5) ⟨_, by rfl, fun vals x hx hj => ?_⟩ ?_
        · have hk := KA x hx; clear hj; refine kn_val hx ?_; simp only [putF, dstO, Act.put]; go_simp
        refine steps_next (n := 6) ⟨_, by rfl, fun vals x hx hj => ?_⟩ ?_
        · have hk := KA x hx; have e5 : _ = _ := hj 5 (by decide +kernel); clear hj; refine kn_val hx ?_; simp only [putF, dstO, Act.put]; (try simp only [e5]); go_simp
        refine steps_next (n := 7) ⟨_, by rfl, fun vals x hx hj => ?_⟩ ?_
        · have hk := KA x hx; clear hj; refine kn_val hx ?_; simp only [putF, dstO, Act.put]; go_simp; (try first | with_reducible rfl | (intros; omega) | (simp only [IntKind.wrap_i64]; omega))
        refine steps_next (n := 8) ⟨_, by rfl, fun vals x hx hj => ?_⟩ ?_
        · have hk := KA x hx; have e7 : _ = _ := hj 7 (by decide +kernel); clear hj; refine kn_val hx ?_; simp only [putF, dstO, Act.put]; (try simp only [e7]); go_simp; (try first | with_reducible rfl | (intros; omega) | (simp only [IntKind.wrap_i64]; omega))
        refine steps_next (n := 9) ⟨_, by rfl, fun vals x hx hj => ?_⟩ ?_
        · have hk := KA x hx; have e6 : _ = _ := hj 6 (by decide +kernel); have e8 : _ = _ := hj 8 (by decide +kernel); clear hj; refine kn_val hx ?_; simp only [putF, dstO, Act.put]; (try simp only [e6, e8]); go_simp; (try first | with_reducible rfl | (intros; omega) | (simp only [IntKind.wrap_i64]; omega))
        refine steps_next (n := 10) ⟨_, by rfl, fun vals x hx hj => ?_⟩ ?_
        · have hk := KA x hx; have e9 : _ = _ := hj 9 (by decide +kernel); clear hj; refine kn_val hx ?_; simp only [putF, dstO, Act.put]; (try simp only [e9]); go_simp; (try first | with_reducible rfl | (intros; omega) | (simp only [IntKind.wrap_i64]; omega))
        refine steps_next (n := 11) ⟨_, by rfl, fun vals x hx hj => ?_⟩ ?_
        · have hk := KA x hx; clear hj; refine kn_val hx ?_; simp only [putF, dstO, Act.put]; go_simp; (try first | with_reducible rfl | (intros; omega) | (simp only [IntKind.wrap_i64]; omega))
        refine steps_next (n := 12) ⟨_, by rfl, fun vals x hx hj => ?_⟩ ?_
        · have hk := KA x hx; have e10 : _ = _ := hj 10 (by decide +kernel); have e11 : _ = _ := hj 11 (by decide +kernel); clear hj; refine kn_val hx ?_; simp only [putF, dstO, Act.put]; (try simp only [e10, e11]); go_simp; (try first | with_reducible rfl | (intros; omega) | (simp only [IntKind.wrap_i64]; omega))
        refine steps_next (n := 13) ⟨_, by rfl, fun vals x hx hj => ?_⟩ ?_
        · have hk := KA x hx; have e4 : _ = _ := hj 4 (by decide +kernel); clear hj; refine kn_val hx ?_; simp only [putF, dstO, Act.put]; (try simp only [e4]); go_simp; (try first | with_reducible rfl | (intros; omega) | (simp only [IntKind.wrap_i64]; omega))
        refine steps_next (n := 14) ⟨_, by rfl, fun vals x hx hj => ?_⟩ ?_
        · have hk := KA x hx; have e12 : _ = _ := hj 12 (by decide +kernel); clear hj; refine kn_val hx ?_; simp only [putF, dstO, Act.put]; (try simp only [e12]); go_simp; (try first | with_reducible rfl | (intros; omega) | (simp only [IntKind.wrap_i64]; omega))
        exact steps_end
      intro vals wrx hwrx hv
      have hkwrx := KA wrx hwrx
      have e0 : _ = _ := hv 0 (by omega)
      have e1 : _ = _ := hv 1 (by omega)
      have e2 : _ = _ := hv 2 (by omega)
      have e3 : _ = _ := hv 3 (by omega)
      have e4 : _ = _ := hv 4 (by omega)
      have e5 : _ = _ := hv 5 (by omega)
      have e6 : _ = _ := hv 6 (by omega)
      have e7 : _ = _ := hv 7 (by omega)
      have e8 : _ = _ := hv 8 (by omega)
      have e9 : _ = _ := hv 9 (by omega)
      have e10 : _ = _ := hv 10 (by omega)
      have e11 : _ = _ := hv 11 (by omega)
      have e12 : _ = _ := hv 12 (by omega)
      have e13 : _ = _ := hv 13 (by omega)
      have e14 : _ = _ := hv 14 (by omega)
      clear hv
      simp only [putF, dstO, Act.put]
      (try simp only [e0, e1, e2, e3, e4, e5, e6, e7, e8, e9, e10, e11, e12, e13, e14])
      refine wpAny_done (by kernel_rfl) ?_ _
      have htb : 0 ≤ tp ∧ tp ≤ 1000000 := by have := HTP.out; split at this <;> omega
      have hI2 := Lib.hid (HI.out.later hwrx)
      clear KA hkwrx HI c0 c1 c2 c3 cB f0 f1 f2 f3 fB hmn
      have hbD := b.trans (hwrx.mono b.size)
      have TD := Lib.hid (HT.out.later hbD)
      have FD := Lib.hid (HF.out.later hbD)
      go_upto_region 7 with (fail)
      have KD := fun (x : World) (hx : Below wrx.heap.size wrx x) => And.intro (hI2.out.later hx).cB (And.intro (hI2.out.later hx).fB (hI2.out.later hx).z2)
      refine wp_region_kn 27 [.val ((.agg #[.bool ((S j).s), .int .u64 ((((S j).a) : Nat) : Int), .int .u64 0, .int .u64 0, .int .u64 0, .bool false, .int .u64 ((((S j).d) : Nat) : Int), .int .u64 0, .int .u64 0, .int .u64 0])), .val (.int .i64 tp), .val (.int .i64 zj), .val (.int .i64 (tp - zj)), .val ((.agg #[.bool ((oh).s), .int .u64 ↑oh.a, .int .u64 0, .int .u64 0, .int .u64 0, .bool false, .int .u64 ↑oh.d, .int .u64 0, .int .u64 0, .int .u64 0])), .val (.func (.func 38) #[] #[.pointer (some ⟨w.heap.size + 1, 0, none⟩), .pointer (some ⟨w.heap.size, 0, none⟩), .pointer (some ⟨w.heap.size + 1 + 1, 0, none⟩)]), .val (.int .i64 zj), .val (.int .i64 (2 * zj)), .val ((.agg #[.bool ((v0).s), .int .u64 ↑v0.a, .int .u64 0, .int .u64 0, .int .u64 0, .bool false, .int .u64 ↑v0.d, .int .u64 0, .int .u64 0, .int .u64 0])), .val ((.agg #[.bool ((o4).s), .int .u64 ↑o4.a, .int .u64 0, .int .u64 0, .int .u64 0, .bool false, .int .u64 ↑o4.d, .int .u64 0, .int .u64 0, .int .u64 0])), .val (.func (.func 38) #[] #[.pointer (some ⟨w.heap.size + 1, 0, none⟩), .pointer (some ⟨w.heap.size, 0, none⟩), .pointer (some ⟨w.heap.size + 1 + 1, 0, none⟩)]), .val (.int .i64 zj), .val (.int .i64 tp), .val (.int .i64 (zj + tp)), .val ((.agg #[.bool ((v1).s), .int .u64 ↑v1.a, .int .u64 0, .int .u64 0, .int .u64 0, .bool false, .int .u64 ↑v1.d, .int .u64 0, .int .u64 0, .int .u64 0])), .row (2) (pk2 o4 v1), .val ((.agg #[.bool ((p).s), .int .u64 ↑p.a, .int .u64 0, .int .u64 0, .int .u64 0, .bool false, .int .u64 ↑p.d, .int .u64 0, .int .u64 0, .int .u64 0])), .val (.func (.func 38) #[] #[.pointer (some ⟨w.heap.size + 1, 0, none⟩), .pointer (some ⟨w.heap.size, 0, none⟩), .pointer (some ⟨w.heap.size + 1 + 1, 0, none⟩)]), .val (.int .i64 tp), .val (.int .i64 (2 * tp)), .val ((.agg #[.bool ((v2).s), .int .u64 ↑v2.a, .int .u64 0, .int .u64 0, .int .u64 0, .bool false, .int .u64 ↑v2.d, .int .u64 0, .int .u64 0, .int .u64 0])), .row (3) (pk3 v0 p v2), .val ((.agg #[.bool ((u).s), .int .u64 ↑u.a, .int .u64 0, .int .u64 0, .int .u64 0, .bool false, .int .u64 ↑u.d, .int .u64 0, .int .u64 0, .int .u64 0])), .row (2) (pk2 oh u), .val ((.agg #[.bool ((y j).s), .int .u64 ((((y j).a) : Nat) : Int), .int .u64 0, .int .u64 0, .int .u64 0, .bool false, .int .u64 ((((y j).d) : Nat) : Int), .int .u64 0, .int .u64 0, .int .u64 0])), .row (2) (pk2 (S j) (y j)), .val ((.agg #[.bool ((S (j + 1)).s), .int .u64 ((((S (j + 1)).a) : Nat) : Int), .int .u64 0, .int .u64 0, .int .u64 0, .bool false, .int .u64 ((((S (j + 1)).d) : Nat) : Int), .int .u64 0, .int .u64 0, .int .u64 0]))] wrx (by kernel_rfl) (by kernel_rfl) (by kernel_rfl) (by kernel_rfl) (by kernel_rfl) (by decide) (Below.refl _ _) ?_ ?_
      · refine steps_next (n := 0) ⟨_, by rfl, fun vals x hx hj => ?_⟩ ?_
        · have hk := KD x hx; clear hj; refine kn_val hx ?_; simp only [putF, dstO, Act.put]; go_simp
        refine steps_next (n := 1) ⟨_, by rfl, fun vals x hx hj => ?_⟩ ?_
        · have hk := KD x hx; clear hj; refine kn_val hx ?_; simp only [putF, dstO, Act.put]; go_simp; (try first | with_reducible rfl | (intros; omega) | (simp only [IntKind.wrap_i64]; omega))
        refine steps_next (n := 2) ⟨_, by rfl, fun vals x hx hj => ?_⟩ ?_
        · have hk := KD x hx; clear hj; refine kn_val hx ?_; simp only [putF, dstO, Act.put]; go_simp; (try first | with_reducible rfl | (intros; omega) | (simp only [IntKind.wrap_i64]; omega))
        refine steps_next (n := 3) ⟨_, by rfl, fun vals x hx hj => ?_⟩ ?_
        · have hk := KD x hx; have e1 : _ = _ := hj 1 (by decide +kernel); have e2 : _ = _ := hj 2 (by decide +kernel); clear hj; refine kn_val hx ?_; simp only [putF, dstO, Act.put]; (try simp only [e1, e2]); go_simp; (try first | with_reducible rfl | (intros; omega) | (simp only [IntKind.wrap_i64]; omega))
        refine steps_next (n := 4) ⟨_, by rfl, fun vals x hx hj => ?_⟩ ?_
        · have hk := KD x hx; have e3 : _ = _ := hj 3 (by decide +kernel); clear hj; refine kn_call hx (OH.out x (TD.out.later hx)) ?_; simp only [putF, dstO, Act.put]; (try simp only [e3]); go_simp
        refine steps_next (n := 5) ⟨_, by rfl, fun vals x hx hj => ?_⟩ ?_
        · have hk := KD x hx; clear hj; refine kn_val hx ?_; simp only [putF, dstO, Act.put]; go_simp; (try first | with_reducible rfl | (intros; omega) | (simp only [IntKind.wrap_i64]; omega))
        refine steps_next (n := 6) ⟨_, by rfl, fun vals x hx hj => ?_⟩ ?_
        · have hk := KD x hx; clear hj; refine kn_val hx ?_; simp only [putF, dstO, Act.put]; go_simp; (try first | with_reducible rfl | (intros; omega) | (simp only [IntKind.wrap_i64]; omega))
        refine steps_next (n := 7) ⟨_, by rfl, fun vals x hx hj => ?_⟩ ?_
        · have hk := KD x hx; have e6 : _ = _ := hj 6 (by decide +kernel); clear hj; refine kn_val hx ?_; simp only [putF, dstO, Act.put]; (try simp only [e6]); go_simp; (try first | with_reducible rfl | (intros; omega) | (simp only [IntKind.wrap_i64]; omega))
        refine steps_next (n := 8) ⟨_, by rfl, fun vals x hx hj => ?_⟩ ?_
        · have hk := KD x hx; have e5 : _ = _ := hj 5 (by decide +kernel); have e7 : _ = _ := hj 7 (by decide +kernel); clear hj; refine kn_call hx (V0.out _ _ _ bX oX cX bZ oZ cZ bH oH cH A C x (TD.out.later hx) (hI2.out.later hx).cap (FD.out.later hx)) ?_; simp only [putF, dstO, Act.put]; (try simp only [e5, e7]); go_simp
        refine steps_next (n := 9) ⟨_, by rfl, fun vals x hx hj => ?_⟩ ?_
        · have hk := KD x hx; clear hj; refine kn_call hx (O4.out x (TD.out.later hx)) ?_; simp only [putF, dstO, Act.put]; go_simp
        refine steps_next (n := 10) ⟨_, by rfl, fun vals x hx hj => ?_⟩ ?_
        · have hk := KD x hx; clear hj; refine kn_val hx ?_; simp only [putF, dstO, Act.put]; go_simp; (try first | with_reducible rfl | (intros; omega) | (simp only [IntKind.wrap_i64]; omega))
        refine steps_next (n := 11) ⟨_, by rfl, fun vals x hx hj => ?_⟩ ?_
        · have hk := KD x hx; clear hj; refine kn_val hx ?_; simp only [putF, dstO, Act.put]; go_simp; (try first | with_reducible rfl | (intros; omega) | (simp only [IntKind.wrap_i64]; omega))
        refine steps_next (n := 12) ⟨_, by rfl, fun vals x hx hj => ?_⟩ ?_
        · have hk := KD x hx; clear hj; refine kn_val hx ?_; simp only [putF, dstO, Act.put]; go_simp; (try first | with_reducible rfl | (intros; omega) | (simp only [IntKind.wrap_i64]; omega))
        refine steps_next (n := 13) ⟨_, by rfl, fun vals x hx hj => ?_⟩ ?_
        · have hk := KD x hx; have e11 : _ = _ := hj 11 (by decide +kernel); have e12 : _ = _ := hj 12 (by decide +kernel); clear hj; refine kn_val hx ?_; simp only [putF, dstO, Act.put]; (try simp only [e11, e12]); go_simp; (try first | with_reducible rfl | (intros; omega) | (simp only [IntKind.wrap_i64]; omega))
        refine steps_next (n := 14) ⟨_, by rfl, fun vals x hx hj => ?_⟩ ?_
        · have hk := KD x hx; have e10 : _ = _ := hj 10 (by decide +kernel); have e13 : _ = _ := hj 13 (by decide +kernel); clear hj; refine kn_call hx (V1.out _ _ _ bX oX cX bZ oZ cZ bH oH cH A C x (TD.out.later hx) (hI2.out.later hx).cap (FD.out.later hx)) ?_; simp only [putF, dstO, Act.put]; (try simp only [e10, e13]); go_simp
        refine steps_next (n := 15) ⟨_, by rfl, fun vals x hx hj => ?_⟩ ?_
        · have hk := KD x hx; have e9 : _ = _ := hj 9 (by decide +kernel); have e14 : _ = _ := hj 14 (by decide +kernel); clear hj; refine kn_row (c := 2) hx (rf2_new x 39 o4 v1) ?_; simp only [putF, dstO, Act.put]; (try simp only [e9, e14]); go_simp
        refine steps_next (n := 16) ⟨_, by rfl, fun vals x hx hj => ?_⟩ ?_
        · have hk := KD x hx; obtain ⟨b15, c15, e15, R15⟩ := hj 15 (by decide +kernel); clear hj; refine kn_call hx (HP.out b15 c15 x (TD.out.later hx) R15) ?_; simp only [putF, dstO, Act.put]; (try simp only [e15]); go_simp
        refine steps_next (n := 17) ⟨_, by rfl, fun vals x hx hj => ?_⟩ ?_
        · have hk := KD x hx; clear hj; refine kn_val hx ?_; simp only [putF, dstO, Act.put]; go_simp; (try first | with_reducible rfl | (intros; omega) | (simp only [IntKind.wrap_i64]; omega))
        refine steps_next (n := 18) ⟨_, by rfl, fun vals x hx hj => ?_⟩ ?_
        · have hk := KD x hx; clear hj; refine kn_val hx ?_; simp only [putF, dstO, Act.put]; go_simp; (try first | with_reducible rfl | (intros; omega) | (simp only [IntKind.wrap_i64]; omega))
        refine steps_next (n := 19) ⟨_, by rfl, fun vals x hx hj => ?_⟩ ?_
        · have hk := KD x hx; have e18 : _ = _ := hj 18 (by decide +kernel); clear hj; refine kn_val hx ?_; simp only [putF, dstO, Act.put]; (try simp only [e18]); go_simp; (try first | with_reducible rfl | (intros; omega) | (simp only [IntKind.wrap_i64]; omega))
        refine steps_next (n := 20) ⟨_, by rfl, fun vals x hx hj => ?_⟩ ?_
        · have hk := KD x hx; have e17 : _ = _ := hj 17 (by decide +kernel); have e19 : _ = _ := hj 19 (by decide +kernel); clear hj; refine kn_call hx (V2.out _ _ _ bX oX cX bZ oZ cZ bH oH cH A C x (TD.out.later hx) (hI2.out.later hx).cap (FD.out.later hx)) ?_; simp only [putF, dstO, Act.put]; (try simp only [e17, e19]); go_simp
        refine steps_next (n := 21) ⟨_, by rfl, fun vals x hx hj => ?_⟩ ?_
        · have hk := KD x hx; have e8 : _ = _ := hj 8 (by decide +kernel); have e16 : _ = _ := hj 16 (by decide +kernel); have e20 : _ = _ := hj 20 (by decide +kernel); clear hj; refine kn_row (c := 3) hx (rf3_new x 39 v0 p v2) ?_; simp only [putF, dstO, Act.put]; (try simp only [e8, e16, e20]); go_simp
        refine steps_next (n := 22) ⟨_, by rfl, fun vals x hx hj => ?_⟩ ?_
        · have hk := KD x hx; obtain ⟨b21, c21, e21, R21⟩ := hj 21 (by decide +kernel); clear hj; refine kn_call hx (HU.out b21 c21 x (TD.out.later hx) R21) ?_; simp only [putF, dstO, Act.put]; (try simp only [e21]); go_simp
        refine steps_next (n := 23) ⟨_, by rfl, fun vals x hx hj => ?_⟩ ?_
        · have hk := KD x hx; have e4 : _ = _ := hj 4 (by decide +kernel); have e22 : _ = _ := hj 22 (by decide +kernel); clear hj; refine kn_row (c := 2) hx (rf2_new x 39 oh u) ?_; simp only [putF, dstO, Act.put]; (try simp only [e4, e22]); go_simp
        refine steps_next (n := 24) ⟨_, by rfl, fun vals x hx hj => ?_⟩ ?_
        · have hk := KD x hx; obtain ⟨b23, c23, e23, R23⟩ := hj 23 (by decide +kernel); clear hj; refine kn_call hx (HY.out b23 c23 x (TD.out.later hx) R23) ?_; simp only [putF, dstO, Act.put]; (try simp only [e23]); go_simp
        refine steps_next (n := 25) ⟨_, by rfl, fun vals x hx hj => ?_⟩ ?_
        · have hk := KD x hx; have e0 : _ = _ := hj 0 (by decide +kernel); have e24 : _ = _ := hj 24 (by decide +kernel); clear hj; refine kn_row (c := 2) hx (rf2_new x 39 (S j) (y j)) ?_; simp only [putF, dstO, Act.put]; (try simp only [e0, e24]); go_simp
        refine steps_next (n := 26) ⟨_, by rfl, fun vals x hx hj => ?_⟩ ?_
        · have hk := KD x hx; obtain ⟨b25, c25, e25, R25⟩ := hj 25 (by decide +kernel); clear hj; refine kn_call hx (HSj.out b25 c25 x (TD.out.later hx) R25) ?_; simp only [putF, dstO, Act.put]; (try simp only [e25]); go_simp
        exact steps_end
      intro vals wrxx hwrxx hv
      have hkwrxx := KD wrxx hwrxx
      have e0 : _ = _ := hv 0 (by omega)
      have e1 : _ = _ := hv 1 (by omega)
      have e2 : _ = _ := hv 2 (by omega)
      have e3 : _ = _ := hv 3 (by omega)
      have e4 : _ = _ := hv 4 (by omega)
      have e5 : _ = _ := hv 5 (by omega)
      have e6 : _ = _ := hv 6 (by omega)
      have e7 : _ = _ := hv 7 (by omega)
      have e8 : _ = _ := hv 8 (by omega)
      have e9 : _ = _ := hv 9 (by omega)
      have e10 : _ = _ := hv 10 (by omega)
      have e11 : _ = _ := hv 11 (by omega)
      have e12 : _ = _ := hv 12 (by omega)
      have e13 : _ = _ := hv 13 (by omega)
      have e14 : _ = _ := hv 14 (by omega)
      obtain ⟨b15, c15, e15, R15⟩ := hv 15 (by omega)
      have e16 : _ = _ := hv 16 (by omega)
      have e17 : _ = _ := hv 17 (by omega)
      have e18 : _ = _ := hv 18 (by omega)
      have e19 : _ = _ := hv 19 (by omega)
      have e20 : _ = _ := hv 20 (by omega)
      obtain ⟨b21, c21, e21, R21⟩ := hv 21 (by omega)
      have e22 : _ = _ := hv 22 (by omega)
      obtain ⟨b23, c23, e23, R23⟩ := hv 23 (by omega)
      have e24 : _ = _ := hv 24 (by omega)
      obtain ⟨b25, c25, e25, R25⟩ := hv 25 (by omega)
      have e26 : _ = _ := hv 26 (by omega)
      clear hv
      simp only [putF, dstO, Act.put]
      (try simp only [e0, e1, e2, e3, e4, e5, e6, e7, e8, e9, e10, e11, e12, e13, e14, e15, e16, e17, e18, e19, e20, e21, e22, e23, e24, e25, e26])
      refine wpAny_ready (rs := [27]) (by decide +kernel) (by simp) (AllReady.cons rfl (fun KK hKK => ?_) AllReady.nil)
      go_simp
      (refine hKK _ _ ?_); clear hKK KK; (try simp only [Nq1, Nq2, Nq3, Act.put, Nq4, Nq5, Nq6])
      refine wpAny_done (by kernel_rfl) ?_ _
      have M := hI2.out.later hwrxx
      clear KD hkwrxx R15 R21 R23 R25 V0 V1 V2 O4 OH HP HU HY HSj hI2
      go_wp2
      go_roundg (n - (j + 1))
      case measure => omega
      case rel =>
        obtain ⟨c0, c1, c2, c3, cB, f0, f1, f2, f3, fB, z1, z2, b⟩ := M
        exact ⟨j + 1, by omega, by omega, by go_num, Lib.hid ⟨set10_far (by omega) c0, set10_far (by omega) c1, set10_far (by omega) c2, set10_far (by omega) c3, set10_at cB, fun o => by simp only [World.frozen?_setCell]; exact f0 o, fun o => by simp only [World.frozen?_setCell]; exact f1 o, fun o => by simp only [World.frozen?_setCell]; exact f2 o, fun o => by simp only [World.frozen?_setCell]; exact f3 o, fun o => by simp only [World.frozen?_setCell]; exact fB o, z1, by simpa using z2, by (repeat' first | (with_reducible first | exact Bq0 | assumption | refine Bq1 ?_ | refine Bq2 ?_ | refine Bq3 ?_ ?_ | refine Bq4 ?_ (by assumption)) | go_size)⟩⟩
    · obtain rfl : j = n := by omega
      obtain ⟨c0, c1, c2, c3, cB, f0, f1, f2, f3, fB, z1, z2, b⟩ := HI.out
      have z0 : w.heap.size + 1 + 1 + 1 < wr.heap.size := by omega
      by_cases hjl : j + 1 < Z.length
      · have hjI : (j : Int) + 1 < (Z.length : Int) := by omega
        have zc := (HF.out.later b).z.cell j (by omega)
        have hjz : ¬ ix Z j < z := by have := HN'.out hjl; omega
        obtain ⟨zj, hzj⟩ : ∃ u, u = ix Z j := ⟨_, rfl⟩
        rw [← hzj] at zc hjz
        clear hzj HN HN' HV HS HB HF
        go_wp2_with ((with_reducible show bodyPost _ _ _ _ _ _); refine bodyPost_ret (by simp [results, Tryd.results18, go_sem, c0, c1, c2, c3, cB, f0, f3, z1, z2, z0]; try rfl) rfl ?_; exact ⟨rfl, by (repeat' first | (with_reducible first | exact Bq0 | assumption | refine Bq1 ?_ | refine Bq2 ?_ | refine Bq3 ?_ ?_ | refine Bq4 ?_ (by assumption)) | go_size)⟩)
      · have hjI : ¬ (j : Int) + 1 < (Z.length : Int) := by omega
        clear HN HN' HV HS HB HF
        go_wp2_with ((with_reducible show bodyPost _ _ _ _ _ _); refine bodyPost_ret (by simp [results, Tryd.results18, go_sem, c0, c1, c2, c3, cB, f0, f3, z1, z2, z0]; try rfl) rfl ?_; exact ⟨rfl, by (repeat' first | (with_reducible first | exact Bq0 | assumption | refine Bq1 ?_ | refine Bq2 ?_ | refine Bq3 ?_ ?_ | refine Bq4 ?_ (by assumption)) | go_size)⟩)
end Go.Proofs.YthikaimhmpenhaaDoor
