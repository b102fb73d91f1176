/-
  What Text of package wide returns, for all inputs: the number in decimal.
-/
import Derived.Test.YtnbdccobfmlhbaaDoorFmt
import Derived.Test.YtnbdccobfmlhbaaDoorDec
import Derived.Deep.AppendLies
namespace Go.Proofs.YtnbdccobfmlhbaaDoor
set_option linter.all false
open Go Go.RowKit Wd
set_option maxRecDepth 100000
/-- The slice of the chunks that are done: v, in a block of its own that is not Bm. -/
def Parts (a k Bm top : Nat) (v : Value) (wr : World) : Prop :=
  (k = 0 ∧ v = .slice none 0 0) ∨ ∃ g cap, 0 < k ∧ v = .slice (some ⟨g, 0, none⟩) k cap ∧ k ≤ cap ∧ top < g ∧ g ≠ Bm ∧ g < wr.heap.size ∧ ∀ (j : Nat) x, (chunks a k)[j]? = some x → wr.cell? ⟨g, j, none⟩ = some (.string ⟨x.toArray⟩)
/-- The call's own memory while it makes the text, but for the number's box Bm. -/
def TxtM (w : World) (s : Bool) (a k Bm : Nat) (v : Value) (wr : World) : Prop :=
  (∀ o, wr.cell? ⟨w.heap.size, o, none⟩ = (#[.bool (s), .int .u64 (wd (a) 0), .int .u64 (wd (a) 1), .int .u64 (wd (a) 2), .int .u64 (wd (a) 3)] : Array Value)[o]?) ∧ w.heap.size < Bm ∧ Bm < wr.heap.size ∧ (∀ o, wr.frozen? ⟨Bm, o, none⟩ = false) ∧ Parts a k Bm w.heap.size v wr ∧ Below w.heap.size w wr
theorem Parts.later {a k Bm top : Nat} {v : Value} {wr wx : World} (h : Parts a k Bm top v wr) (hb : Below wr.heap.size wr wx) : Parts a k Bm top v wx := by
  rcases h with h | ⟨g, cap, h0, h1, h2, h3, h4, h5, h6⟩
  · exact Or.inl h
  · exact Or.inr ⟨g, cap, h0, h1, h2, h3, h4, Nat.lt_of_lt_of_le h5 hb.size, fun j x hj => (hb.cell (p := ⟨g, j, none⟩) h5).trans (h6 j x hj)⟩
theorem Parts.set {a k Bm top i : Nat} {v u : Value} {wr : World} (h : Parts a k Bm top v wr) : Parts a k Bm top v (wr.setCell ⟨Bm, i, none⟩ u) := by
  rcases h with h | ⟨g, cap, h0, h1, h2, h3, h4, h5, h6⟩
  · exact Or.inl h
  · exact Or.inr ⟨g, cap, h0, h1, h2, h3, h4, by simpa using h5, fun j x hj => by rw [World.cell?_setCell_other _ _ _ _ (fun e => h4 (congrArg Addr.block e).symm)]; exact h6 j x hj⟩
theorem TxtM.later {w wr wx : World} {s : Bool} {a k Bm : Nat} {v : Value} (h : TxtM w s a k Bm v wr) (hb : Below wr.heap.size wr wx) : TxtM w s a k Bm v wx := by
  obtain ⟨h1, h2, h3, h4, h5, h6⟩ := h
  exact ⟨keep_cell hb (by omega) h1, h2, keep_lt hb h3, keep_frozen hb h3 h4, h5.later hb, below_after h6 hb⟩
theorem TxtM.set {w wr : World} {s : Bool} {a k Bm i : Nat} {v u : Value} (h : TxtM w s a k Bm v wr) : TxtM w s a k Bm v (wr.setCell ⟨Bm, i, none⟩ u) := by
  obtain ⟨h1, h2, h3, h4, h5, h6⟩ := h
  exact ⟨set_far (by omega) h1, h2, by simpa using h3, fun o => by rw [World.frozen?_setCell]; exact h4 o, h5.set, h6.setCell (by simp; omega) _⟩
/-- The text: '-' and the digits. -/
@[irreducible] def textOf (s : Bool) (a : Nat) : List UInt8 := if a = 0 then [48] else if s then 45 :: Lib.decDigits a else Lib.decDigits a
@[irreducible] def dvk (a k : Nat) : Nat := a / 10 ^ (19 * k)
theorem dvk_lt {a : Nat} (k : Nat) (ha : a < 2 ^ 256) : dvk a k < 2 ^ 256 := by unfold dvk; exact Nat.lt_of_le_of_lt (Nat.div_le_self _ _) ha
theorem dvk_next (a k : Nat) : dv (dvk a k) = dvk a (k + 1) := by
  unfold dv dvk
  rw [Nat.div_div_eq_div_mul]
  exact congrArg (a / ·) (by rw [Nat.mul_add, Nat.pow_add])
theorem dvk_le {a k : Nat} (ha : a < 2 ^ 256) (h : dvk a k ≠ 0) : k ≤ 4 := by
  apply Nat.le_of_not_lt
  intro hk
  apply h
  unfold dvk
  apply Nat.div_eq_of_lt
  have h1 : (10 : Nat) ^ (19 * 5) ≤ 10 ^ (19 * k) := Nat.pow_le_pow_right (by omega) (by omega)
  have h2 : (2 : Nat) ^ 256 < 10 ^ (19 * 5) := by decide
  omega
theorem dv_less {x : Nat} (h : x ≠ 0) : dv x < x := by unfold dv; omega
theorem dvk_done {a k : Nat} (h : dvk a k = 0) : a < 10 ^ (19 * k) := by
  unfold dvk at h
  have hp : 0 < 10 ^ (19 * k) := Nat.pow_pos (by omega)
  generalize 10 ^ (19 * k) = p at *
  rcases Nat.lt_or_ge a p with h1 | h1
  · exact h1
  · have := Nat.div_pos h1 hp; omega
/-- the digits without leading zeros: none for 0 -/
@[irreducible] def bare (a : Nat) : List UInt8 := if a = 0 then [] else Lib.decDigits a
theorem bare_pad {a k : Nat} (h : dvk a k = 0) : Lib.trimLeftB (pad (19 * k) a) 48 = bare a := by
  rw [trim_pad _ _ (dvk_done h)]; unfold bare; rfl
theorem text_empty {s : Bool} {a : Nat} (h : (bare a).isEmpty = true) : textOf s a = [48] := by
  unfold bare at h
  unfold textOf
  split
  · rfl
  · rename_i h0
    obtain ⟨c, t, e, -⟩ := dec_head a (by omega)
    rw [if_neg h0, e] at h
    exact absurd h (by simp)
theorem text_some {s : Bool} {a : Nat} (h : (bare a).isEmpty = false) : textOf s a = if s then 45 :: bare a else bare a := by
  unfold bare at h ⊢
  unfold textOf
  split at h
  · exact absurd h (by simp)
  · rename_i h0; rw [if_neg h0, if_neg h0]
theorem bare_len {a : Nat} (ha : a < 2 ^ 256) : (bare a).length ≤ 78 := by
  unfold bare
  split
  · simp
  · obtain ⟨j, hj, -⟩ := dec_pad 77 a (Nat.lt_trans ha (by decide))
    omega
theorem info_str : (Tryd.prog.info? 9).map (fun i => (i.zero, i.size, i.bytes)) = some (some (.string ⟨#[]⟩), 1, 16) := by kernel_rfl
theorem owns_one (w : World) (v : Value) (T : TypeId) : (w.alloc (.cells #[v] T)).ownsRow w.heap.size T 1 (.slice (some ⟨w.heap.size, 0, none⟩) 1 1) 1 [v] :=
  ⟨rfl, Or.inr ⟨w.heap.size, 1, #[v], rfl, Nat.le_refl _, by show (w.heap.push _)[w.heap.size]? = _; simp, Nat.le_refl _, by unfold maxLen; omega, rfl, rfl⟩⟩
theorem owns_cell {w : World} {base g n cap : Nat} {T : TypeId} {xs : List Value} (h : w.ownsRow base T 1 (.slice (some ⟨g, 0, none⟩) n cap) n xs) : n ≤ cap ∧ base ≤ g ∧ ∀ j u, xs[j]? = some u → w.cell? ⟨g, j, none⟩ = some u := by
  obtain ⟨h1, h2 | ⟨g', cap', cur, hv, hg, hh, hn, hm, hs, ht⟩⟩ := h
  · exact absurd h2.1 (by simp)
  · simp only [Value.slice.injEq, Option.some.injEq, Addr.mk.injEq, and_true, true_and] at hv
    obtain ⟨rfl, rfl⟩ := hv
    refine ⟨hn, hg, fun j u hj => ?_⟩
    have hc : w.cell? ⟨g, j, none⟩ = cur[j]? := by unfold World.cell?; simp [hh]
    rw [hc]
    have hj2 : j < xs.length := (List.getElem?_eq_some_iff.1 hj).1
    rw [← ht, List.getElem?_take] at hj
    rw [if_pos (by omega)] at hj
    simpa using hj
theorem str_pad {n : Nat} {ds l : List UInt8} (h : List.replicate n 48 ++ ds = l) : (⟨Array.replicate n 48⟩ ++ ⟨ds.toArray⟩ : ByteArray) = ⟨l.toArray⟩ := by
  subst h
  apply ByteArray.ext
  simp
theorem pad19 (a k : Nat) : pad 19 (dvk a k % 10000000000000000000) = pad 19 (a / 10 ^ (19 * k)) := by
  have h := pad_mod 19 (dvk a k) 1
  rw [show 10 ^ 19 * 1 = 10000000000000000000 from rfl] at h
  rw [h]
  unfold dvk; rfl
theorem grow_cell {w6 w7 : World} {O : Obj} {Bm : Nat} {xs : Array Value} (hgrow : (w6.alloc O).grownBy w7 (some w6.heap.size)) (hz : Bm < w6.heap.size) (h : ∀ o, w6.cell? ⟨Bm, o, none⟩ = xs[o]?) : ∀ o, w7.cell? ⟨Bm, o, none⟩ = xs[o]? := fun o => by
  rw [hgrow.cell_far ⟨Bm, o, none⟩ (by simp; omega) (by simp; omega), World.cell?_alloc_past _ _ _ hz]
  exact h o
/-- One chunk more: the slice has grown, and the number lies in a new box. -/
theorem TxtM.grow {w w6 w7 : World} {s : Bool} {a k Bm g2 cap2 : Nat} {v : Value} {O : Obj} {cs : Array Value} {T : TypeId} {S : ByteArray} (hT : TxtM w s a k Bm v w6)
    (hown : w7.ownsRow w6.heap.size 9 1 (.slice (some ⟨g2, 0, none⟩) (1 + k) cap2) (1 + k) ([.string S] ++ (chunks a k).map (fun l => Value.string ⟨l.toArray⟩)))
    (hgrow : (w6.alloc O).grownBy w7 (some w6.heap.size)) (hlt : g2 < w7.heap.size) (hS : S = ⟨(pad 19 (a / 10 ^ (19 * k))).toArray⟩) :
    TxtM w s a (k + 1) w7.heap.size (.slice (some ⟨g2, 0, none⟩) (1 + k) cap2) (w7.alloc (.cells cs T)) := by
  obtain ⟨h1, h2, h3, h4, h5, h6⟩ := hT
  obtain ⟨n1, n2, n3⟩ := owns_cell hown
  have hs7 : w6.heap.size + 1 ≤ w7.heap.size := by have := hgrow.size; simpa using this
  refine ⟨fun o => ?_, by omega, by simp, fun o => World.frozen?_alloc_new _ _ _ _, Or.inr ⟨g2, cap2, by omega, by rw [Nat.add_comm], by omega, by omega, by omega, by simp; omega, fun j x hj => ?_⟩, ?_⟩
  · rw [World.cell?_alloc_past _ _ _ (by omega), hgrow.cell_far ⟨w.heap.size, o, none⟩ (by simp; omega) (by simp; omega), World.cell?_alloc_past _ _ _ (by omega)]
    exact h1 o
  · rw [World.cell?_alloc_past _ _ _ (by omega)]
    apply n3
    subst hS
    have e : chunks a (k + 1) = pad 19 (a / 10 ^ (19 * k)) :: chunks a k := rfl
    rw [e] at hj
    have : ([Value.string ⟨(pad 19 (a / 10 ^ (19 * k))).toArray⟩] ++ (chunks a k).map (fun l => Value.string ⟨l.toArray⟩)) = (pad 19 (a / 10 ^ (19 * k)) :: chunks a k).map (fun l => Value.string ⟨l.toArray⟩) := rfl
    rw [this, List.getElem?_map, hj]
    rfl
  · exact (((h6.alloc (by omega) O).grown hgrow (by simp; omega) (fun k hk => by cases hk; omega))).alloc (by omega) _
/-- The first chunk. -/
theorem TxtM.first {w w6 : World} {s : Bool} {a Bm : Nat} {v : Value} {cs : Array Value} {T T2 : TypeId} {S : ByteArray} (hT : TxtM w s a 0 Bm v w6) (hS : S = ⟨(pad 19 (a / 10 ^ (19 * 0))).toArray⟩) :
    TxtM w s a 1 (w6.heap.size + 1) (.slice (some ⟨w6.heap.size, 0, none⟩) 1 1) ((w6.alloc (.cells #[.string S] T)).alloc (.cells cs T2)) := by
  obtain ⟨h1, h2, h3, h4, h5, h6⟩ := hT
  refine ⟨fun o => ?_, by omega, by simp, fun o => ?_, Or.inr ⟨w6.heap.size, 1, by omega, rfl, by omega, by omega, by omega, by simp; omega, fun j x hj => ?_⟩, ?_⟩
  · rw [World.cell?_alloc_past _ _ _ (by simp; omega), World.cell?_alloc_past _ _ _ (by omega)]
    exact h1 o
  · have := World.frozen?_alloc_new (w6.alloc (.cells #[.string S] T)) cs T2 o
    simpa using this
  · rw [World.cell?_alloc_past _ _ _ (by simp)]
    have h0 : j = 0 := by
      have := (List.getElem?_eq_some_iff.1 hj).1
      rw [chunks_length] at this; omega
    subst h0
    have e : chunks a 1 = [pad 19 (a / 10 ^ (19 * 0))] := rfl
    rw [e] at hj
    simp only [List.getElem?_cons_zero, Option.some.injEq] at hj
    subst hj hS
    simp [go_sem]
  · exact (h6.alloc (by omega) _).alloc (by simp; omega) _
set_option maxHeartbeats 4000000 in
theorem text_any (s : Bool) (a : Nat) (ha : a < 2 ^ 256) (w : World) (hT : Tabs w) :
    Calls Tryd.prog 22 #[(.agg #[.bool (s), .int .u64 (wd (a) 0), .int .u64 (wd (a) 1), .int .u64 (wd (a) 2), .int .u64 (wd (a) 3)])] w fun e w' => e = .returned (.string ⟨(textOf s a).toArray⟩) ∧ Below w.heap.size w w' := by
  have HA := Lib.hid ha
  have HT := Lib.hid hT
  obtain ⟨si, si1, si2, si3, si4⟩ := info_parts info_str
  clear ha hT
  go_enter Tryd.func22, Tryd.ntmps22
  go_wp2
  go_loopg [3, 4] a (fun g v p wr => ∃ k Bm, k ≤ 5 ∧ p = .pointer (some ⟨Bm, 0, none⟩) ∧ g = dvk a k ∧ TxtM w s a k Bm v wr ∧ ∀ o, wr.cell? ⟨Bm, o, none⟩ = (#[.int .u64 (wd (dvk a k) 0), .int .u64 (wd (dvk a k) 1), .int .u64 (wd (dvk a k) 2), .int .u64 (wd (dvk a k) 3)] : Array Value)[o]?)
  case atStart =>
    refine ⟨0, w.heap.size + 1, by omega, rfl, by unfold dvk; simp, ⟨fun o => by simp [go_sem], by omega, by simp, fun o => by simp [go_sem], Or.inl ⟨rfl, rfl⟩, by go_grown⟩, fun o => ?_⟩
    rw [show dvk a 0 = a by unfold dvk; simp]
    simp [go_sem]
  case round =>
    obtain ⟨k, Bm, hk5, rfl, rfl, HM, hc⟩ := hrel
    have hx := dvk_lt k HA.out
    have hq := eq_mag0 (dvk a k) hx
    have HM0 := Lib.hid HM
    have C0 := Lib.hid hc
    by_cases h0 : dvk a k = 0
    · have e1 : eqN (dvk a k) 0 = true := by unfold eqN; simp [h0]
      rw [e1] at hq
      have hb := HM.2.2.2.2.2
      have hs0 : w.heap.size < wr.heap.size := Nat.lt_trans HM.2.1 HM.2.2.1
      have cw := HM.1
      have H8 := Tryd.strings_TrimLeft_one ⟨(pad (19 * k) a).toArray⟩ 48 (by decide)
      rw [show (⟨(pad (19 * k) a).toArray⟩ : ByteArray).data.toList = pad (19 * k) a by simp, bare_pad h0] at H8
      have HJ : ∃ wj, Below wr.heap.size wr wj ∧ True := ⟨wr, Below.refl _ _, trivial⟩
      have H9 : Calls Tryd.prog 64 #[u3, .string ⟨#[]⟩] wr fun e w' => e = .returned (.string ⟨(pad (19 * k) a).toArray⟩) ∧ Below wr.heap.size wr w' := by
        rcases HM.2.2.2.2.1 with ⟨rfl, rfl⟩ | ⟨g, cap, p0, p1, p2, p3, p4, p5, p6⟩
        · refine (Tryd.strings_Join_none none 0 ⟨#[]⟩ wr).mono ?_
          rintro e w' ⟨rfl, rfl⟩
          exact ⟨rfl, Below.refl _ _⟩
        · subst p1
          have hj := Tryd.strings_Join g 0 cap ((chunks a k).map fun l => ⟨l.toArray⟩) ⟨#[]⟩ wr (fun j x hj => by
            rw [List.getElem?_map] at hj
            obtain ⟨l, hl1, hl2⟩ := Option.map_eq_some_iff.1 hj
            subst hl2
            rw [Nat.zero_add]
            exact p6 j l hl1) p5 (by simp [chunks_length]; omega) (by simp [chunks_length]; omega)
          have e : ((chunks a k).map fun l => (⟨l.toArray⟩ : ByteArray)).map (·.data.toList) = chunks a k := by rw [List.map_map]; exact (List.map_congr_left (fun l _ => by simp)).trans (List.map_id _)
          rw [e, show (⟨#[]⟩ : ByteArray).data.toList = [] from rfl, join_empty, chunks_flat, List.length_map, chunks_length] at hj
          exact hj (by rw [pad_length]; omega)
      clear HJ
      have K8 := Lib.hid H8
      have K9 := Lib.hid H9
      clear H8 H9 e1 HM hk5 HM0 C0 h0
      go_wp2_with fail
      refine (K9.out).mono ?_
      rintro e wj ⟨rfl, hbj⟩
      have ck := keep_cell hbj hs0 cw
      clear cw
      have T1 := Lib.hid (text_empty (s := s) (a := a))
      have T2 := Lib.hid (text_some (s := s) (a := a))
      go_wp2_with fail
      refine (K8.out _).mono ?_
      rintro e wk ⟨rfl, rfl⟩
      have hbl := bare_len HA.out
      cases he : (bare a).isEmpty
      · have t2 := Lib.hid (T2.out he)
        cases s
        all_goals
          go_wp2
          go_ret
          exact ⟨by rw [t2.out]; rfl, below_after hb hbj⟩
      · have t1 := Lib.hid (T1.out he)
        go_wp2
        go_ret
        exact ⟨by rw [t1.out]; rfl, below_after hb hbj⟩
    · have e1 : eqN (dvk a k) 0 = false := by unfold eqN; simpa using h0
      rw [e1] at hq
      have hk := dvk_le HA.out h0
      have hdk := Lib.hid (dvk_next a k)
      generalize hxe : dvk a k = x at *
      have HXE := Lib.hid hxe
      clear e1 hxe
      have hz := HM.2.2.1
      have hf := HM.2.2.2.1
      clear HM
      go_wp2
      clear hc hz hf hq
      refine wp_loop_rounds 5 ?_
      have K3 := div64_any (rs x 4) (wd x 3) (rs_lo _ _) (rs_hi _ _) (wd_lo _ _) (wd_hi _ _)
      rw [(dv_step x 3).1, (dv_step x 3).2, rs_top hx] at K3
      have H3 := Lib.hid K3
      clear K3
      rw [rounds_succ]; go_upto_region 8 with (fail)
      refine wp_world (fun W => TxtM w s a k Bm u3 W ∧ ∀ o, W.cell? ⟨Bm, o, none⟩ = (#[.int .u64 (wd x 0), .int .u64 (wd x 1), .int .u64 (wd x 2), .int .u64 (wd x 3)] : Array Value)[o]?) ⟨HM0.out, C0.out⟩ ?_
      rintro W3 ⟨t3, c3⟩
      have T3 := Lib.hid t3
      have z3 := t3.2.2.1
      have f3 := t3.2.2.2.1
      clear t3
      go_wp2_with fail
      ((with_reducible refine (H3.out _).mono ?_); rintro e w3 ⟨rfl, hb3⟩)
      have c3' := keep_cell hb3 z3 c3
      have f3' := keep_frozen hb3 z3 f3
      have z3' := keep_lt hb3 z3
      clear c3 f3 z3
      go_wp2
      have K2 := div64_any (rs x 3) (wd x 2) (rs_lo _ _) (rs_hi _ _) (wd_lo _ _) (wd_hi _ _)
      rw [(dv_step x 2).1, (dv_step x 2).2] at K2
      have H2 := Lib.hid K2
      clear K2
      rw [rounds_succ]; go_upto_region 8 with (fail)
      refine wp_world (fun W => TxtM w s a k Bm u3 W ∧ ∀ o, W.cell? ⟨Bm, o, none⟩ = (#[.int .u64 (wd x 0), .int .u64 (wd x 1), .int .u64 (wd x 2), .int .u64 (wd (dv x) 3)] : Array Value)[o]?) ⟨(T3.out.later hb3).set, set_at c3'⟩ ?_
      rintro W2 ⟨t2, c2⟩
      have T2 := Lib.hid t2
      have z2 := t2.2.2.1
      have f2 := t2.2.2.2.1
      clear t2
      go_wp2_with fail
      ((with_reducible refine (H2.out _).mono ?_); rintro e w2 ⟨rfl, hb2⟩)
      have c2' := keep_cell hb2 z2 c2
      have f2' := keep_frozen hb2 z2 f2
      have z2' := keep_lt hb2 z2
      clear c2 f2 z2
      go_wp2
      have K1 := div64_any (rs x 2) (wd x 1) (rs_lo _ _) (rs_hi _ _) (wd_lo _ _) (wd_hi _ _)
      rw [(dv_step x 1).1, (dv_step x 1).2] at K1
      have H1 := Lib.hid K1
      clear K1
      rw [rounds_succ]; go_upto_region 8 with (fail)
      refine wp_world (fun W => TxtM w s a k Bm u3 W ∧ ∀ o, W.cell? ⟨Bm, o, none⟩ = (#[.int .u64 (wd x 0), .int .u64 (wd x 1), .int .u64 (wd (dv x) 2), .int .u64 (wd (dv x) 3)] : Array Value)[o]?) ⟨(T2.out.later hb2).set, set_at c2'⟩ ?_
      rintro W1 ⟨t1, c1⟩
      have T1 := Lib.hid t1
      have z1 := t1.2.2.1
      have f1 := t1.2.2.2.1
      clear t1
      go_wp2_with fail
      ((with_reducible refine (H1.out _).mono ?_); rintro e w1 ⟨rfl, hb1⟩)
      have c1' := keep_cell hb1 z1 c1
      have f1' := keep_frozen hb1 z1 f1
      have z1' := keep_lt hb1 z1
      clear c1 f1 z1
      go_wp2
      have K0 := div64_any (rs x 1) (wd x 0) (rs_lo _ _) (rs_hi _ _) (wd_lo _ _) (wd_hi _ _)
      rw [(dv_step x 0).1, (dv_step x 0).2] at K0
      have H0 := Lib.hid K0
      clear K0
      rw [rounds_succ]; go_upto_region 8 with (fail)
      refine wp_world (fun W => TxtM w s a k Bm u3 W ∧ ∀ o, W.cell? ⟨Bm, o, none⟩ = (#[.int .u64 (wd x 0), .int .u64 (wd (dv x) 1), .int .u64 (wd (dv x) 2), .int .u64 (wd (dv x) 3)] : Array Value)[o]?) ⟨(T1.out.later hb1).set, set_at c1'⟩ ?_
      rintro W0 ⟨t0, c0⟩
      have T0 := Lib.hid t0
      have z0 := t0.2.2.1
      have f0 := t0.2.2.2.1
      clear t0
      go_wp2_with fail
      ((with_reducible refine (H0.out _).mono ?_); rintro e w0 ⟨rfl, hb0⟩)
      have c0' := keep_cell hb0 z0 c0
      have f0' := keep_frozen hb0 z0 f0
      have z0' := keep_lt hb0 z0
      clear c0 f0 z0
      go_wp2
      rw [rounds_succ]; go_upto_region 9 with (fail)
      refine wp_world (fun W => TxtM w s a k Bm u3 W ∧ ∀ o, W.cell? ⟨Bm, o, none⟩ = (#[.int .u64 (wd (dv x) 0), .int .u64 (wd (dv x) 1), .int .u64 (wd (dv x) 2), .int .u64 (wd (dv x) 3)] : Array Value)[o]?) ⟨(T0.out.later hb0).set, set_at c0'⟩ ?_
      rintro W ⟨tW, cW⟩
      have TW := Lib.hid tW
      have zW := tW.2.2.1
      have fW := tW.2.2.2.1
      clear tW c0' f0' z0' c1' f1' z1' c2' f2' z2' c3' f3' z3'
      have KF := fmt_any (x % 10000000000000000000) (by omega) W (HT.out.later TW.out.2.2.2.2.2)
      rw [← rs_zero x] at KF
      have HF := Lib.hid KF
      obtain ⟨q1, q2⟩ := dec_len (n := x % 10000000000000000000) (by omega)
      have Q2 := Lib.hid q2
      clear KF q2
      generalize Lib.decDigits (x % 10000000000000000000) = ds at *
      have e19 : (19 : Int) - (ds.length : Int) = ((19 - ds.length : Nat) : Int) := by omega
      go_wp2_with fail
      refine (HF.out).mono ?_
      rintro e w5 ⟨rfl, hb5⟩
      have KR := Tryd.strings_Repeat ⟨#[48]⟩ (19 - ds.length) w5 (by omega) (by have e : (⟨#[48]⟩ : ByteArray).size = 1 := rfl; rw [e]; omega)
      rw [show (⟨#[48]⟩ : ByteArray).data.toList = [48] from rfl, repeat_zeros] at KR
      have HR := Lib.hid KR
      clear KR
      go_wp2_with fail
      refine (HR.out).mono ?_
      rintro e w6 ⟨rfl, hb6⟩
      have T6 := Lib.hid ((TW.out.later hb5).later hb6)
      have c6 := keep_cell hb6 (keep_lt hb5 zW) (keep_cell hb5 zW cW)
      have z6 := keep_lt hb6 (keep_lt hb5 zW)
      rcases T6.out.2.2.2.2.1 with ⟨rfl, rfl⟩ | ⟨g, cap, p0, p1, p2, p3, p4, p5, p6⟩
      · go_wp2
        have hS : (⟨Array.replicate (19 - ds.length) 48⟩ ++ ⟨ds.toArray⟩ : ByteArray) = ⟨(pad 19 (a / 10 ^ (19 * 0))).toArray⟩ := by
          rw [str_pad Q2.out, ← HXE.out, pad19]
        go_roundg (dvk a 1)
        case measure => rw [← hdk.out]; exact dv_less h0
        case rel => exact ⟨1, w6.heap.size + 1, by omega, rfl, rfl, T6.out.first hS, fun o => by rw [← hdk.out]; simp [go_sem]⟩
      · subst p1
        have hnews : ∀ (j : Nat) u, ((chunks a k).map (fun l => Value.string ⟨l.toArray⟩))[j]? = some u → (w6.alloc (.cells #[.string (⟨Array.replicate (19 - ds.length) 48⟩ ++ ⟨ds.toArray⟩)] 9)).cell? ((⟨g, 0, none⟩ : Addr).add j) = some u := by
          intro j u hj
          rw [List.getElem?_map] at hj
          obtain ⟨x, hx1, hx2⟩ := Option.map_eq_some_iff.1 hj
          subst hx2
          rw [Lib.add_plain, Nat.zero_add, World.cell?_alloc_past _ _ _ p5]
          exact p6 j x hx1
        go_wp2_with (at_builtin; refine wpList_append_lies _ rfl _ _ _ rfl w6.heap.size 9 si (.string ⟨#[]⟩) 1 16 Tryd.underlying73 si1 si2 si3 si4 rfl (by omega) (.slice (some ⟨w6.heap.size, 0, none⟩) 1 1) 1 [.string (⟨Array.replicate (19 - ds.length) 48⟩ ++ ⟨ds.toArray⟩)] (by rfl) (owns_one _ _ _) ⟨g, 0, none⟩ k cap ((chunks a k).map (fun l => Value.string ⟨l.toArray⟩)) (by rfl) (by simp [chunks_length]) hnews (by simp [Value.oneCell']) p0 (by unfold maxLen; omega) (by omega) (by simp) (w6.heap.size + 1) (by simp) ?_; intro g2 cap2 w7 hown hgrow hat hlt; have c7 := grow_cell hgrow z6 c6)
        have hS : (⟨Array.replicate (19 - ds.length) 48⟩ ++ ⟨ds.toArray⟩ : ByteArray) = ⟨(pad 19 (a / 10 ^ (19 * k))).toArray⟩ := by
          rw [str_pad Q2.out, ← HXE.out, pad19]
        have HN := Lib.hid (fun (cs : Array Value) (T : TypeId) => TxtM.grow (cs := cs) (T := T) T6.out hown hgrow hlt hS)
        clear hown hgrow hat hS hnews p6
        go_wp2
        go_roundg (dvk a (k + 1))
        case measure => rw [← hdk.out]; exact dv_less h0
        case rel => exact ⟨k + 1, w7.heap.size, by omega, rfl, rfl, HN.out _ _, fun o => by rw [← hdk.out]; simp [go_sem]⟩
end Go.Proofs.YtnbdccobfmlhbaaDoor
