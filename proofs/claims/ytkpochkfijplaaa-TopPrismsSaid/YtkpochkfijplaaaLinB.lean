/-
  A large region by wpLin: the frame that it begins with stands under a letter, what has been yielded as a chain behind it.
-/
import Derived.Test.YtkpochkfijplaaaLin
namespace Go.Proofs.Ytkpochkfijplaaa
set_option linter.all false
open Go Go.RowKit Wd
set_option maxRecDepth 100000
theorem eval_same {a : Act} {d : Nat} {v : Value} (h : d < a.tmps.size) : (a.put (some d) v).eval (.tmp d) = v := by
  simp [Act.eval, Act.put, h]
theorem eval_far {a : Act} {d k : Nat} {v : Value} (h : d ≠ k) : (a.put (some d) v).eval (.tmp k) = a.eval (.tmp k) := by
  simp [Act.eval, Act.put, Array.getElem?_setIfInBounds_ne h]
theorem size_put {a : Act} {d : Option Nat} {v : Value} : (a.put d v).tmps.size = a.tmps.size := by
  cases d <;> simp [Act.put]
theorem eval_const {a : Act} {v : Value} : a.eval (.const v) = v := rfl
section
variable {P : Program} {ops : Array Oper} {Q : Exit → Act → World → Prop} {md : Region.Mode} {S : World → Prop}
theorem lin_base {fuel : Nat} {listed : Array Bool} {a : Act} (n : Nat) (hn : a.tmps.size = n) (h : ∀ base : Act, base.tmps.size = n → base = a → wpLin P md ops Q S fuel listed base) : wpLin P md ops Q S fuel listed a := h a hn rfl
theorem lin_takd {i : Nat} {oi : Oper} {d : Option Nat} {v : Value} {fuel : Nat} {listed : Array Bool} {a : Act} (hi : (ops.toList.drop i).head? = some oi) (hd : oi.dst = d) (hf : Region.free md ops listed i = true) (hr : (Region.ready md ops listed).contains i = true)
    (hy : Gives P ops S oi v a) (h : wpLin P md ops Q S fuel (listed.setIfInBounds i true) (a.put d v)) : wpLin P md ops Q S (fuel + 1) listed a := by
  subst hd
  exact lin_take (by rw [List.head?_drop] at hi; simpa using hi) hf hr hy h
theorem wanted_none {o : Oper} {y : Nat → Option Bool} (h : o.guard = none) : Region.wanted o y = true := by simp [Region.wanted, h]
theorem wanted_at {o : Oper} {a : Act} {g t : Nat} {b : Bool} (ho : o.guard = some (g, b)) (hg : ((ops[g]?).bind (·.dst)) = some t) (hs : t < a.tmps.size) (hv : a.eval (.tmp t) = .bool b) : Region.wanted o (yielded ops a.tmps) = true := by
  have h1 : a.tmps[t]? = some (.bool b) := by
    simp only [Act.eval] at hv
    rw [Array.getD_eq_getD_getElem?, Array.getElem?_eq_getElem hs] at hv
    rw [Array.getElem?_eq_getElem hs]
    simpa using hv
  simp [Region.wanted, ho, yielded, hg, h1]
theorem wanted_not {o : Oper} {a : Act} {g t : Nat} {b c : Bool} (ho : o.guard = some (g, b)) (hg : ((ops[g]?).bind (·.dst)) = some t) (hs : t < a.tmps.size) (hv : a.eval (.tmp t) = .bool c) (hc : c ≠ b) : Region.wanted o (yielded ops a.tmps) = false := by
  have h1 : a.tmps[t]? = some (.bool c) := by
    simp only [Act.eval] at hv
    rw [Array.getD_eq_getD_getElem?, Array.getElem?_eq_getElem hs] at hv
    rw [Array.getElem?_eq_getElem hs]
    simpa using hv
  simp [Region.wanted, ho, yielded, hg, h1, hc]
end
end Go.Proofs.Ytkpochkfijplaaa
