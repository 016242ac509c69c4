/-
  Texts of walks and plain lemmas for this seat; no condition.
-/
import Derived.Test.YtoondakdjhhehaaGA
import Derived.Deep.RegionHeldLaw
import Derived.Deep.RegionHeld3
import Derived.Deep.RegionWith
namespace Go.Proofs.Ytoondakdjhhehaa
open Go.RowKit
section
variable {P : Program} {w : World}
/-- append at a step of a region that draws its order. -/
theorem step_app_sl {ops : Array Oper} {o : Oper} {a : Act} {K : Act → World → Prop} {Q : Exit → Act → World → Prop} {E : Prop} (hgd : o.guard = none) (s x : Operand) (t : TypeId)
    (ho : o.op = .call { callee := .builtin .append, args := #[s, x], argTypes := #[t, t] })
    (e : TypeId) (z : Value) (sz bytes : Nat) (ht : P.underlying t = some (.slice e)) (hinfo : (P.info? e).map (fun i => (i.zero, i.size, i.bytes)) = some (some z, sz, bytes))
    (hzs : z.cells.size = sz) (hsz : 0 < sz) (hby : bytes ≤ 64)
    {lo hi lo' hi' n : Nat} {v : Value} {xs : List Value} (hs : a.eval s = v) (hown : Own sz lo hi e w v n xs)
    {ad : Addr} {m c : Nat} {ys : List Value} (hx : a.eval x = .slice (some ad) m c) (hsl : Sl sz lo' hi' w (.slice (some ad) m c) m ys) (h1 : ∀ u ∈ ys, u.oneCell' = true)
    (hn : n + m ≤ 1073741824) (hlo : lo ≤ w.heap.size)
    (h : ∀ v' w', Own sz lo w'.heap.size e w' v' (n + m) (xs ++ ys) → Outside lo hi w w' → K (a.put o.dst v') w') :
    if Region.wanted o (yielded ops a.tmps) = true then Oper.wp P o a w K Q else E := by
  have hw : Region.wanted o (yielded ops a.tmps) = true := by simp [Region.wanted, hgd]
  rw [if_pos hw]
  obtain ⟨i, hi0, hz, hsize, hb⟩ := info_parts hinfo
  obtain ⟨ao, c', e', hmc, hcm, hlen, hnone, hc⟩ := hsl
  injection e' with e1 e2 e3
  subst e1 e3
  have hmx : (n + m) * bytes ≤ 140737488355328 := Nat.le_trans (Nat.mul_le_mul hn hby) (by decide)
  refine wp_append_own w s x t ho lo e i z sz bytes ht hi0 hz hsize hb hzs hsz v n xs hs hown.1 ad m c ys hx hlen ?_ h1 (by unfold maxLen; omega) hmx hlo ?_
  · intro j u hu
    have hj := (List.getElem?_eq_some_iff.1 hu).1
    obtain ⟨b, off, e1, _, _, _, e2⟩ := hc j hj
    injection e1 with e1
    subst e1
    rw [Addr.add_lit, e2, hu]
  · intro v' w' h2 h3 _
    exact h v' w' (Own.of_row h2) (grown_outside h3 hown.lt)
end

section
variable {P : Program} {w : World}
/-- The same, and nothing but the row it goes into is written. -/
theorem step_app_gr {ops : Array Oper} {o : Oper} {a : Act} {K : Act → World → Prop} {Q : Exit → Act → World → Prop} {E : Prop} (hgd : o.guard = none) (s x : Operand) (t : TypeId)
    (ho : o.op = .call { callee := .builtin .append, args := #[s, x], argTypes := #[t, t] })
    (e : TypeId) (z : Value) (sz bytes : Nat) (ht : P.underlying t = some (.slice e)) (hinfo : (P.info? e).map (fun i => (i.zero, i.size, i.bytes)) = some (some z, sz, bytes))
    (hzs : z.cells.size = sz) (hsz : 0 < sz) (hby : bytes ≤ 64)
    {lo hi lo' hi' n : Nat} {v : Value} {xs : List Value} (hs : a.eval s = v) (hown : Own sz lo hi e w v n xs)
    {ad : Addr} {m c : Nat} {ys : List Value} (hx : a.eval x = .slice (some ad) m c) (hsl : Sl sz lo' hi' w (.slice (some ad) m c) m ys) (h1 : ∀ u ∈ ys, u.oneCell' = true)
    (hn : n + m ≤ 1073741824) (hlo : lo ≤ w.heap.size)
    (h : ∀ v' w', Own sz lo w'.heap.size e w' v' (n + m) (xs ++ ys) → Outside lo hi w w' → w.grownBy w' v.ownBlock → K (a.put o.dst v') w') :
    if Region.wanted o (yielded ops a.tmps) = true then Oper.wp P o a w K Q else E := by
  have hw : Region.wanted o (yielded ops a.tmps) = true := by simp [Region.wanted, hgd]
  rw [if_pos hw]
  obtain ⟨i, hi0, hz, hsize, hb⟩ := info_parts hinfo
  obtain ⟨ao, c', e', hmc, hcm, hlen, hnone, hc⟩ := hsl
  injection e' with e1 e2 e3
  subst e1 e3
  have hmx : (n + m) * bytes ≤ 140737488355328 := Nat.le_trans (Nat.mul_le_mul hn hby) (by decide)
  refine wp_append_own w s x t ho lo e i z sz bytes ht hi0 hz hsize hb hzs hsz v n xs hs hown.1 ad m c ys hx hlen ?_ h1 (by unfold maxLen; omega) hmx hlo ?_
  · intro j u hu
    have hj := (List.getElem?_eq_some_iff.1 hu).1
    obtain ⟨b, off, e1, _, _, _, e2⟩ := hc j hj
    injection e1 with e1
    subst e1
    rw [Addr.add_lit, e2, hu]
  · intro v' w' h2 h3 _
    exact h v' w' (Own.of_row h2) (grown_outside h3 hown.lt) h3
end

theorem info_ints : (Try.prog.info? 23).map (fun i => (i.zero, i.size, i.bytes)) = some (some (.slice none 0 0), 1, 24) := by kernel_rfl
end Go.Proofs.Ytoondakdjhhehaa
