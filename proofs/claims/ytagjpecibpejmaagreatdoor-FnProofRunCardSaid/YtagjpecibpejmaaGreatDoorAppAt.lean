/-
  Texts of walks and plain lemmas for this seat; no condition.
-/
import Derived.Test.YtagjpecibpejmaaGreatDoorGA
import Derived.Maps.AppendAt
namespace Go.Proofs.YtagjpecibpejmaaGreatDoor
open Go.RowKit

section
variable {P : Program} {w : World} {ops : Array Oper} {rest : List Oper} {o : Oper} {a : Act} {Q : Exit → Act → World → Prop}
/-- append(s, x1, ..) of what has just been laid: the new row lies in the old one's place, or in a new block. -/
theorem wpList_app_lit2 (w0 : World) (hgd : o.guard = none) (s x : Operand) (t : TypeId)
    (ho : o.op = .call { callee := .builtin .append, args := #[s, x], argTypes := #[t, t] })
    (e : TypeId) (z : Value) (sz bytes : Nat) (ht : P.underlying t = some (.slice e)) (hinfo : (P.info? e).map (fun i => (i.zero, i.size, i.bytes)) = some (some z, sz, bytes))
    (hzs : z.cells.size = sz) (hsz : 0 < sz) (hby : bytes ≤ 64)
    {lo hi n : Nat} {v : Value} {xs : List Value} (hs : a.eval s = v) (hown : Own sz lo hi e w0 v n xs)
    (m : Nat) (ys : List Value) (hx : a.eval x = .slice (some ⟨w0.heap.size, 0, none⟩) m m) (hlen : ys.length = m * sz) (h1 : ∀ u ∈ ys, u.oneCell' = true) (hw : w = w0.alloc (.cells ys.toArray e))
    (hn : n + m ≤ 1073741824) (hlo : lo ≤ w0.heap.size)
    (h : ∀ v' w' lo' hi', Own sz lo' hi' e w' v' (n + m) (xs ++ ys) → (lo' = lo ∧ hi' = hi ∨ w0.heap.size ≤ lo' ∧ lo' < hi' ∧ hi' ≤ w'.heap.size) → Outside lo hi w0 w' → wpList P ops Q rest (a.put o.dst v') w') : wpList P ops Q (o :: rest) a w := by
  subst hw
  obtain ⟨i, hi0, hz, hsize, hb⟩ := info_parts hinfo
  have hl := (Own.lit sz e w0 ys m (by omega) hlen).sl
  obtain ⟨ao, c, he, hmc, hcm, hlen', hnone, hc⟩ := hl
  injection he with he1 he2 he3
  subst he1 he3
  have hown' := hown.alloc (.cells ys.toArray e)
  have hmx : (n + m) * bytes ≤ 140737488355328 := Nat.le_trans (Nat.mul_le_mul hn hby) (by decide)
  refine wpList_append_own_at _ hgd s x t ho lo e i z sz bytes ht hi0 hz hsize hb hzs hsz v n xs hs hown'.1 ⟨w0.heap.size, 0, none⟩ m m ys hx hlen ?_ h1 (by unfold maxLen; omega) hmx (by simp; omega) ?_
  · intro j u hu
    have hj := (List.getElem?_eq_some_iff.1 hu).1
    obtain ⟨b, off, e1, _, _, _, e2⟩ := hc j hj
    injection e1 with e1
    rw [e1, Addr.add_lit, e2, hu]
  · intro v' w' h2 h3 _ h5
    have hout : Outside lo hi w0 w' := (Outside.of_below ((Below.refl _ _).alloc (Nat.le_refl _) _) (Nat.le_refl _)).trans (grown_outside h3 hown'.lt)
    rcases h2.2 with ⟨hv, hx0⟩ | ⟨g, cap, cur, hv, hbg, hg, r1, r2, r3, r4⟩
    · exact h v' w' lo hi ⟨h2, fun k hk => by rw [hv] at hk; simp [Value.ownBlock] at hk⟩ (.inl ⟨rfl, rfl⟩) hout
    · have hgs := (Array.getElem?_eq_some_iff.1 hg).1
      have hvb : v'.ownBlock = some g := by rw [hv]; rfl
      rcases h5 with h5 | h5
      · exact h v' w' lo hi ⟨h2, fun k hk => hown'.2 k (by rw [← h5]; exact hk)⟩ (.inl ⟨rfl, rfl⟩) hout
      · rw [hvb] at h5
        injection h5 with h5
        have h6 : w0.heap.size ≤ g := by rw [h5]; simp
        refine h v' w' g (g + 1) ⟨⟨h2.1, .inr ⟨g, cap, cur, hv, Nat.le_refl _, hg, r1, r2, r3, r4⟩⟩, fun k hk => ?_⟩ (.inr ⟨h6, Nat.lt_succ_self g, hgs⟩) hout
        rw [hvb] at hk
        injection hk with hk
        omega
end
end Go.Proofs.YtagjpecibpejmaaGreatDoor
