/-
  Texts of walks and plain lemmas for this seat; no condition.
-/
import Derived.Test.YtjpndimhegfbnaaGreatDoorBase
namespace Go.Proofs.YtjpndimhegfbnaaGreatDoor
open Go.RowKit

theorem grown_outside {lo hi : Nat} {w w' : World} {row : Option Nat} (hg : w.grownBy w' row) (h : ∀ k, row = some k → lo ≤ k ∧ k < hi) : Outside lo hi w w' :=
  ⟨hg.os, hg.tape, hg.output, hg.size, fun k hk hd => hg.block k hk (fun e => by have := h k e.symm; omega)⟩

theorem Own.lt {sz lo hi e n : Nat} {w : World} {v : Value} {xs : List Value} (h : Own sz lo hi e w v n xs) : ∀ k, v.ownBlock = some k → lo ≤ k ∧ k < hi :=
  fun k hk => ⟨(h.1.lt k hk).1, h.2 k hk⟩

theorem Own.of_row {sz lo e n : Nat} {w : World} {v : Value} {xs : List Value} (h : w.ownsRow lo e sz v n xs) : Own sz lo w.heap.size e w v n xs :=
  ⟨h, fun k hk => (h.lt k hk).2⟩

theorem Own.nil (sz lo hi e : Nat) (w : World) : Own sz lo hi e w (.slice none 0 0) 0 [] := ⟨World.ownsRow_nil _ _ _ _, by simp [Value.ownBlock]⟩
theorem Own.drewN {sz lo hi e n : Nat} {w : World} {v : Value} {xs : List Value} (h : Own sz lo hi e w v n xs) (m : Nat) : Own sz lo hi e (w.drewN m) v n xs := h
theorem Own.wide {sz lo hi hi' e n : Nat} {w : World} {v : Value} {xs : List Value} (h : Own sz lo hi e w v n xs) (hh : hi ≤ hi') : Own sz lo hi' e w v n xs :=
  ⟨h.1, fun k hk => Nat.lt_of_lt_of_le (h.2 k hk) hh⟩
theorem Own.wide2 {sz lo lo' hi hi' e n : Nat} {w : World} {v : Value} {xs : List Value} (h : Own sz lo hi e w v n xs) (hl : lo' ≤ lo) (hh : hi ≤ hi') : Own sz lo' hi' e w v n xs := by
  obtain ⟨⟨h1, h2⟩, h3⟩ := h
  refine ⟨⟨h1, ?_⟩, fun k hk => Nat.lt_of_lt_of_le (h3 k hk) hh⟩
  rcases h2 with h2 | ⟨g, cap, cur, hv, hb, hrest⟩
  · exact .inl h2
  · exact .inr ⟨g, cap, cur, hv, Nat.le_trans hl hb, hrest⟩
theorem Own.alloc {sz lo hi e n : Nat} {w : World} {v : Value} {xs : List Value} (h : Own sz lo hi e w v n xs) (o : Obj) : Own sz lo hi e (w.alloc o) v n xs :=
  ⟨h.1.alloc o, h.2⟩

/-- A literal row, at the block that has just been laid. -/
theorem Own.lit (sz e : Nat) (w : World) (cs : List Value) (n : Nat) (hm : n ≤ 1073741824) (hs : cs.length = n * sz) :
    Own sz w.heap.size (w.heap.size + 1) e (w.alloc (.cells cs.toArray e)) (.slice (some ⟨w.heap.size, 0, none⟩) n n) n cs := by
  refine ⟨World.ownsRow_lit (base := w.heap.size) (size := sz) w cs.toArray n (Nat.le_refl _) (by unfold maxLen; omega) (by simpa using hs), fun g hg => ?_⟩
  simp [Value.ownBlock] at hg
  omega

section
variable {P : Program} {w : World} {ops : Array Oper} {rest : List Oper} {o : Oper} {a : Act} {Q : Exit → Act → World → Prop}

/-- append(s, x...), x readable; s owned. -/
theorem wpList_app_sl (hgd : o.guard = none) (s x : Operand) (t : TypeId)
    (ho : o.op = .call { callee := .builtin .append, args := #[s, x], argTypes := #[t, t] })
    (e : TypeId) (z : Value) (sz bytes : Nat) (ht : P.underlying t = some (.slice e)) (hinfo : (P.info? e).map (fun i => (i.zero, i.size, i.bytes)) = some (some z, sz, bytes))
    (hzs : z.cells.size = sz) (hsz : 0 < sz) (hby : bytes ≤ 64)
    {lo hi lo' hi' n : Nat} {v : Value} {xs : List Value} (hs : a.eval s = v) (hown : Own sz lo hi e w v n xs)
    {vx : Value} {m : Nat} {ys : List Value} (hx : a.eval x = vx) (hsl : Sl sz lo' hi' w vx m ys) (h1 : ∀ u ∈ ys, u.oneCell' = true)
    (hn : n + m ≤ 1073741824) (hlo : lo ≤ w.heap.size)
    (h : ∀ v' w', Own sz lo w'.heap.size e w' v' (n + m) (xs ++ ys) → w.grownBy w' v.ownBlock → Outside lo hi w w' → (v' = .slice none 0 0 ↔ v = .slice none 0 0 ∧ m = 0) → wpList P ops Q rest (a.put o.dst v') w') : wpList P ops Q (o :: rest) a w := by
  obtain ⟨i, hi0, hz, hsize, hb⟩ := info_parts hinfo
  obtain ⟨ao, c, rfl, hmc, hcm, hlen, hnone, hc⟩ := hsl
  have hmx : (n + m) * bytes ≤ 140737488355328 := Nat.le_trans (Nat.mul_le_mul hn hby) (by decide)
  cases ao with
  | none =>
    obtain rfl := hnone rfl
    obtain rfl : m = 0 := by omega
    obtain rfl : ys = [] := List.eq_nil_of_length_eq_zero (by simpa using hlen)
    refine wpList_plain hgd fun K hK => ?_
    have hrun := run_append_owned_none (P := P) w lo t o.type e i sz ht hi0 _ n xs hown.1
    have hk := h v w (by simpa using ⟨hown.1, fun g hg => (hown.1.lt g hg).2⟩) (World.grownBy.refl _ _) (Outside.refl _ _ _) (by simp)
    unfold Oper.wp
    simp [execOp, ho, resolve, invoke, builtin, hs, hx, hrun, Result.andThen]
    exact hK _ _ hk
  | some ad =>
    refine wpList_append_own w hgd s x t ho lo e i z sz bytes ht hi0 hz hsize hb hzs hsz v n xs hs hown.1 ad m c ys hx hlen ?_ h1 (by unfold maxLen; omega) hmx hlo ?_
    · intro j u hu
      have hj := (List.getElem?_eq_some_iff.1 hu).1
      obtain ⟨b, off, e1, _, _, _, e2⟩ := hc j hj
      injection e1 with e1
      subst e1
      rw [Addr.add_lit, e2, hu]
    · intro v' w' h2 h3 h4
      exact h v' w' (Own.of_row h2) h3 (grown_outside h3 hown.lt) h4

/-- append(s, x1, ..): what is appended has just been laid. -/
theorem wpList_app_lit (w0 : World) (hgd : o.guard = none) (s x : Operand) (t : TypeId)
    (ho : o.op = .call { callee := .builtin .append, args := #[s, x], argTypes := #[t, t] })
    (e : TypeId) (z : Value) (sz bytes : Nat) (ht : P.underlying t = some (.slice e)) (hinfo : (P.info? e).map (fun i => (i.zero, i.size, i.bytes)) = some (some z, sz, bytes))
    (hzs : z.cells.size = sz) (hsz : 0 < sz) (hby : bytes ≤ 64)
    {lo hi n : Nat} {v : Value} {xs : List Value} (hs : a.eval s = v) (hown : Own sz lo hi e w0 v n xs)
    (m : Nat) (ys : List Value) (hx : a.eval x = .slice (some ⟨w0.heap.size, 0, none⟩) m m) (hlen : ys.length = m * sz) (h1 : ∀ u ∈ ys, u.oneCell' = true) (hw : w = w0.alloc (.cells ys.toArray e))
    (hn : n + m ≤ 1073741824) (hlo : lo ≤ w0.heap.size)
    (h : ∀ v' w', Own sz lo w'.heap.size e w' v' (n + m) (xs ++ ys) → Outside lo hi w0 w' → (v' = .slice none 0 0 ↔ v = .slice none 0 0 ∧ m = 0) → wpList P ops Q rest (a.put o.dst v') w') : wpList P ops Q (o :: rest) a w := by
  subst hw
  have hl := (Own.lit sz e w0 ys m (by omega) hlen).sl
  refine wpList_app_sl hgd s x t ho e z sz bytes ht hinfo hzs hsz hby hs (hown.alloc _) hx hl h1 hn (by simp; omega) ?_
  intro v' w' h2 _ h3 h4
  have hb : Outside lo hi w0 (w0.alloc (.cells ys.toArray e)) := Outside.of_below ((Below.refl _ _).alloc (Nat.le_refl _) _) (Nat.le_refl _)
  exact h v' w' h2 (hb.trans h3) h4
end

theorem ints_one (xs : List Int) : ∀ u ∈ ints xs, u.oneCell' = true := ints_oneCell _ _
theorem ints_append (xs ys : List Int) : ints (xs ++ ys) = ints xs ++ ints ys := by simp [ints]
end Go.Proofs.YtjpndimhegfbnaaGreatDoor
