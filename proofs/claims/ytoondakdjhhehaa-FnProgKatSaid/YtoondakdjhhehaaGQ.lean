/-
  Texts of walks and plain lemmas for this seat; no condition.
-/
import Derived.Test.YtoondakdjhhehaaGS
import Derived.Test.YtoondakdjhhehaaGA
import Derived.Test.YtoondakdjhhehaaDKat
import Derived.Test.YtoondakdjhhehaaGE
import Derived.Test.YtoondakdjhhehaaGB
import Derived.Deep.DeepCutAuto
import Derived.Deep.RegionHeld3
import Derived.Deep.DrawnRows
namespace Go.Proofs.Ytoondakdjhhehaa
open Go.RowKit
section

theorem five_cases {n : Int} (h : inB n 1 5 = true) : n = 1 ∨ n = 2 ∨ n = 3 ∨ n = 4 ∨ n = 5 := by
  simp only [inB, Bool.and_eq_true, decide_eq_true_eq] at h
  omega
end

section
def idxP {α : Type} (p : α → Bool) (xs : List α) : Int := match xs.findIdx? p with | some i => (i : Nat) | none => -1

theorem idxP_at {α : Type} (p : α → Bool) (xs : List α) (j : Nat) (h : j < xs.length) (hp : p xs[j] = true) (hn : ∀ n, n < j → ∀ h : n < xs.length, p xs[n] = false) : idxP p xs = (j : Nat) := by
  have : xs.findIdx? p = some j := by
    rw [List.findIdx?_eq_some_iff_getElem]
    exact ⟨h, hp, fun n hn' => by have := hn n hn' (by omega); simp [this]⟩
  rw [idxP, this]
theorem idxP_none {α : Type} (p : α → Bool) (xs : List α) (hn : ∀ n (h : n < xs.length), p xs[n] = false) : idxP p xs = -1 := by
  have : xs.findIdx? p = none := by
    rw [List.findIdx?_eq_none_iff]
    intro x hx
    obtain ⟨n, h, rfl⟩ := List.getElem_of_mem hx
    exact hn n h
  rw [idxP, this]
theorem idxP_any {α : Type} (p : α → Bool) (xs : List α) : decide (idxP p xs ≥ 0) = xs.any p := by
  unfold idxP
  cases h : xs.findIdx? p with
  | none =>
    rw [List.findIdx?_eq_none_iff] at h
    simp only [ge_iff_le]
    rw [eq_comm]
    simpa using h
  | some i =>
    rw [List.findIdx?_eq_some_iff_getElem] at h
    obtain ⟨h1, h2, _⟩ := h
    simp only [ge_iff_le]
    rw [eq_comm]
    simp
    exact ⟨xs[i], List.getElem_mem h1, h2⟩

theorem rowsB_any (n : Int) (xs : List Int) (hn : inB n 1 5 = true) (hl : (xs.length : Int) = n) : rowsB n xs = !xs.any (fun x => !isSetB n x) := by
  simp only [rowsB, hn, hl, Bool.true_and, decide_true, List.not_any_eq_all_not, Bool.not_not]
/-- A slice of slices of ints. -/
def SlLL (lo hi : Nat) (w : World) (v : Value) (xss : List (List Int)) : Prop :=
  ∃ a cap, v = .slice a xss.length cap ∧ xss.length ≤ cap ∧ cap ≤ maxLen ∧ ∀ i (h : i < xss.length), ∃ b off u, a = some ⟨b, off, none⟩ ∧ lo ≤ b ∧ b < hi ∧ b < w.heap.size ∧ w.cell? ⟨b, off + i, none⟩ = some u ∧ SlI lo hi w u xss[i]
theorem SlLL.below {lo hi B : Nat} {w w' : World} {v : Value} {xss : List (List Int)} (h : SlLL lo hi w v xss) (hb : Below B w w') (hB : hi ≤ B) : SlLL lo hi w' v xss := by
  obtain ⟨a, cap, e, h1, h2, h3⟩ := h
  refine ⟨a, cap, e, h1, h2, fun i hi' => ?_⟩
  obtain ⟨b, off, u, e1, e2, e3, e4, e5, e6⟩ := h3 i hi'
  exact ⟨b, off, u, e1, e2, e3, Nat.lt_of_lt_of_le e4 hb.size, (hb.cell (p := ⟨b, off + i, none⟩) (Nat.lt_of_lt_of_le e3 hB)).trans e5, e6.below hb hB⟩
theorem SlLL.outside {lo hi lo' hi' : Nat} {w w' : World} {v : Value} {xss : List (List Int)} (h : SlLL lo hi w v xss) (hb : Outside lo' hi' w w') (hd : hi ≤ lo' ∨ hi' ≤ lo) : SlLL lo hi w' v xss := by
  obtain ⟨a, cap, e, h1, h2, h3⟩ := h
  refine ⟨a, cap, e, h1, h2, fun i hi' => ?_⟩
  obtain ⟨b, off, u, e1, e2, e3, e4, e5, e6⟩ := h3 i hi'
  exact ⟨b, off, u, e1, e2, e3, Nat.lt_of_lt_of_le e4 hb.size, by rw [World.cell?_of_block (w := w) (a := ⟨b, off + i, none⟩) (hb.block b e4 (by omega))]; exact e5, e6.outside hb hd⟩
theorem SlLL.wide {lo hi lo' hi' : Nat} {w : World} {v : Value} {xss : List (List Int)} (h : SlLL lo hi w v xss) (h1 : lo' ≤ lo) (h2 : hi ≤ hi') : SlLL lo' hi' w v xss := by
  obtain ⟨a, cap, e, k1, k2, h3⟩ := h
  refine ⟨a, cap, e, k1, k2, fun i hi' => ?_⟩
  obtain ⟨b, off, u, e1, e2, e3, e4, e5, e6⟩ := h3 i hi'
  exact ⟨b, off, u, e1, by omega, by omega, e4, e5, e6.wide h1 h2⟩
theorem SlLL.get {lo hi n cap : Nat} {w : World} {a : Option Addr} {xss : List (List Int)} (h : SlLL lo hi w (.slice a n cap) xss) (i : Nat) (hi' : i < xss.length) :
    ∃ b off u, a = some ⟨b, off, none⟩ ∧ lo ≤ b ∧ b < hi ∧ b < w.heap.size ∧ w.cell? ⟨b, off + i, none⟩ = some u ∧ SlI lo hi w u xss[i] := by
  obtain ⟨a', cap', e, _, _, h3⟩ := h
  injection e with e1 _ _
  subst e1
  exact h3 i hi'
theorem SlLL.shape {lo hi : Nat} {w : World} {v : Value} {xss : List (List Int)} (h : SlLL lo hi w v xss) : ∃ a cap, v = .slice a xss.length cap ∧ xss.length ≤ cap ∧ cap ≤ maxLen := by
  obtain ⟨a, cap, e, h1, h2, _⟩ := h
  exact ⟨a, cap, e, h1, h2⟩
/-- The values of a model. -/
abbrev aggMo (M : Mo) (va : Value) : Value := .agg #[.int .i64 M.n, .int .i64 M.p, .int .i64 M.q, va]
end

section

theorem modB_any (M : Mo) (h1 : inB M.n 1 5 = true) (h2 : isSetB M.n M.p = true) (h3 : isSetB M.n M.q = true) (h4 : M.acts.length = 3) : modB M = !M.acts.any (fun x => !rowsB M.n x) := by
  simp only [modB, h1, h2, h3, h4, Bool.true_and, decide_true, List.not_any_eq_all_not, Bool.not_not]
end

section

theorem bit_and {set k : Nat} (hs : set < 4611686018427387904) : (bits .and .i64 ((set : Int) / 2 ^ k) 1 == 1) = set.testBit k := by
  have h1 : ((set : Int) / 2 ^ k) = ((set / 2 ^ k : Nat) : Int) := by push_cast; rfl
  have h2 : set / 2 ^ k < 4611686018427387904 := Nat.lt_of_le_of_lt (Nat.div_le_self _ _) hs
  rw [h1, show (1 : Int) = ((1 : Nat) : Int) from rfl, bits64_and _ _ h2 (by omega), Nat.testBit_eq_decide_div_mod_eq, Nat.and_one_is_mod]
  rw [Bool.eq_iff_iff]
  simp
  omega
theorem imgT_small {rows : List Int} (hr : ∀ s (h : s < rows.length), 0 ≤ rows[s] ∧ rows[s].toNat < 2 ^ 20) (set k : Nat) : imgT rows set k < 1048576 := imgT_lt (n := 20) (fun s h => (hr s h).2) set k
/-- Valid rows are small. -/
theorem rowsB_small {n : Int} {rows : List Int} (h : rowsB n rows = true) : rows.length = n.toNat ∧ n.toNat ≤ 5 ∧ ∀ s (hs : s < rows.length), 0 ≤ rows[s] ∧ rows[s].toNat < 2 ^ 20 := by
  have h0 := h
  simp only [rowsB, Bool.and_eq_true, decide_eq_true_eq, List.all_eq_true, inB] at h
  obtain ⟨⟨⟨h1, h1'⟩, h2⟩, h3⟩ := h
  refine ⟨by omega, by omega, fun s hs => ⟨?_, Nat.lt_of_lt_of_le (rowsB_lt h0 s hs) (Nat.pow_le_pow_right (by omega) (by omega))⟩⟩
  have := h3 _ (List.getElem_mem hs)
  simp only [isSetB, Bool.and_eq_true, decide_eq_true_eq] at this
  exact this.1
/-- Rows are handed back, new. -/
abbrev RowsNew (w : World) (xs : List Int) : Ending → World → Prop := RetV fun v w' => OwnI w.heap.size w'.heap.size 3 w' v xs ∧ Below w.heap.size w w'
theorem rowsR_valid {n : Int} (hn : inB n 1 5 = true) (R : Nat → Nat → Prop) : rowsB n (rowsR n.toNat R) = true := by
  have h := hn
  simp only [inB, Bool.and_eq_true, decide_eq_true_eq] at h
  simp only [rowsB, hn, Bool.true_and, Bool.and_eq_true, decide_eq_true_eq, List.all_eq_true]
  refine ⟨by rw [rowsR_length]; omega, fun x hx => ?_⟩
  obtain ⟨s, hs, rfl⟩ := List.getElem_of_mem hx
  rw [rowsR_get]
  have := bitsN_lt (R s) n.toNat
  simp only [isSetB, Bool.and_eq_true, decide_eq_true_eq]
  refine ⟨by omega, ?_⟩
  have h2 : ((bitsN n.toNat (R s) : Nat) : Int) < ((2 ^ n.toNat : Nat) : Int) := by exact_mod_cast this
  push_cast at h2
  exact h2
end

section

end

section

theorem pow_wrap : ∀ {k : Nat}, k < 10 → wrap64 (2 ^ k) = ((2 ^ k : Nat) : Int) := by decide +kernel

end

section

theorem box_facts3 {w w0 : World} {o : Obj} (h : w0 = w.alloc o) : Below w.heap.size w w0 ∧ Blk w.heap.size o w0 ∧ w.heap.size + 1 ≤ w0.heap.size := by
  subst h
  exact ⟨(Below.refl _ _).alloc (Nat.le_refl _) _, Blk.new w o, by simp⟩
theorem bit_val {set k : Nat} (hs : set < 4611686018427387904) : bits .and .i64 ((set : Int) / 2 ^ k) 1 = if set.testBit k then 1 else 0 := by
  have h1 : ((set : Int) / 2 ^ k) = ((set / 2 ^ k : Nat) : Int) := by push_cast; rfl
  have h2 : set / 2 ^ k < 4611686018427387904 := Nat.lt_of_le_of_lt (Nat.div_le_self _ _) hs
  rw [h1, show (1 : Int) = ((1 : Nat) : Int) from rfl, bits64_and _ _ h2 (by omega), Nat.testBit_eq_decide_div_mod_eq, Nat.and_one_is_mod]
  have := Nat.mod_two_eq_zero_or_one (set / 2 ^ k)
  rcases this with h | h <;> simp [h]
theorem atomN_val (M : Mo) (s : Nat) : atomN M s = (if M.p.toNat.testBit s then 1 else 0) + 2 * (if M.q.toNat.testBit s then 1 else 0) := by
  unfold atomN
  rw [Nat.shiftRight_eq_div_pow, Nat.shiftRight_eq_div_pow, Nat.testBit_eq_decide_div_mod_eq, Nat.testBit_eq_decide_div_mod_eq]
  have h1 := Nat.mod_two_eq_zero_or_one (M.p.toNat / 2 ^ s)
  have h2 := Nat.mod_two_eq_zero_or_one (M.q.toNat / 2 ^ s)
  rcases h1 with h1 | h1 <;> rcases h2 with h2 | h2 <;> simp [h1, h2]
theorem testBit_hb (t k : Nat) : hb t k = t.testBit k := by
  unfold hb
  rw [Nat.shiftRight_eq_div_pow, Nat.testBit_eq_decide_div_mod_eq]
  rw [Bool.eq_iff_iff]
  simp
/-- The states below k in which a test holds. -/
def tstT (M : Mo) (t : Nat) : Nat → Nat
  | 0 => 0
  | k + 1 => if t.testBit (atomN M k) then tstT M t k ||| 2 ^ k else tstT M t k
theorem tstT_bit (M : Mo) (t j : Nat) : ∀ k, (tstT M t k).testBit j = true ↔ j < k ∧ t.testBit (atomN M j) = true
  | 0 => by simp [tstT]
  | k + 1 => by
    have ih := tstT_bit M t j k
    rw [tstT]
    split
    · rename_i hb
      rw [Nat.testBit_or, Bool.or_eq_true, ih, Nat.testBit_two_pow, decide_eq_true_eq]
      constructor
      · rintro (⟨h1, h2⟩ | rfl)
        · exact ⟨by omega, h2⟩
        · exact ⟨by omega, hb⟩
      · rintro ⟨h1, h2⟩
        by_cases hj : j = k
        · exact .inr hj.symm
        · exact .inl ⟨by omega, h2⟩
    · rename_i hb
      rw [ih]
      constructor
      · rintro ⟨h1, h2⟩; exact ⟨by omega, h2⟩
      · rintro ⟨h1, h2⟩
        by_cases hj : j = k
        · subst hj; exact absurd h2 hb
        · exact ⟨by omega, h2⟩
theorem tstT_lt (M : Mo) (t : Nat) : ∀ k, tstT M t k < 2 ^ k
  | 0 => by simp [tstT]
  | k + 1 => by
    have ih := tstT_lt M t k
    have h2 : 2 ^ k < 2 ^ (k + 1) := Nat.pow_lt_pow_right (by omega) (by omega)
    rw [tstT]
    split
    · exact Nat.or_lt_two_pow (by omega) h2
    · omega
end

section

theorem Blk.dr {g : Nat} {o : Obj} {w : World} (h : Blk g o w) : Blk g o w.drew := h
def testR (M : Mo) (t n : Nat) : List Int := (List.range n).map fun k => ((tstT M t n &&& 2 ^ k : Nat) : Int)
theorem testR_rows (M : Mo) (t n : Nat) (ht : t < 16) : testR M t n = rowsR n (leafM M (t : Int)) := by
  unfold testR rowsR
  apply List.map_congr_left
  intro s hs
  have hs : s < n := by simpa using hs
  congr 1
  refine bitsN_eq (Nat.lt_of_le_of_lt Nat.and_le_left (tstT_lt M t n)) fun k hk => ?_
  rw [Nat.testBit_and, Bool.and_eq_true, tstT_bit, Nat.testBit_two_pow, decide_eq_true_eq, leafM_test (by omega), Int.toNat_natCast]
  constructor
  · rintro ⟨⟨_, h⟩, rfl⟩; exact ⟨rfl, h⟩
  · rintro ⟨rfl, h⟩; exact ⟨⟨hs, h⟩, rfl⟩
end

section

/-- What is known of a valid model in memory. -/
structure MoOk (n p q : Nat) (acts : List (List Int)) : Prop where
  n1 : 1 ≤ n
  n5 : n ≤ 5
  p2 : p < 2 ^ n
  q2 : q < 2 ^ n
  len : acts.length = 3
  rows : ∀ k (h : k < acts.length), rowsB (n : Int) acts[k] = true
theorem MoOk.mod {n p q : Nat} {acts : List (List Int)} (h : MoOk n p q acts) : modB (⟨(n : Int), (p : Int), (q : Int), acts⟩ : Mo) = true := by
  have h1 : ((p : Nat) : Int) < 2 ^ n := by exact_mod_cast h.p2
  have h2 : ((q : Nat) : Int) < 2 ^ n := by exact_mod_cast h.q2
  simp only [modB, Bool.and_eq_true, decide_eq_true_eq, List.all_eq_true, inB, isSetB, Int.toNat_natCast]
  refine ⟨⟨⟨⟨⟨?_, ?_⟩, ?_, h1⟩, ?_, h2⟩, h.len⟩, fun x hx => ?_⟩
  · have := h.n1; omega
  · have := h.n5; omega
  · omega
  · omega
  · obtain ⟨k, hk, rfl⟩ := List.getElem_of_mem hx
    exact h.rows k hk
theorem MoOk.small {n p q : Nat} {acts : List (List Int)} (h : MoOk n p q acts) : p < 1099511627776 ∧ q < 1099511627776 := by
  have h5 : 2 ^ n ≤ 2 ^ 5 := Nat.pow_le_pow_right (by omega) h.n5
  have := h.p2
  have := h.q2
  omega
theorem modB_open {M : Mo} (h : modB M = true) : ∃ n p q : Nat, M.n = n ∧ M.p = p ∧ M.q = q ∧ MoOk n p q M.acts := by
  obtain ⟨n, p, q, acts⟩ := M
  simp only [modB, Bool.and_eq_true, decide_eq_true_eq, List.all_eq_true, inB, isSetB] at h
  obtain ⟨⟨⟨⟨h1, h2⟩, h3⟩, h4⟩, h5⟩ := h
  obtain ⟨n', rfl⟩ : ∃ k : Nat, n = k := ⟨n.toNat, by omega⟩
  obtain ⟨p', rfl⟩ : ∃ k : Nat, p = k := ⟨p.toNat, by omega⟩
  obtain ⟨q', rfl⟩ : ∃ k : Nat, q = k := ⟨q.toNat, by omega⟩
  rw [Int.toNat_natCast] at h2 h3
  refine ⟨n', p', q', rfl, rfl, rfl, ⟨by omega, by omega, by exact_mod_cast h2.2, by exact_mod_cast h3.2, h4, fun k hk => h5 _ (List.getElem_mem hk)⟩⟩
theorem then_rows {n : Nat} {R S : Nat → Nat → Prop} (hR : Closed n R) : ((rowsR n R).map fun x => ((imgT (rowsR n S) x.toNat (rowsR n S).length : Nat) : Int)) = rowsR n (fun s t => ∃ u, R s u ∧ S u t) := by
  rw [rowsR_length]
  unfold rowsR
  rw [List.map_map]
  apply List.map_congr_left
  intro s hs
  have hs : s < n := by simpa using hs
  simp only [Function.comp_apply, Int.toNat_natCast]
  congr 1
  exact img_seq hR rfl hs
theorem plus_rows (n : Nat) (R S : Nat → Nat → Prop) : ((List.range (rowsR n R).length).map fun k => ((((rowsR n R).getD k 0).toNat ||| ((rowsR n S).getD k 0).toNat : Nat) : Int)) = rowsR n (fun s t => R s t ∨ S s t) := by
  rw [rowsR_length]
  conv => rhs; unfold rowsR
  apply List.map_congr_left
  intro s hs
  have hs : s < n := by simpa using hs
  have h1 : ∀ R : Nat → Nat → Prop, ((rowsR n R).getD s 0).toNat = bitsN n (R s) := fun R => by
    have h : s < (rowsR n R).length := by rw [rowsR_length]; exact hs
    simp only [List.getD, List.getElem?_eq_getElem h, Option.getD_some, rowsR_get, Int.toNat_natCast]
  rw [h1, h1, or_rows]
end

section


end

section

end
end Go.Proofs.Ytoondakdjhhehaa
