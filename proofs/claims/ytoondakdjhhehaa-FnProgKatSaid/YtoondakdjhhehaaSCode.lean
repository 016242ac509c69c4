/-
  Texts of walks and plain lemmas for this seat; no condition.
-/
import Derived.Test.YtoondakdjhhehaaSProg
import Derived.Test.YtoondakdjhhehaaCIns
namespace Go.Proofs.Ytoondakdjhhehaa
open Go.RowKit
set_option linter.unusedVariables false

theorem info_ins : (Try.prog.info? 125).map (fun i => (i.zero, i.size, i.bytes)) = some (some (.agg #[.int .i64 0, .int .i64 0, .int .i64 0]), 3, 24) := by kernel_rfl
theorem inss_append (a b : List In3) : inss (a ++ b) = inss a ++ inss b := by simp [inss]
theorem len_two {xs ys zs : List In3} {p q : Nat} (h : zs = xs ++ ys) (hx : xs.length = p) (hy : ys.length = q) : zs.length ≤ p + q ∧ p + q ≤ zs.length := by
  rw [h, List.length_append, hx, hy]
  omega
theorem OwnC.len {lo hi e n : Nat} {w : World} {v : Value} {xs : List In3} (h : Own 3 lo hi e w v n (inss xs)) (hn : n = xs.length) : OwnC lo hi e w v xs := by subst hn; exact h
/-- A code on its way, in new memory from a block on. -/
def CW (lo : Nat) (w wr : World) (v : Value) (xs : List In3) : Prop := OwnC lo wr.heap.size 125 wr v xs ∧ Below w.heap.size w wr ∧ w.heap.size ≤ lo ∧ lo ≤ wr.heap.size
theorem CW.app {lo n : Nat} {w wr wy : World} {v v' : Value} {xs ys : List In3} (h : CW lo w wr v xs) (h5 : Own 3 lo wy.heap.size 125 wy v' n (inss xs ++ inss ys)) (h6 : Outside lo wr.heap.size wr wy) (hn : n = xs.length + ys.length) :
    ∃ a cap zs, zs = xs ++ ys ∧ v' = .slice a zs.length cap ∧ CW lo w wy (.slice a zs.length cap) zs := by
  obtain ⟨a, cap, rfl, _⟩ := Own.open h5
  have hl : n = (xs ++ ys).length := by simp [hn]
  refine ⟨a, cap, xs ++ ys, rfl, by rw [hl], ?_⟩
  have ho : OwnC lo wy.heap.size 125 wy (.slice a n cap) (xs ++ ys) := OwnC.len (n := n) (by rw [inss_append]; exact h5) hl
  rw [← hl]
  exact ⟨ho, Below.outside h.2.1 h6 h.2.2.1 h.2.1.size, h.2.2.1, Nat.le_trans h.2.2.2 h6.size⟩
theorem CW.lit {w wr : World} (hb : Below w.heap.size w wr) (xs : List In3) (hx : xs.length ≤ 100) : CW wr.heap.size w (wr.alloc (.cells (inss xs).toArray 125)) (.slice (some ⟨wr.heap.size, 0, none⟩) xs.length xs.length) xs := by
  have h0 := Own.lit 3 125 wr (inss xs) xs.length (by omega) (inss_length xs)
  have hs := hb.size
  refine ⟨?_, hb.alloc hs _, hs, by simp⟩
  have : (wr.alloc (.cells (inss xs).toArray 125)).heap.size = wr.heap.size + 1 := by simp
  rw [this]
  exact h0
theorem code_len : ∀ (T : PT) (n : Nat), (T.code n).length ≤ 2 * T.post.length
  | .one w, n => by simp only [PT.code, PT.post]; split <;> simp
  | .seq a b, n => by
    have h1 := code_len a n
    have h2 := code_len b (n + (a.code n).length)
    simp only [PT.code, PT.post, List.length_append, List.length_singleton]
    omega
  | .ite t a b, n => by
    have h1 := code_len a (n + 1)
    have h2 := code_len b (n + (a.code (n + 1)).length + 2)
    simp only [PT.code, PT.post, List.length_append, List.length_singleton]
    omega
  | .wh t a, n => by
    have h1 := code_len a (n + 1)
    simp only [PT.code, PT.post, List.length_append, List.length_singleton]
    omega
theorem CW.ret {lo : Nat} {w wr : World} {v : Value} {xs ys : List In3} (h : CW lo w wr v xs) (e : xs = ys) : ∃ zs, zs = ys ∧ OwnC w.heap.size wr.heap.size 125 wr v zs ∧ Below w.heap.size w wr :=
  ⟨xs, e, Own.wide2 h.1 h.2.2.1 (Nat.le_refl _), h.2.1⟩
/-- The last word of a row. -/
theorem last_cell {lo hi : Nat} {w : World} {v : Value} {xs : List Int} {s : Int} (h : SlI lo hi w v (xs ++ [s])) :
    ∃ b off cap, v = .slice (some ⟨b, off, none⟩) (xs.length + 1) cap ∧ xs.length + 1 ≤ cap ∧ cap ≤ maxLen ∧ w.cell? ⟨b, off + xs.length, none⟩ = some (.int .i64 s) := by
  obtain ⟨a, cap, e, h1, h2, h3⟩ := h.open
  obtain ⟨b, off, e1, _, _, _, h4⟩ := h3 xs.length (by simp)
  subst e e1
  refine ⟨b, off, cap, by simp, by simpa using h1, h2, ?_⟩
  rw [h4]
  simp

theorem progC_none {p : List Int} (h : progV p = false) : progC p = none := by simp [progC, h]
theorem progC_big {T : PT} (h : T.ok = true) (hs : T.size ≤ 16) : progC T.post = some (T.code 0 ++ [endI]) := by
  have h1 := progV_post h hs
  have h2 := runP_post T h []
  have h3 := code_len T 0
  rw [T.post_length] at h3
  rw [progC, h1, treeP_of h2, if_pos (by simp; omega)]
/-- A code comes back, and whether there is one. -/
def RetCB (P : Value → Bool → World → Prop) (e : Ending) (w' : World) : Prop := ∃ v b, e = .returned (.tuple #[v, .bool b]) ∧ P v b w'
end Go.Proofs.Ytoondakdjhhehaa
