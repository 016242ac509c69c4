/-
  Texts of walks and plain lemmas for this seat; no condition.
-/
import Derived.Test.YtagjpecibpejmaaGreatDoorGA
import Derived.ArgAppend
namespace Go.Proofs.YtagjpecibpejmaaGreatDoor
open Go.RowKit

section
variable {w : World} {ops : Array Oper} {rest : List Oper} {o : Oper} {a : Act} {Q : Exit → Act → World → Prop}
set_option linter.unusedSimpArgs false
/-- append(s, y) where s is read on: both read as they should behind it. -/
theorem wpList_app_keep (w0 : World) (hgd : o.guard = none) (s x : Operand)
    (ho : o.op = .call { callee := .builtin .append, args := #[s, x], argTypes := #[24, 24] })
    {lo hi : Nat} {v : Value} {xs : List Int} (hs : a.eval s = v) (hown : OwnI lo hi 3 w0 v xs) (hpos : 0 < xs.length) (y : Int)
    (hx : a.eval x = .slice (some ⟨w0.heap.size, 0, none⟩) 1 1) (hw : w = w0.alloc (.cells #[.int .i64 y] 3)) (hn : xs.length ≤ 1000000) (hlo : lo ≤ w0.heap.size)
    (h : ∀ v' w', SlI lo w'.heap.size w' v' (xs ++ [y]) → SlI lo w'.heap.size w' v xs → Outside lo hi w0 w' → wpList Tryz.prog ops Q rest (a.put o.dst v') w') : wpList Tryz.prog ops Q (o :: rest) a w := by
  subst hw
  obtain ⟨i, hi0, hz, hsize, hb⟩ := info_parts info_int
  obtain ⟨hrow, hlt⟩ := hown
  have hlen : (ints xs).length = xs.length := ints_length xs
  rcases hrow.2 with ⟨_, hn0⟩ | ⟨g, cap, cur, rfl, hbg, hg, hnc, hcm, hcs, htake⟩
  · omega
  have hgl := hlt g rfl
  have hgs := (Array.getElem?_eq_some_iff.1 hg).1
  have hba : Below w0.heap.size w0 (w0.alloc (.cells #[.int .i64 y] 3)) := (Below.refl _ _).alloc (Nat.le_refl _) _
  have hgA : (w0.alloc (.cells #[.int .i64 y] 3)).heap[g]? = some (.cells cur 3 (0, 0)) := (hba.block g hgs).trans hg
  have hold : ∀ j, j < xs.length → (w0.alloc (.cells #[.int .i64 y] 3)).cell? ⟨g, j, none⟩ = (ints xs)[j]? := by
    intro j hj
    rw [cell_of_row _ g j cur 3 (0, 0) hgA, ← htake, List.getElem?_take, if_pos (by omega)]
    simp
  have hcur : cur.size = cap := by simpa using hcs
  refine wpList_append_arg (w0.alloc (.cells #[.int .i64 y] 3)) hgd s x 24 ho 3 i (.int .i64 0) 1 8 Tryz.underlying24 hi0 hz hsize hb (by decide) (by decide) g 0 xs.length cap (ints xs) hs (by omega) ?_ ⟨w0.heap.size, 0, none⟩ 1 1 [.int .i64 y] hx rfl ?_ (by intro u hu; simp at hu; subst hu; rfl) ?_ (by unfold maxLen; omega) (by omega) ?_ ?_
  · intro j u hj
    rw [Nat.zero_add, hold j (by rw [← hlen]; exact (List.getElem?_eq_some_iff.1 hj).1)]
    exact hj
  · intro j u hj
    match j, hj with
    | 0, hj =>
      simp at hj
      subst hj
      rw [show (⟨w0.heap.size, 0, none⟩ : Addr).add 0 = ⟨w0.heap.size, 0, none⟩ from rfl, cell_of_row _ w0.heap.size 0 #[.int .i64 y] 3 (0, 0) (show Blk w0.heap.size _ _ from Blk.new w0 _)]
      rfl
  · intro hroom j hj
    simp at hj
    subst hj
    have hc : xs.length < cur.size := by omega
    refine ⟨?_, ?_⟩
    · rw [cell_of_row _ g _ cur 3 (0, 0) hgA]
      simp [hc]
    · simp [World.frozen?, hgA]
  · intro hroom
    have hc : xs.length < cur.size := by omega
    have hin := World.cell?_setCells_in g [.int .i64 y] (0 + xs.length * 1) (w0.alloc (.cells #[.int .i64 y] 3)) (by
      intro j hj
      simp at hj
      subst hj
      rw [cell_of_row _ g _ cur 3 (0, 0) hgA]
      simp [hc]) 0 (by simp)
    have hsz : ((w0.alloc (.cells #[.int .i64 y] 3)).setCells g (0 + xs.length * 1) [.int .i64 y]).heap.size = w0.heap.size + 1 := by simp [World.setCells]
    have hout : ∀ j, j < xs.length → ((w0.alloc (.cells #[.int .i64 y] 3)).setCells g (0 + xs.length * 1) [.int .i64 y]).cell? ⟨g, j, none⟩ = (ints xs)[j]? := by
      intro j hj
      rw [World.cell?_setCells_out g _ _ _ _ (fun _ _ => .inl (by simp; omega))]
      exact hold j hj
    refine h _ _ ?_ ?_ ?_
    · refine ⟨_, cap, by simp, by simp; omega, hcm, by simp [ints], (by intro h; cases h), fun j hj => ⟨g, 0, rfl, hbg, by omega, by omega, ?_⟩⟩
      rw [ints_length] at hj
      simp only [List.length_append, List.length_singleton] at hj
      rw [show (0 + j) = j from Nat.zero_add j]
      by_cases hj2 : j < xs.length
      · rw [hout j hj2, ints_append, List.getElem?_append_left (by rw [hlen]; exact hj2)]
      · obtain rfl : j = xs.length := by omega
        have h2 := hin
        simp only [Nat.zero_add, Nat.mul_one, Nat.add_zero] at h2 ⊢
        rw [h2, ints_append, List.getElem?_append_right (by rw [hlen]; exact Nat.le_refl _)]
        simp [ints]
    · refine ⟨_, cap, rfl, hnc, hcm, by simp [ints], (by intro h; cases h), fun j hj => ⟨g, 0, rfl, hbg, by omega, by omega, ?_⟩⟩
      rw [ints_length] at hj
      rw [show (0 + j) = j from Nat.zero_add j]
      exact hout j hj
    · have h1 : Outside lo hi w0 (w0.alloc (.cells #[.int .i64 y] 3)) := Outside.of_below ((Below.refl _ _).alloc (Nat.le_refl _) _) (Nat.le_refl _)
      exact h1.setCell (p := ⟨g, _, none⟩) hbg hgl _
  · intro hgrow v' w' hrow' hgr
    have hOwn : Own 1 lo w'.heap.size 3 w' v' (xs.length + 1) (ints xs ++ [.int .i64 y]) := by
      refine Own.wide2 (Own.of_row hrow') ?_ (Nat.le_refl _)
      simp
      omega
    refine h _ _ ?_ ?_ ?_
    · have h2 := hOwn.sl
      have e1 : (xs ++ [y]).length = xs.length + 1 := by simp
      have e2 : ints (xs ++ [y]) = ints xs ++ [.int .i64 y] := by simp [ints]
      unfold SlI
      rw [e1, e2]
      exact h2
    · refine ⟨_, cap, rfl, hnc, hcm, by simp [ints], (by intro h; cases h), fun j hj => ⟨g, 0, rfl, hbg, ?_, ?_, ?_⟩⟩
      · have := hgr.size
        simp at this
        omega
      · have := hgr.size
        simp at this
        omega
      · rw [ints_length] at hj
        rw [show (0 + j) = j from Nat.zero_add j, World.cell?_of_block (hgr.block g (by simp; omega) (by simp))]
        exact hold j hj
    · have h1 : Outside lo hi w0 (w0.alloc (.cells #[.int .i64 y] 3)) := Outside.of_below ((Below.refl _ _).alloc (Nat.le_refl _) _) (Nat.le_refl _)
      exact h1.trans (grown_outside hgr (fun k hk => by cases hk))
end
end Go.Proofs.YtagjpecibpejmaaGreatDoor
