/-
  Texts of walks and plain lemmas for this seat; no condition.
-/
import Derived.Test.YtjpndimhegfbnaaGreatDoorApp
import Derived.Test.YtjpndimhegfbnaaGreatDoorT1
import Derived.Test.YtjpndimhegfbnaaGreatDoorBlk
namespace Go.Proofs.YtjpndimhegfbnaaGreatDoor
open Go.RowKit

set_option maxHeartbeats 1600000 in
/-- l2Join: two lists, and a step behind them, in new memory. -/
theorem l2Join_any (lo hi lo' hi' : Nat) (va vb : Value) (xs ys : List Int) (s : Int) (w : World) (hx : SlI lo hi w va xs) (hy : SlI lo' hi' w vb ys) (hh : hi ≤ w.heap.size) (hh' : hi' ≤ w.heap.size)
    (hm : xs.length + ys.length ≤ 4194304) :
    Calls Tryz.prog 101 #[va, vb, .int .i64 s] w (RetV fun v w' => Below w.heap.size w w' ∧ OwnI w.heap.size w'.heap.size 3 w' v (xs ++ ys ++ [s])) := by
  have HX := Lib.hid hx
  have HY := Lib.hid hy
  clear hx hy
  have H0 : Hid (Own 1 w.heap.size (w.heap.size + 1) 3 (w.alloc (.cells (ints []).toArray 3)) (.slice (some ⟨w.heap.size, 0, none⟩) 0 0) 0 (ints [])) := Lib.hid (Own.lit 1 3 w (ints []) 0 (by omega) rfl)
  have hb0 : Hid (Below w.heap.size w (w.alloc (.cells (ints []).toArray 3))) := Lib.hid ((Below.refl _ _).alloc (Nat.le_refl _) _)
  have hs0 : (w.alloc (.cells (ints []).toArray 3)).heap.size = w.heap.size + 1 := by simp
  have KX := Lib.hid (HX.out.below hb0.out hh)
  have KY := Lib.hid (HY.out.below hb0.out hh')
  obtain ⟨w0, hw0⟩ : ∃ w0, w0 = w.alloc (.cells (ints []).toArray 3) := ⟨_, rfl⟩
  rw [← hw0] at H0 hb0 hs0 KX KY
  have HW0 := Lib.hid hw0
  clear hw0
  go_enter Tryz.func101, Tryz.ntmps101
  go_wp2_with (at_builtin; go_loud (rw [show w.alloc (.cells #[] 3) = w0 from HW0.out.symm]; refine wpList_app_sl rfl _ _ 22 rfl 3 (.int .i64 0) 1 8 Tryz.underlying22 info_int rfl (by decide) (by decide) rfl H0.out rfl KX.out (ints_one _) ?c1 ?c2 ?_))
  case c1 => omega
  case c2 => omega
  intro v1 w1 ho1 _ hout1 _
  have hs1 := hout1.size
  have O1 := Lib.hid ho1
  replace KY := Lib.hid (KY.out.outside hout1 (.inl hh'))
  have HB1 := Lib.hid (Below.outside hb0.out hout1 (Nat.le_refl _) hb0.out.size)
  clear ho1 hout1 KX H0 hb0 HW0
  go_wp2_with (at_builtin; refine wpList_app_sl rfl _ _ 22 rfl 3 (.int .i64 0) 1 8 Tryz.underlying22 info_int rfl (by decide) (by decide) rfl O1.out rfl KY.out (ints_one _) ?c1 ?c2 ?_)
  case c1 => omega
  case c2 => omega
  intro v2 w2 ho2 _ hout2 _
  have hs2 := hout2.size
  have O2 := Lib.hid ho2
  have HB2 := Lib.hid (Below.outside HB1.out hout2 (Nat.le_refl _) HB1.out.size)
  clear ho2 hout2 KY O1 HB1
  go_wp2_with (at_builtin; refine wpList_app_lit w2 rfl _ _ 22 rfl 3 (.int .i64 0) 1 8 Tryz.underlying22 info_int rfl (by decide) (by decide) rfl O2.out 1 (ints [s]) rfl rfl (ints_one _) rfl ?c1 ?c2 ?_)
  case c1 => omega
  case c2 => omega
  intro v3 w3 ho3 hout3 _
  have O3 := Lib.hid ho3
  have HB3 := Lib.hid (Below.outside HB2.out hout3 (Nat.le_refl _) HB2.out.size)
  clear ho3 hout3 O2 HB2
  go_wp2
  go_ret
  refine RetV.mk _ rfl ⟨HB3.out, ?_⟩
  have h := O3.out
  have e1 : (xs ++ ys ++ [s]).length = xs.length + ys.length + 1 := by simp; omega
  have e2 : ints (xs ++ ys ++ [s]) = ints [] ++ (ints xs ++ (ints ys ++ ints [s])) := by simp [ints]
  unfold OwnI
  rw [e1, e2]
  exact h
end Go.Proofs.YtjpndimhegfbnaaGreatDoor
