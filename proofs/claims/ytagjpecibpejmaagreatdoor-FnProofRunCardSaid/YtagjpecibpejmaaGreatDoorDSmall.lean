/-
  Texts of walks and plain lemmas for this seat; no condition.
-/
import Derived.Test.YtagjpecibpejmaaGreatDoorDWhile
namespace Go.Proofs.YtagjpecibpejmaaGreatDoor
open Go.RowKit

set_option maxRecDepth 100000 in
set_option maxHeartbeats 1600000 in
theorem l20Prog_any (g c : Nat) (n : Int) (w : World) (h : Rd g w c) (hc : c ≤ 50000000) (hn : n ≤ 1000) :
    Calls Tryz.prog 147 #[.pointer (some ⟨g, 0, none⟩), .int .i64 3, .int .i64 n] w (RetV fun v w' => DrawnI g (c + 500) w v w' 44) := by
  have hg := h.lt
  have HR := Lib.hid h
  have HO := Lib.hid (Outside.refl g (g + 1) w)
  clear h
  go_enter Tryz.func147, Tryz.ntmps147
  go_wp2_with fail
  refine (pick_any g _ _ _ HR.out (by omega)).mono ?_
  rintro e w1 ⟨q, rfl, i_, h_, r_⟩
  obtain ⟨i1_q, i2_q⟩ := i_.lt (by omega)
  clear i_
  have hs1 := h_.size
  replace HO := Lib.hid (HO.out.trans h_)
  replace HR := Lib.hid r_
  clear h_ r_
  cases hq : q == 0
  · skip
    go_wp2_with fail
    refine (l20Kat_any g _ 3 n _ HR.out (by omega) (by omega) (by omega) (by omega)).mono ?_
    rintro e w2 ⟨v_OK, rfl, ks, o_, l_ks, h_, r_⟩
    have hs2 := h_.size
    replace HO := Lib.hid (HO.out.trans h_)
    replace HR := Lib.hid r_
    clear h_ r_
    have OK := Lib.hid o_
    clear o_
    obtain ⟨a_OK, c_OK, rfl, _, _⟩ := Sl.shape OK.out.sl
    go_wp2
    go_ret
    exact RetV.mk _ rfl ⟨ks, OK.out.lower (by omega) (by omega), by omega, HO.out, HR.out.mono (by omega)⟩
  · skip
    go_wp2_with fail
    refine (l20While1_any g _ _ HR.out (by omega)).mono ?_
    rintro e w2 ⟨v_OK, rfl, ks, o_, l_ks, h_, r_⟩
    have hs2 := h_.size
    replace HO := Lib.hid (HO.out.trans h_)
    replace HR := Lib.hid r_
    clear h_ r_
    have OK := Lib.hid o_
    clear o_
    obtain ⟨a_OK, c_OK, rfl, _, _⟩ := Sl.shape OK.out.sl
    go_wp2
    go_ret
    exact RetV.mk _ rfl ⟨ks, OK.out.lower (by omega) (by omega), by omega, HO.out, HR.out.mono (by omega)⟩

set_option maxRecDepth 100000 in
set_option maxHeartbeats 1600000 in
theorem l20Small_any (g c : Nat) (n : Int) (w : World) (h : Rd g w c) (hc : c ≤ 40000000) (hn : n ≤ 1000) :
    Calls Tryz.prog 127 #[.pointer (some ⟨g, 0, none⟩), .int .i64 n] w (RetV fun v w' => DrawnI g (c + 500) w v w' 44) := by
  have hg := h.lt
  have HR := Lib.hid h
  have HO := Lib.hid (Outside.refl g (g + 1) w)
  clear h
  go_enter Tryz.func127, Tryz.ntmps127
  go_wp2_with fail
  refine (l20Prog_any g _ n _ HR.out (by omega) hn).mono ?_
  rintro e w1 ⟨v_OK, rfl, ks, o_, l_ks, h_, r_⟩
  have hs1 := h_.size
  replace HO := Lib.hid (HO.out.trans h_)
  replace HR := Lib.hid r_
  clear h_ r_
  have OK := Lib.hid o_
  clear o_
  obtain ⟨a_OK, c_OK, rfl, _, _⟩ := Sl.shape OK.out.sl
  go_wp2_with fail
  refine (spec_KatActs _ _ _ ks _ OK.out.sl (by omega)).mono ?_
  rintro e _ ⟨x, rfl, rfl⟩
  by_cases hx : 4 < x
  · go_wp2
    go_ret
    have h4 : OwnI w1.heap.size (w1.alloc (.cells #[.int .i64 16, .int .i64 17, .int .i64 20, .int .i64 21] 3)).heap.size 3 (w1.alloc (.cells #[.int .i64 16, .int .i64 17, .int .i64 20, .int .i64 21] 3)) (.slice (some ⟨w1.heap.size, 0, none⟩) 4 4) [16, 17, 20, 21] := Own.wide (Own.lit 1 3 w1 (ints [16, 17, 20, 21]) 4 (by omega) rfl) (by simp)
    exact RetV.mk _ rfl ⟨_, h4.lower (by omega) (Nat.le_refl _), by simp, HO.out.below ((Below.refl _ _).alloc (Nat.le_refl _) _) (by omega), (HR.out.alloc _).mono (by omega)⟩
  · skip
    go_wp2
    go_ret
    exact RetV.mk _ rfl ⟨ks, OK.out.lower (by omega) (by omega), by omega, HO.out, HR.out.mono (by omega)⟩
end Go.Proofs.YtagjpecibpejmaaGreatDoor
