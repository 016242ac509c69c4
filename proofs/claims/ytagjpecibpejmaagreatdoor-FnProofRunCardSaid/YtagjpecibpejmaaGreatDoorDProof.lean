/-
  Texts of walks and plain lemmas for this seat; no condition.
-/
import Derived.Test.YtagjpecibpejmaaGreatDoorDFit
import Derived.Test.YtagjpecibpejmaaGreatDoorGG
import Derived.Test.YtagjpecibpejmaaGreatDoorGJ
import Derived.Test.YtagjpecibpejmaaGreatDoorAppAt
namespace Go.Proofs.YtagjpecibpejmaaGreatDoor
open Go.RowKit

theorem moveV_len40 (xs : List Int) (m : Mv) : ((moveV xs m).getD []).length ≤ 40 := by
  cases h : moveV xs m with
  | none => simp
  | some x => exact (kat_len (moveV_kat' h)).2
theorem OwnM.lower {lo lo' hi hi' e : Nat} {w : World} {v : Value} {l : List Mv} (h : OwnM lo hi e w v l) (h1 : lo' ≤ lo) (h2 : hi ≤ hi') : OwnM lo' hi' e w v l := Own.wide2 h h1 h2

set_option maxRecDepth 100000 in
set_option maxHeartbeats 12800000 in
theorem l20Proof_any (g c : Nat) (w : World) (h : Rd g w c) (hc : c ≤ 100000) :
    Calls Tryz.prog 57 #[.pointer (some ⟨g, 0, none⟩)] w (RetVV fun ve vm w' => ∃ (es : List Int) (ms : List Mv), SlI w.heap.size w'.heap.size w' ve es ∧ SlM w.heap.size w'.heap.size w' vm ms ∧ es.length ≤ 44 ∧ ms.length ≤ 61 ∧ Outside g (g + 1) w w' ∧ Rd g w' (c + 3000)) := by
  have hg := h.lt
  have HR := Lib.hid h
  have HO := Lib.hid (Outside.refl g (g + 1) w)
  clear h
  go_enter Tryz.func57, Tryz.ntmps57
  go_wp2_with fail
  refine (l20Bound_any g _ 14 _ HR.out (by omega) (by omega)).mono ?_
  rintro e w1 ⟨ve, rfl, es, oe, le, h_, r_⟩
  have hs1 := h_.size
  replace HO := Lib.hid (HO.out.trans h_)
  replace HR := Lib.hid r_
  clear h_ r_
  have OE := Lib.hid oe
  obtain ⟨ea, ec, rfl, _, _⟩ := Sl.shape oe
  clear oe
  go_wp2_with fail
  obtain ⟨w2, hw_⟩ : ∃ w_, w_ = w1.alloc (.cells #[] 43) := ⟨_, rfl⟩
  obtain ⟨h_, K_, hs2⟩ := box_facts2 hw_
  have OM : Hid (OwnM w1.heap.size w2.heap.size 43 w2 (.slice (some ⟨w1.heap.size, 0, none⟩) 0 0) []) := Lib.hid (by rw [hw_]; exact Own.wide (Own.lit 3 43 w1 [] 0 (by omega) rfl) (by simp))
  simp only [← hw_]
  clear hw_
  replace OE := Lib.hid (OE.out.below h_ (by omega)); replace HO := Lib.hid (HO.out.below h_ (by omega)); replace HR := Lib.hid (HR.out.below h_ (by omega))
  clear h_ K_
  skip
  refine (pick_any g _ _ _ HR.out (by omega)).mono ?_
  rintro e w3 ⟨k, rfl, i_, h_, r_⟩
  obtain ⟨i1_k, i2_k⟩ := i_.lt (by omega)
  clear i_
  have hs3 := h_.size
  replace OE := Lib.hid (OE.out.outside h_ (.inr (by omega))); replace OM := Lib.hid (OM.out.outside h_ (.inr (by omega)))
  replace HO := Lib.hid (HO.out.trans h_)
  replace HR := Lib.hid r_
  clear h_ r_
  obtain ⟨y, rfl⟩ : ∃ y : Nat, k = y := ⟨k.toNat, by omega⟩
  have hy6 : y ≤ 6 := by omega
  go_wp2
  go_loopw [5, 6, 7] (fun vm vn i wr => ∃ (j : Nat) (ms : List Mv) (x : List Int) (l2 h2 la lb : Nat), j ≤ 6 ∧ i = .int .i64 j ∧ ms.length + j ≤ 6 ∧ x.length ≤ 44 ∧ Hid (OwnM la lb 43 wr vm ms ∧ SlI l2 h2 wr vn x ∧ w.heap.size ≤ l2 ∧ h2 ≤ wr.heap.size ∧ SlI w.heap.size w1.heap.size wr (.slice ea es.length ec) es ∧ Outside g (g + 1) w wr ∧ Rd g wr (c + 2010 + 110 * (6 - j)) ∧ w1.heap.size ≤ la ∧ la ≤ wr.heap.size ∧ lb ≤ wr.heap.size ∧ (h2 ≤ la ∨ lb ≤ l2) ∧ w1.heap.size ≤ wr.heap.size)) (fun _ _ i _ => (intOf i).toNat)
  case atStart => exact ⟨y, [], es, _, _, _, _, hy6, rfl, by simpa using hy6, by omega, Lib.hid ⟨OM.out, OE.out, by omega, by omega, OE.out, HO.out, HR.out.mono (by omega), by omega, by omega, by omega, .inl (by omega), by omega⟩⟩
  case round =>
    clear OM OE HO HR
    obtain ⟨j, ms, x, l2, h2, la, lb, hj, rfl, hml, hxl, HQ⟩ := hrel
    have OM := Lib.hid HQ.out.1
    have OX := Lib.hid HQ.out.2.1
    have hl2 := HQ.out.2.2.1
    have hh2 := HQ.out.2.2.2.1
    have OE := Lib.hid HQ.out.2.2.2.2.1
    have HO := Lib.hid HQ.out.2.2.2.2.2.1
    have HR := Lib.hid HQ.out.2.2.2.2.2.2.1
    obtain ⟨hla, hla2, hlb, hdis, hw1r⟩ := HQ.out.2.2.2.2.2.2.2
    clear HQ
    have hsr := HO.out.size
    obtain ⟨xa, xc, rfl, _, _⟩ := Sl.shape OX.out
    obtain ⟨pa, pc, rfl, _⟩ := Own.open OM.out
    by_cases hj0 : 0 < j
    · skip
      cases hk : katV x
      · skip
        go_wp2_with (go_at_call 24; refine (spec_KatValid _ _ _ x _ OX.out (by omega)).mono ?_; rintro e w' ⟨rfl, rfl⟩)
        refine (odd2_any g _ _ _ HR.out (by omega) (by omega)).mono ?_
        rintro e w4 ⟨b1, rfl, i_b1, h_, r_⟩
        have hs4 := h_.size
        replace OM := Lib.hid (OM.out.outside h_ (.inr (by omega))); replace OX := Lib.hid (OX.out.outside h_ (.inr (by omega))); replace OE := Lib.hid (OE.out.outside h_ (.inr (by omega)))
        replace HO := Lib.hid (HO.out.trans h_)
        replace HR := Lib.hid r_
        clear h_ r_
        cases b1
        · skip
          go_wp2_with fail
          refine (odd2_any g _ _ _ HR.out (by omega) (by omega)).mono ?_
          rintro e w5 ⟨b2, rfl, i_b2, h_, r_⟩
          have hs5 := h_.size
          replace OM := Lib.hid (OM.out.outside h_ (.inr (by omega))); replace OX := Lib.hid (OX.out.outside h_ (.inr (by omega))); replace OE := Lib.hid (OE.out.outside h_ (.inr (by omega)))
          replace HO := Lib.hid (HO.out.trans h_)
          replace HR := Lib.hid r_
          clear h_ r_
          cases b2
          · skip
            go_wp2
            go_ret2
            exact ⟨_, _, rfl, es, ms, OE.out.wide (by omega) (by omega), (OM.out.sl).wide (by omega) (by omega), by omega, by omega, HO.out, HR.out.mono (by omega)⟩
          · skip
            obtain ⟨i0, hi', hz0, hz1, hz2⟩ := info_parts info_mv
            go_wp2_with ((at_make; refine wpList_make_full _ rfl _ _ 32 rfl w5.heap.size 43 i0 (.agg #[.int .i64 0, .bool false, .int .i64 0]) 3 Tryz.underlying32 hi' hz0 hz1 .i64 .i64 61 61 61 rfl rfl rfl rfl ?c1 ?c2 ?c3 ?c4))
            case c1 => rw [hz2]; omega
            case c2 => simp [maxLen]
            case c3 => exact Nat.le_refl _
            case c4 =>
              intro w6 hown hg_
              have h_ : Below w5.heap.size w5 w6 := (Below.refl _ _).grown hg_ (Nat.le_refl _) (by simp)
              rw [show madeCells #[.int .i64 0, .bool false, .int .i64 0] 183 = madeCells #[.int .i64 0, .bool false, .int .i64 0] (61 * 3) from rfl, made_mvs] at hown
              have OK : Hid (OwnM w5.heap.size w6.heap.size 43 w6 (.slice (some ⟨w5.heap.size, 0, none⟩) 61 61) (List.replicate 61 mv0)) := Lib.hid (Own.of_row (by simpa using hown))
              have hl61 : (List.replicate 61 mv0).length ≤ 61 := by simp
              generalize List.replicate 61 mv0 = zs at OK hl61
              have hs6 := h_.size
              replace OM := Lib.hid (OM.out.below h_ (by omega)); replace OX := Lib.hid (OX.out.below h_ (by omega)); replace OE := Lib.hid (OE.out.below h_ (by omega)); replace HO := Lib.hid (HO.out.below h_ (by omega)); replace HR := Lib.hid (HR.out.below h_ (by omega))
              clear h_ hown hg_ hi' hz0 hz1 hz2
              go_wp2
              go_ret2
              exact ⟨_, _, rfl, es, zs, OE.out.wide (by omega) (by omega), (OK.out.sl).wide (by omega) (by omega), by omega, by omega, HO.out, HR.out.mono (by omega)⟩
        · skip
          go_wp2_with fail
          refine (pick_any g _ _ _ HR.out (by omega)).mono ?_
          rintro e w5 ⟨r1, rfl, i_, h_, r_⟩
          obtain ⟨i1_r1, i2_r1⟩ := i_.lt (by omega)
          clear i_
          have hs5 := h_.size
          replace OM := Lib.hid (OM.out.outside h_ (.inr (by omega))); replace OX := Lib.hid (OX.out.outside h_ (.inr (by omega))); replace OE := Lib.hid (OE.out.outside h_ (.inr (by omega)))
          replace HO := Lib.hid (HO.out.trans h_)
          replace HR := Lib.hid r_
          clear h_ r_
          go_wp2_with fail
          refine (pick_any g _ _ _ HR.out (by omega)).mono ?_
          rintro e w6 ⟨r2, rfl, i_, h_, r_⟩
          obtain ⟨i1_r2, i2_r2⟩ := i_.lt (by omega)
          clear i_
          have hs6 := h_.size
          replace OM := Lib.hid (OM.out.outside h_ (.inr (by omega))); replace OX := Lib.hid (OX.out.outside h_ (.inr (by omega))); replace OE := Lib.hid (OE.out.outside h_ (.inr (by omega)))
          replace HO := Lib.hid (HO.out.trans h_)
          replace HR := Lib.hid r_
          clear h_ r_
          have hown := OM.out
          go_wp2_with (at_builtin; go_loud (refine wpList_app_lit2 w6 rfl _ _ 32 rfl 43 (.agg #[.int .i64 0, .bool false, .int .i64 0]) 3 24 Tryz.underlying32 info_mv rfl (by decide) (by decide) rfl hown 1 (encMv (⟨r1, false, r2⟩ : Mv)) rfl rfl (encMv_one (⟨r1, false, r2⟩ : Mv)) rfl (by omega) (by omega) ?_))
          intro v_ w7 la2 lb2 o_ hr_ h_
          have hs7 := h_.size
          replace OX := Lib.hid (OX.out.outside h_ (by omega)); replace OE := Lib.hid (OE.out.outside h_ (by omega))
          replace HO := Lib.hid (HO.out.fresh h_ (by omega))
          replace HR := Lib.hid (HR.out.outside h_ (by omega))
          have ON : Hid (OwnM la2 lb2 43 w7 v_ (ms ++ [(⟨r1, false, r2⟩ : Mv)])) := Lib.hid (by unfold OwnM; rw [List.length_append, mvs_append]; exact o_)
          have lm_ : (ms ++ [(⟨r1, false, r2⟩ : Mv)]).length ≤ ms.length + 1 := by simp
          obtain ⟨am_, cm_, rfl, _⟩ := Own.open o_
          clear hown o_ h_ OM
          generalize ms ++ [(⟨r1, false, r2⟩ : Mv)] = ns at ON lm_
          go_wp2_with fail
          refine (odd2_any g _ _ _ HR.out (by omega) (by omega)).mono ?_
          rintro e w8 ⟨b2, rfl, i_b2, h_, r_⟩
          have hs8 := h_.size
          replace OX := Lib.hid (OX.out.outside h_ (.inr (by omega))); replace OE := Lib.hid (OE.out.outside h_ (.inr (by omega))); replace ON := Lib.hid (ON.out.outside h_ (.inr (by omega)))
          replace HO := Lib.hid (HO.out.trans h_)
          replace HR := Lib.hid r_
          clear h_ r_
          cases b2
          · skip
            go_wp2
            go_ret2
            exact ⟨_, _, rfl, es, ns, OE.out.wide (by omega) (by omega), (ON.out.sl).wide (by omega) (by omega), by omega, by omega, HO.out, HR.out.mono (by omega)⟩
          · skip
            obtain ⟨i0, hi', hz0, hz1, hz2⟩ := info_parts info_mv
            go_wp2_with ((at_make; refine wpList_make_full _ rfl _ _ 32 rfl w8.heap.size 43 i0 (.agg #[.int .i64 0, .bool false, .int .i64 0]) 3 Tryz.underlying32 hi' hz0 hz1 .i64 .i64 61 61 61 rfl rfl rfl rfl ?c1 ?c2 ?c3 ?c4))
            case c1 => rw [hz2]; omega
            case c2 => simp [maxLen]
            case c3 => exact Nat.le_refl _
            case c4 =>
              intro w9 hown hg_
              have h_ : Below w8.heap.size w8 w9 := (Below.refl _ _).grown hg_ (Nat.le_refl _) (by simp)
              rw [show madeCells #[.int .i64 0, .bool false, .int .i64 0] 183 = madeCells #[.int .i64 0, .bool false, .int .i64 0] (61 * 3) from rfl, made_mvs] at hown
              have OK : Hid (OwnM w8.heap.size w9.heap.size 43 w9 (.slice (some ⟨w8.heap.size, 0, none⟩) 61 61) (List.replicate 61 mv0)) := Lib.hid (Own.of_row (by simpa using hown))
              have hl61 : (List.replicate 61 mv0).length ≤ 61 := by simp
              generalize List.replicate 61 mv0 = zs at OK hl61
              have hs9 := h_.size
              replace OX := Lib.hid (OX.out.below h_ (by omega)); replace OE := Lib.hid (OE.out.below h_ (by omega)); replace ON := Lib.hid (ON.out.below h_ (by omega)); replace HO := Lib.hid (HO.out.below h_ (by omega)); replace HR := Lib.hid (HR.out.below h_ (by omega))
              clear h_ hown hg_ hi' hz0 hz1 hz2
              go_wp2
              go_ret2
              exact ⟨_, _, rfl, es, zs, OE.out.wide (by omega) (by omega), (OK.out.sl).wide (by omega) (by omega), by omega, by omega, HO.out, HR.out.mono (by omega)⟩
      · skip
        go_wp2_with (go_at_call 24; refine (spec_KatValid _ _ _ x _ OX.out (by omega)).mono ?_; rintro e w' ⟨rfl, rfl⟩)
        refine (l20Fit_any g _ _ _ _ x _ HR.out (by omega) OX.out (by omega) (by omega) (by omega)).mono ?_
        rintro e w4 ⟨m, rfl, h_, r_⟩
        have hs4 := h_.size
        replace OM := Lib.hid (OM.out.outside h_ (.inr (by omega))); replace OX := Lib.hid (OX.out.outside h_ (.inr (by omega))); replace OE := Lib.hid (OE.out.outside h_ (.inr (by omega)))
        replace HO := Lib.hid (HO.out.trans h_)
        replace HR := Lib.hid r_
        clear h_ r_
        clear hk
        go_wp2_with fail
        obtain ⟨w5, hw_⟩ : ∃ w_, w_ = w4.alloc (.cells #[.int .i64 m.which, .bool m.back, .int .i64 m.at_] 43) := ⟨_, rfl⟩
        obtain ⟨h_, K_, hs5⟩ := box_facts2 hw_
        simp only [← hw_]
        clear hw_
        replace OM := Lib.hid (OM.out.below h_ (by omega)); replace OX := Lib.hid (OX.out.below h_ (by omega)); replace OE := Lib.hid (OE.out.below h_ (by omega)); replace HO := Lib.hid (HO.out.below h_ (by omega)); replace HR := Lib.hid (HR.out.below h_ (by omega))
        have KM := Lib.hid K_
        clear h_ K_
        refine (spec_MoveDo _ x m w5 (SlI.rd OX.out (by omega)) (by omega)).mono ?_
        rintro e4 w6 ⟨v4, ok, rfl, h_, hok, o_⟩
        have lv4 : ((moveV x m).getD []).length ≤ 40 := moveV_len40 x m
        generalize (moveV x m).getD [] = x4 at o_ lv4
        have hs6 := h_.size
        replace OM := Lib.hid (OM.out.below h_ (by omega)); replace OX := Lib.hid (OX.out.below h_ (by omega)); replace OE := Lib.hid (OE.out.below h_ (by omega)); replace KM := Lib.hid (KM.out.below h_ (by omega)); replace HO := Lib.hid (HO.out.below h_ (by omega)); replace HR := Lib.hid (HR.out.below h_ (by omega))
        have O4 := Lib.hid o_
        obtain ⟨a4, c4, rfl, _⟩ := Own.open o_
        clear h_ o_ hok
        cases ok
        · go_wp2
          go_roundw
          case rel => exact ⟨j - 1, ms, x, l2, h2, la, lb, by omega, by go_num, by omega, hxl, Lib.hid ⟨OM.out, OX.out, by omega, by omega, OE.out, HO.out, HR.out.mono (by omega), by omega, by omega, by omega, hdis, by omega⟩⟩
          case measure => simp [intOf]; omega
        · skip
          have m0 := KM.out.cell 0
          have m1 := KM.out.cell 1
          have m2 := KM.out.cell 2
          have hown := OM.out
          go_wp2_with (at_builtin; go_loud (refine wpList_app_lit2 w6 rfl _ _ 32 rfl 43 (.agg #[.int .i64 0, .bool false, .int .i64 0]) 3 24 Tryz.underlying32 info_mv rfl (by decide) (by decide) rfl hown 1 (encMv m) rfl rfl (encMv_one m) rfl (by omega) (by omega) ?_))
          intro v_ w7 la2 lb2 o_ hr_ h_
          have hs7 := h_.size
          replace OX := Lib.hid (OX.out.outside h_ (by omega)); replace OE := Lib.hid (OE.out.outside h_ (by omega)); replace KM := Lib.hid (KM.out.outside h_ (by omega)); replace O4 := Lib.hid (O4.out.outside h_ (by omega))
          replace HO := Lib.hid (HO.out.fresh h_ (by omega))
          replace HR := Lib.hid (HR.out.outside h_ (by omega))
          have ON : Hid (OwnM la2 lb2 43 w7 v_ (ms ++ [m])) := Lib.hid (by unfold OwnM; rw [List.length_append, mvs_append]; exact o_)
          have lm_ : (ms ++ [m]).length ≤ ms.length + 1 := by simp
          obtain ⟨am_, cm_, rfl, _⟩ := Own.open o_
          clear hown o_ h_ OM m0 m1 m2
          go_wp2
          go_roundw
          case rel => exact ⟨j - 1, ms ++ [m], x4, _, _, la2, lb2, by omega, by go_num, by omega, by omega, Lib.hid ⟨ON.out, O4.out.sl, by omega, by omega, OE.out, HO.out, HR.out.mono (by omega), by omega, by omega, by omega, by omega, by omega⟩⟩
          case measure => simp [intOf]; omega
    · skip
      go_wp2_with fail
      refine (odd2_any g _ _ _ HR.out (by omega) (by omega)).mono ?_
      rintro e w4 ⟨b1, rfl, i_b1, h_, r_⟩
      have hs4 := h_.size
      replace OM := Lib.hid (OM.out.outside h_ (.inr (by omega))); replace OX := Lib.hid (OX.out.outside h_ (.inr (by omega))); replace OE := Lib.hid (OE.out.outside h_ (.inr (by omega)))
      replace HO := Lib.hid (HO.out.trans h_)
      replace HR := Lib.hid r_
      clear h_ r_
      cases b1
      · skip
        go_wp2_with fail
        refine (odd2_any g _ _ _ HR.out (by omega) (by omega)).mono ?_
        rintro e w5 ⟨b2, rfl, i_b2, h_, r_⟩
        have hs5 := h_.size
        replace OM := Lib.hid (OM.out.outside h_ (.inr (by omega))); replace OX := Lib.hid (OX.out.outside h_ (.inr (by omega))); replace OE := Lib.hid (OE.out.outside h_ (.inr (by omega)))
        replace HO := Lib.hid (HO.out.trans h_)
        replace HR := Lib.hid r_
        clear h_ r_
        cases b2
        · skip
          go_wp2
          go_ret2
          exact ⟨_, _, rfl, es, ms, OE.out.wide (by omega) (by omega), (OM.out.sl).wide (by omega) (by omega), by omega, by omega, HO.out, HR.out.mono (by omega)⟩
        · skip
          obtain ⟨i0, hi', hz0, hz1, hz2⟩ := info_parts info_mv
          go_wp2_with ((at_make; refine wpList_make_full _ rfl _ _ 32 rfl w5.heap.size 43 i0 (.agg #[.int .i64 0, .bool false, .int .i64 0]) 3 Tryz.underlying32 hi' hz0 hz1 .i64 .i64 61 61 61 rfl rfl rfl rfl ?c1 ?c2 ?c3 ?c4))
          case c1 => rw [hz2]; omega
          case c2 => simp [maxLen]
          case c3 => exact Nat.le_refl _
          case c4 =>
            intro w6 hown hg_
            have h_ : Below w5.heap.size w5 w6 := (Below.refl _ _).grown hg_ (Nat.le_refl _) (by simp)
            rw [show madeCells #[.int .i64 0, .bool false, .int .i64 0] 183 = madeCells #[.int .i64 0, .bool false, .int .i64 0] (61 * 3) from rfl, made_mvs] at hown
            have OK : Hid (OwnM w5.heap.size w6.heap.size 43 w6 (.slice (some ⟨w5.heap.size, 0, none⟩) 61 61) (List.replicate 61 mv0)) := Lib.hid (Own.of_row (by simpa using hown))
            have hl61 : (List.replicate 61 mv0).length ≤ 61 := by simp
            generalize List.replicate 61 mv0 = zs at OK hl61
            have hs6 := h_.size
            replace OM := Lib.hid (OM.out.below h_ (by omega)); replace OX := Lib.hid (OX.out.below h_ (by omega)); replace OE := Lib.hid (OE.out.below h_ (by omega)); replace HO := Lib.hid (HO.out.below h_ (by omega)); replace HR := Lib.hid (HR.out.below h_ (by omega))
            clear h_ hown hg_ hi' hz0 hz1 hz2
            go_wp2
            go_ret2
            exact ⟨_, _, rfl, es, zs, OE.out.wide (by omega) (by omega), (OK.out.sl).wide (by omega) (by omega), by omega, by omega, HO.out, HR.out.mono (by omega)⟩
      · skip
        go_wp2_with fail
        refine (pick_any g _ _ _ HR.out (by omega)).mono ?_
        rintro e w5 ⟨r1, rfl, i_, h_, r_⟩
        obtain ⟨i1_r1, i2_r1⟩ := i_.lt (by omega)
        clear i_
        have hs5 := h_.size
        replace OM := Lib.hid (OM.out.outside h_ (.inr (by omega))); replace OX := Lib.hid (OX.out.outside h_ (.inr (by omega))); replace OE := Lib.hid (OE.out.outside h_ (.inr (by omega)))
        replace HO := Lib.hid (HO.out.trans h_)
        replace HR := Lib.hid r_
        clear h_ r_
        go_wp2_with fail
        refine (pick_any g _ _ _ HR.out (by omega)).mono ?_
        rintro e w6 ⟨r2, rfl, i_, h_, r_⟩
        obtain ⟨i1_r2, i2_r2⟩ := i_.lt (by omega)
        clear i_
        have hs6 := h_.size
        replace OM := Lib.hid (OM.out.outside h_ (.inr (by omega))); replace OX := Lib.hid (OX.out.outside h_ (.inr (by omega))); replace OE := Lib.hid (OE.out.outside h_ (.inr (by omega)))
        replace HO := Lib.hid (HO.out.trans h_)
        replace HR := Lib.hid r_
        clear h_ r_
        have hown := OM.out
        go_wp2_with (at_builtin; go_loud (refine wpList_app_lit2 w6 rfl _ _ 32 rfl 43 (.agg #[.int .i64 0, .bool false, .int .i64 0]) 3 24 Tryz.underlying32 info_mv rfl (by decide) (by decide) rfl hown 1 (encMv (⟨r1, false, r2⟩ : Mv)) rfl rfl (encMv_one (⟨r1, false, r2⟩ : Mv)) rfl (by omega) (by omega) ?_))
        intro v_ w7 la2 lb2 o_ hr_ h_
        have hs7 := h_.size
        replace OX := Lib.hid (OX.out.outside h_ (by omega)); replace OE := Lib.hid (OE.out.outside h_ (by omega))
        replace HO := Lib.hid (HO.out.fresh h_ (by omega))
        replace HR := Lib.hid (HR.out.outside h_ (by omega))
        have ON : Hid (OwnM la2 lb2 43 w7 v_ (ms ++ [(⟨r1, false, r2⟩ : Mv)])) := Lib.hid (by unfold OwnM; rw [List.length_append, mvs_append]; exact o_)
        have lm_ : (ms ++ [(⟨r1, false, r2⟩ : Mv)]).length ≤ ms.length + 1 := by simp
        obtain ⟨am_, cm_, rfl, _⟩ := Own.open o_
        clear hown o_ h_ OM
        generalize ms ++ [(⟨r1, false, r2⟩ : Mv)] = ns at ON lm_
        go_wp2_with fail
        refine (odd2_any g _ _ _ HR.out (by omega) (by omega)).mono ?_
        rintro e w8 ⟨b2, rfl, i_b2, h_, r_⟩
        have hs8 := h_.size
        replace OX := Lib.hid (OX.out.outside h_ (.inr (by omega))); replace OE := Lib.hid (OE.out.outside h_ (.inr (by omega))); replace ON := Lib.hid (ON.out.outside h_ (.inr (by omega)))
        replace HO := Lib.hid (HO.out.trans h_)
        replace HR := Lib.hid r_
        clear h_ r_
        cases b2
        · skip
          go_wp2
          go_ret2
          exact ⟨_, _, rfl, es, ns, OE.out.wide (by omega) (by omega), (ON.out.sl).wide (by omega) (by omega), by omega, by omega, HO.out, HR.out.mono (by omega)⟩
        · skip
          obtain ⟨i0, hi', hz0, hz1, hz2⟩ := info_parts info_mv
          go_wp2_with ((at_make; refine wpList_make_full _ rfl _ _ 32 rfl w8.heap.size 43 i0 (.agg #[.int .i64 0, .bool false, .int .i64 0]) 3 Tryz.underlying32 hi' hz0 hz1 .i64 .i64 61 61 61 rfl rfl rfl rfl ?c1 ?c2 ?c3 ?c4))
          case c1 => rw [hz2]; omega
          case c2 => simp [maxLen]
          case c3 => exact Nat.le_refl _
          case c4 =>
            intro w9 hown hg_
            have h_ : Below w8.heap.size w8 w9 := (Below.refl _ _).grown hg_ (Nat.le_refl _) (by simp)
            rw [show madeCells #[.int .i64 0, .bool false, .int .i64 0] 183 = madeCells #[.int .i64 0, .bool false, .int .i64 0] (61 * 3) from rfl, made_mvs] at hown
            have OK : Hid (OwnM w8.heap.size w9.heap.size 43 w9 (.slice (some ⟨w8.heap.size, 0, none⟩) 61 61) (List.replicate 61 mv0)) := Lib.hid (Own.of_row (by simpa using hown))
            have hl61 : (List.replicate 61 mv0).length ≤ 61 := by simp
            generalize List.replicate 61 mv0 = zs at OK hl61
            have hs9 := h_.size
            replace OX := Lib.hid (OX.out.below h_ (by omega)); replace OE := Lib.hid (OE.out.below h_ (by omega)); replace ON := Lib.hid (ON.out.below h_ (by omega)); replace HO := Lib.hid (HO.out.below h_ (by omega)); replace HR := Lib.hid (HR.out.below h_ (by omega))
            clear h_ hown hg_ hi' hz0 hz1 hz2
            go_wp2
            go_ret2
            exact ⟨_, _, rfl, es, zs, OE.out.wide (by omega) (by omega), (OK.out.sl).wide (by omega) (by omega), by omega, by omega, HO.out, HR.out.mono (by omega)⟩
end Go.Proofs.YtagjpecibpejmaaGreatDoor
