/-
  Texts of walks and plain lemmas for this seat; no condition.
-/
import Derived.Test.YtipbanhelhidnaaGreatDoorGA
import Derived.Test.YtipbanhelhidnaaGreatDoorGL
import Derived.Test.YtipbanhelhidnaaGreatDoorGJ
import Derived.Test.YtipbanhelhidnaaGreatDoorGH
import Derived.Test.YtipbanhelhidnaaGreatDoorRMove
import Derived.Test.YtipbanhelhidnaaGreatDoorRAct
import Derived.Test.YtipbanhelhidnaaGreatDoorGG
import Derived.ArgAppend
import Derived.Maps.AppendAt
namespace Go.Proofs.YtipbanhelhidnaaGreatDoor
open Go.RowKit
section

section
variable {w : World} {ops : Array Oper} {rest : List Oper} {o : Oper} {a : Act} {Q : Exit → Act → World → Prop}
set_option linter.unusedSimpArgs false
/-- append(s, y) where s is read on: both read as they should behind it. -/
theorem wpList_app_keep (w0 : World) (hgd : o.guard = none) (s x : Operand)
    (ho : o.op = .call { callee := .builtin .append, args := #[s, x], argTypes := #[28, 28] })
    {lo hi : Nat} {v : Value} {xs : List Int} (hs : a.eval s = v) (hown : OwnI lo hi 3 w0 v xs) (hpos : 0 < xs.length) (y : Int)
    (hx : a.eval x = .slice (some ⟨w0.heap.size, 0, none⟩) 1 1) (hw : w = w0.alloc (.cells #[.int .i64 y] 3)) (hn : xs.length ≤ 1000000) (hlo : lo ≤ w0.heap.size)
    (h : ∀ v' w', SlI lo w'.heap.size w' v' (xs ++ [y]) → SlI lo w'.heap.size w' v xs → Outside lo hi w0 w' → wpList Tryz.prog ops Q rest (a.put o.dst v') w') : wpList Tryz.prog ops Q (o :: rest) a w := by
  subst hw
  obtain ⟨i, hi0, hz, hsize, hb⟩ := info_parts info_int
  obtain ⟨hrow, hlt⟩ := hown
  have hlen : (ints xs).length = xs.length := ints_length xs
  rcases hrow.2 with ⟨_, hn0⟩ | ⟨g, cap, cur, rfl, hbg, hg, hnc, hcm, hcs, htake⟩
  · omega
  have hgl := hlt g rfl
  have hgs := (Array.getElem?_eq_some_iff.1 hg).1
  have hba : Below w0.heap.size w0 (w0.alloc (.cells #[.int .i64 y] 3)) := (Below.refl _ _).alloc (Nat.le_refl _) _
  have hgA : (w0.alloc (.cells #[.int .i64 y] 3)).heap[g]? = some (.cells cur 3 (0, 0)) := (hba.block g hgs).trans hg
  have hold : ∀ j, j < xs.length → (w0.alloc (.cells #[.int .i64 y] 3)).cell? ⟨g, j, none⟩ = (ints xs)[j]? := by
    intro j hj
    rw [cell_of_row _ g j cur 3 (0, 0) hgA, ← htake, List.getElem?_take, if_pos (by omega)]
    simp
  have hcur : cur.size = cap := by simpa using hcs
  refine wpList_append_arg (w0.alloc (.cells #[.int .i64 y] 3)) hgd s x 28 ho 3 i (.int .i64 0) 1 8 Tryz.underlying28 hi0 hz hsize hb (by decide) (by decide) g 0 xs.length cap (ints xs) hs (by omega) ?_ ⟨w0.heap.size, 0, none⟩ 1 1 [.int .i64 y] hx rfl ?_ (by intro u hu; simp at hu; subst hu; rfl) ?_ (by unfold maxLen; omega) (by omega) ?_ ?_
  · intro j u hj
    rw [Nat.zero_add, hold j (by rw [← hlen]; exact (List.getElem?_eq_some_iff.1 hj).1)]
    exact hj
  · intro j u hj
    match j, hj with
    | 0, hj =>
      simp at hj
      subst hj
      rw [show (⟨w0.heap.size, 0, none⟩ : Addr).add 0 = ⟨w0.heap.size, 0, none⟩ from rfl, cell_of_row _ w0.heap.size 0 #[.int .i64 y] 3 (0, 0) (show Blk w0.heap.size _ _ from Blk.new w0 _)]
      rfl
  · intro hroom j hj
    simp at hj
    subst hj
    have hc : xs.length < cur.size := by omega
    refine ⟨?_, ?_⟩
    · rw [cell_of_row _ g _ cur 3 (0, 0) hgA]
      simp [hc]
    · simp [World.frozen?, hgA]
  · intro hroom
    have hc : xs.length < cur.size := by omega
    have hin := World.cell?_setCells_in g [.int .i64 y] (0 + xs.length * 1) (w0.alloc (.cells #[.int .i64 y] 3)) (by
      intro j hj
      simp at hj
      subst hj
      rw [cell_of_row _ g _ cur 3 (0, 0) hgA]
      simp [hc]) 0 (by simp)
    have hsz : ((w0.alloc (.cells #[.int .i64 y] 3)).setCells g (0 + xs.length * 1) [.int .i64 y]).heap.size = w0.heap.size + 1 := by simp [World.setCells]
    have hout : ∀ j, j < xs.length → ((w0.alloc (.cells #[.int .i64 y] 3)).setCells g (0 + xs.length * 1) [.int .i64 y]).cell? ⟨g, j, none⟩ = (ints xs)[j]? := by
      intro j hj
      rw [World.cell?_setCells_out g _ _ _ _ (fun _ _ => .inl (by simp; omega))]
      exact hold j hj
    refine h _ _ ?_ ?_ ?_
    · refine ⟨_, cap, by simp, by simp; omega, hcm, by simp [ints], (by intro h; cases h), fun j hj => ⟨g, 0, rfl, hbg, by omega, by omega, ?_⟩⟩
      rw [ints_length] at hj
      simp only [List.length_append, List.length_singleton] at hj
      rw [show (0 + j) = j from Nat.zero_add j]
      by_cases hj2 : j < xs.length
      · rw [hout j hj2, ints_append, List.getElem?_append_left (by rw [hlen]; exact hj2)]
      · obtain rfl : j = xs.length := by omega
        have h2 := hin
        simp only [Nat.zero_add, Nat.mul_one, Nat.add_zero] at h2 ⊢
        rw [h2, ints_append, List.getElem?_append_right (by rw [hlen]; exact Nat.le_refl _)]
        simp [ints]
    · refine ⟨_, cap, rfl, hnc, hcm, by simp [ints], (by intro h; cases h), fun j hj => ⟨g, 0, rfl, hbg, by omega, by omega, ?_⟩⟩
      rw [ints_length] at hj
      rw [show (0 + j) = j from Nat.zero_add j]
      exact hout j hj
    · have h1 : Outside lo hi w0 (w0.alloc (.cells #[.int .i64 y] 3)) := Outside.of_below ((Below.refl _ _).alloc (Nat.le_refl _) _) (Nat.le_refl _)
      exact h1.setCell (p := ⟨g, _, none⟩) hbg hgl _
  · intro hgrow v' w' hrow' hgr
    have hOwn : Own 1 lo w'.heap.size 3 w' v' (xs.length + 1) (ints xs ++ [.int .i64 y]) := by
      refine Own.wide2 (Own.of_row hrow') ?_ (Nat.le_refl _)
      simp
      omega
    refine h _ _ ?_ ?_ ?_
    · have h2 := hOwn.sl
      have e1 : (xs ++ [y]).length = xs.length + 1 := by simp
      have e2 : ints (xs ++ [y]) = ints xs ++ [.int .i64 y] := by simp [ints]
      unfold SlI
      rw [e1, e2]
      exact h2
    · refine ⟨_, cap, rfl, hnc, hcm, by simp [ints], (by intro h; cases h), fun j hj => ⟨g, 0, rfl, hbg, ?_, ?_, ?_⟩⟩
      · have := hgr.size
        simp at this
        omega
      · have := hgr.size
        simp at this
        omega
      · rw [ints_length] at hj
        rw [show (0 + j) = j from Nat.zero_add j, World.cell?_of_block (hgr.block g (by simp; omega) (by simp))]
        exact hold j hj
    · have h1 : Outside lo hi w0 (w0.alloc (.cells #[.int .i64 y] 3)) := Outside.of_below ((Below.refl _ _).alloc (Nat.le_refl _) _) (Nat.le_refl _)
      exact h1.trans (grown_outside hgr (fun k hk => by cases hk))
end
end

section

section
variable {P : Program} {w : World} {ops : Array Oper} {rest : List Oper} {o : Oper} {a : Act} {Q : Exit → Act → World → Prop}
/-- append(s, x1, ..) of what has just been laid: the new row lies in the old one's place, or in a new block. -/
theorem wpList_app_lit2 (w0 : World) (hgd : o.guard = none) (s x : Operand) (t : TypeId)
    (ho : o.op = .call { callee := .builtin .append, args := #[s, x], argTypes := #[t, t] })
    (e : TypeId) (z : Value) (sz bytes : Nat) (ht : P.underlying t = some (.slice e)) (hinfo : (P.info? e).map (fun i => (i.zero, i.size, i.bytes)) = some (some z, sz, bytes))
    (hzs : z.cells.size = sz) (hsz : 0 < sz) (hby : bytes ≤ 64)
    {lo hi n : Nat} {v : Value} {xs : List Value} (hs : a.eval s = v) (hown : Own sz lo hi e w0 v n xs)
    (m : Nat) (ys : List Value) (hx : a.eval x = .slice (some ⟨w0.heap.size, 0, none⟩) m m) (hlen : ys.length = m * sz) (h1 : ∀ u ∈ ys, u.oneCell' = true) (hw : w = w0.alloc (.cells ys.toArray e))
    (hn : n + m ≤ 1073741824) (hlo : lo ≤ w0.heap.size)
    (h : ∀ v' w' lo' hi', Own sz lo' hi' e w' v' (n + m) (xs ++ ys) → (lo' = lo ∧ hi' = hi ∨ w0.heap.size ≤ lo' ∧ lo' < hi' ∧ hi' ≤ w'.heap.size) → Outside lo hi w0 w' → wpList P ops Q rest (a.put o.dst v') w') : wpList P ops Q (o :: rest) a w := by
  subst hw
  obtain ⟨i, hi0, hz, hsize, hb⟩ := info_parts hinfo
  have hl := (Own.lit sz e w0 ys m (by omega) hlen).sl
  obtain ⟨ao, c, he, hmc, hcm, hlen', hnone, hc⟩ := hl
  injection he with he1 he2 he3
  subst he1 he3
  have hown' := hown.alloc (.cells ys.toArray e)
  have hmx : (n + m) * bytes ≤ 140737488355328 := Nat.le_trans (Nat.mul_le_mul hn hby) (by decide)
  refine wpList_append_own_at _ hgd s x t ho lo e i z sz bytes ht hi0 hz hsize hb hzs hsz v n xs hs hown'.1 ⟨w0.heap.size, 0, none⟩ m m ys hx hlen ?_ h1 (by unfold maxLen; omega) hmx (by simp; omega) ?_
  · intro j u hu
    have hj := (List.getElem?_eq_some_iff.1 hu).1
    obtain ⟨b, off, e1, _, _, _, e2⟩ := hc j hj
    injection e1 with e1
    rw [e1, Addr.add_lit, e2, hu]
  · intro v' w' h2 h3 _ h5
    have hout : Outside lo hi w0 w' := (Outside.of_below ((Below.refl _ _).alloc (Nat.le_refl _) _) (Nat.le_refl _)).trans (grown_outside h3 hown'.lt)
    rcases h2.2 with ⟨hv, hx0⟩ | ⟨g, cap, cur, hv, hbg, hg, r1, r2, r3, r4⟩
    · exact h v' w' lo hi ⟨h2, fun k hk => by rw [hv] at hk; simp [Value.ownBlock] at hk⟩ (.inl ⟨rfl, rfl⟩) hout
    · have hgs := (Array.getElem?_eq_some_iff.1 hg).1
      have hvb : v'.ownBlock = some g := by rw [hv]; rfl
      rcases h5 with h5 | h5
      · exact h v' w' lo hi ⟨h2, fun k hk => hown'.2 k (by rw [← h5]; exact hk)⟩ (.inl ⟨rfl, rfl⟩) hout
      · rw [hvb] at h5
        injection h5 with h5
        have h6 : w0.heap.size ≤ g := by rw [h5]; simp
        refine h v' w' g (g + 1) ⟨⟨h2.1, .inr ⟨g, cap, cur, hv, Nat.le_refl _, hg, r1, r2, r3, r4⟩⟩, fun k hk => ?_⟩ (.inr ⟨h6, Nat.lt_succ_self g, hgs⟩) hout
        rw [hvb] at hk
        injection hk with hk
        omega
end
end

section

/-- What a draw of two lists leaves. -/
abbrev DrawnII (g c : Nat) (w : World) (most : Nat) : Ending → World → Prop := RetVV fun va vb w' => ∃ xs ys : List Int, SlI w.heap.size w'.heap.size w' va xs ∧ SlI w.heap.size w'.heap.size w' vb ys ∧ xs.length ≤ most ∧ ys.length ≤ most ∧ Outside g (g + 1) w w' ∧ Rd g w' c

set_option maxRecDepth 100000 in
set_option maxHeartbeats 12800000 in
theorem l20Laws_any (g c : Nat) (w : World) (h : Rd g w c) (hc : c ≤ 10000000) :
    Calls Tryz.prog 82 #[.pointer (some ⟨g, 0, none⟩)] w (DrawnII g (c + 1200) w 44) := by
  have hg := h.lt
  have HR := Lib.hid h
  have HO := Lib.hid (Outside.refl g (g + 1) w)
  clear h
  go_enter Tryz.func82, Tryz.ntmps82
  go_wp2_with fail
  refine (l20Small_any g _ 14 _ HR.out (by omega) (by omega)).mono ?_
  rintro e w1 ⟨v_OE, rfl, es, o_, l_es, h_, r_⟩
  have hs1 := h_.size
  replace HO := Lib.hid (HO.out.trans h_)
  replace HR := Lib.hid r_
  clear h_ r_
  have OE := Lib.hid o_
  clear o_
  obtain ⟨a_OE, c_OE, rfl, _, _⟩ := Sl.shape OE.out.sl
  go_wp2_with fail
  refine (l20Leaf_any g _ _ HR.out (by omega)).mono ?_
  rintro e w2 ⟨v_OF, rfl, fs, o_, l_fs, h_, r_⟩
  have hs2 := h_.size
  replace OE := Lib.hid (OE.out.outside h_ (.inr (by omega)))
  replace HO := Lib.hid (HO.out.trans h_)
  replace HR := Lib.hid r_
  clear h_ r_
  have OF := Lib.hid o_
  clear o_
  obtain ⟨a_OF, c_OF, rfl, _, _⟩ := Sl.shape OF.out.sl
  go_wp2_with fail
  refine (l20Leaf_any g _ _ HR.out (by omega)).mono ?_
  rintro e w3 ⟨v_OG, rfl, gs, o_, l_gs, h_, r_⟩
  have hs3 := h_.size
  replace OE := Lib.hid (OE.out.outside h_ (.inr (by omega))); replace OF := Lib.hid (OF.out.outside h_ (.inr (by omega)))
  replace HO := Lib.hid (HO.out.trans h_)
  replace HR := Lib.hid r_
  clear h_ r_
  have OG := Lib.hid o_
  clear o_
  obtain ⟨a_OG, c_OG, rfl, _, _⟩ := Sl.shape OG.out.sl
  cases hk : katV es
  · go_wp2_with (go_at_call 28; refine (spec_KatValid _ _ _ es _ OE.out.sl (by omega)).mono ?_; rintro e w' ⟨rfl, rfl⟩)
    go_ret2
    exact ⟨_, _, rfl, es, fs, OE.out.sl.wide (by omega) (by omega), OF.out.sl.wide (by omega) (by omega), by omega, by omega, HO.out, HR.out.mono (by omega)⟩
  by_cases h9 : 9 < es.length
  · go_wp2_with (go_at_call 28; refine (spec_KatValid _ _ _ es _ OE.out.sl (by omega)).mono ?_; rintro e w' ⟨rfl, rfl⟩)
    go_ret2
    exact ⟨_, _, rfl, es, fs, OE.out.sl.wide (by omega) (by omega), OF.out.sl.wide (by omega) (by omega), by omega, by omega, HO.out, HR.out.mono (by omega)⟩
  have HK := Lib.hid hk
  go_wp2_with fail
  refine (spec_KatValid _ _ _ es _ OE.out.sl (by omega)).mono ?_
  rintro e _ ⟨rfl, rfl⟩
  rw [HK.out]
  clear hk
  have h0 : Hid (Own 1 w3.heap.size (w3.heap.size + 1) 3 (w3.alloc (.cells (ints []).toArray 3)) (.slice (some ⟨w3.heap.size, 0, none⟩) 0 0) 0 (ints [])) := Lib.hid (Own.lit 1 3 w3 (ints []) 0 (by omega) rfl)
  obtain ⟨w4, hw_⟩ : ∃ w_, w_ = w3.alloc (.cells (ints []).toArray 3) := ⟨_, rfl⟩
  obtain ⟨h_, K_, hs4⟩ := box_facts2 hw_
  rw [← hw_] at h0
  replace OE := Lib.hid (OE.out.below h_ (by omega)); replace OF := Lib.hid (OF.out.below h_ (by omega)); replace OG := Lib.hid (OG.out.below h_ (by omega)); replace HO := Lib.hid (HO.out.below h_ (by omega)); replace HR := Lib.hid (HR.out.below h_ (by omega))
  have HWZ := Lib.hid (show w3.alloc (.cells #[] 3) = w4 from hw_.symm)
  clear hw_ h_ K_
  go_wp2_with (at_builtin; go_loud (rw [HWZ.out]; refine wpList_app_sl rfl _ _ 28 rfl 3 (.int .i64 0) 1 8 Tryz.underlying28 info_int rfl (by decide) (by decide) rfl h0.out rfl OE.out.sl (ints_one _) (by omega) (by omega) ?_))
  intro v_ w5 o_ _ h_ _
  have hs5 := h_.size
  replace OE := Lib.hid (OE.out.outside h_ (by omega)); replace OF := Lib.hid (OF.out.outside h_ (by omega)); replace OG := Lib.hid (OG.out.outside h_ (by omega))
  replace HO := Lib.hid (HO.out.fresh h_ (by omega))
  replace HR := Lib.hid (HR.out.outside h_ (by omega))
  have O0 : Hid (OwnI w3.heap.size w5.heap.size 3 w5 v_ es) := Lib.hid (by unfold OwnI; simpa [ints] using o_)
  obtain ⟨a_O0, c_O0, rfl, _⟩ := Own.open O0.out
  clear o_ h_ h0 HWZ
  have hown := O0.out
  go_wp2_with (at_builtin; refine wpList_app_lit w5 rfl _ _ 28 rfl 3 (.int .i64 0) 1 8 Tryz.underlying28 info_int rfl (by decide) (by decide) rfl hown 1 (ints [21]) rfl rfl (ints_one _) rfl (by omega) (by omega) ?_)
  intro v_ w6 o_ h_ _
  have hs6 := h_.size
  replace OE := Lib.hid (OE.out.outside h_ (by omega)); replace OF := Lib.hid (OF.out.outside h_ (by omega)); replace OG := Lib.hid (OG.out.outside h_ (by omega))
  replace HO := Lib.hid (HO.out.fresh h_ (by omega))
  replace HR := Lib.hid (HR.out.outside h_ (by omega))
  have OS : Hid (OwnI _ w6.heap.size 3 w6 v_ (es ++ [21])) := Lib.hid (by unfold OwnI; simpa [ints] using o_)
  have l_ss : (es ++ [21]).length = es.length + 1 := by simp
  generalize es ++ [21] = ss at OS l_ss
  obtain ⟨a_OS, c_OS, rfl, _⟩ := Own.open OS.out
  have la_ss := Nat.le_of_eq l_ss
  have lb_ss := Nat.le_of_eq l_ss.symm
  clear l_ss
  clear hown o_ h_
  clear O0
  go_wp2_with fail
  refine (pick_any g _ _ _ HR.out (by omega)).mono ?_
  rintro e w7 ⟨q, rfl, i_, h_, r_⟩
  obtain ⟨i1_q, i2_q⟩ := i_.lt (by omega)
  clear i_
  have hs7 := h_.size
  replace OE := Lib.hid (OE.out.outside h_ (.inr (by omega))); replace OF := Lib.hid (OF.out.outside h_ (.inr (by omega))); replace OG := Lib.hid (OG.out.outside h_ (.inr (by omega))); replace OS := Lib.hid (OS.out.outside h_ (.inr (by omega)))
  replace HO := Lib.hid (HO.out.trans h_)
  replace HR := Lib.hid r_
  clear h_ r_
  have hq : q = 0 ∨ q = 1 ∨ q = 2 ∨ q = 3 ∨ q = 4 ∨ q = 5 ∨ q = 6 ∨ q = 7 ∨ q = 8 := by omega
  clear i1_q i2_q
  rcases hq with rfl | rfl | rfl | rfl | rfl | rfl | rfl | rfl | rfl
  · skip
    go_wp2_with fail
    obtain ⟨w8, hw_⟩ : ∃ w_, w_ = w7.alloc (.cells #[.int .i64 15] 3) := ⟨_, rfl⟩
    obtain ⟨h_, K_, hs8⟩ := box_facts2 hw_
    have HL_ := Lib.hid hw_
    simp only [← hw_]
    clear hw_
    replace OE := Lib.hid (OE.out.below h_ (by omega)); replace OF := Lib.hid (OF.out.below h_ (by omega)); replace OG := Lib.hid (OG.out.below h_ (by omega)); replace OS := Lib.hid (OS.out.below h_ (by omega)); replace HO := Lib.hid (HO.out.below h_ (by omega)); replace HR := Lib.hid (HR.out.below h_ (by omega))
    clear h_
    have OL : Hid (OwnI w7.heap.size w8.heap.size 3 w8 (.slice (some ⟨w7.heap.size, 0, none⟩) 1 1) [15]) := Lib.hid (by rw [HL_.out]; exact one_own _ _)
    clear HL_ K_
    skip
    refine (l2Join_any _ _ _ _ _ _ es ss 19 _ OE.out.sl OS.out.sl (by omega) (by omega) (by first | omega | (simp; omega))).mono ?_
    rintro e w9 ⟨v_J1, rfl, h_, o_⟩
    have hs9 := h_.size
    replace OE := Lib.hid (OE.out.below h_ (by omega)); replace OF := Lib.hid (OF.out.below h_ (by omega)); replace OG := Lib.hid (OG.out.below h_ (by omega)); replace OS := Lib.hid (OS.out.below h_ (by omega)); replace OL := Lib.hid (OL.out.below h_ (by omega)); replace HO := Lib.hid (HO.out.below h_ (by omega)); replace HR := Lib.hid (HR.out.below h_ (by omega))
    clear h_
    have l_j1 : (es ++ ss ++ [19]).length = es.length + ss.length + 1 := by simp; try omega
    generalize es ++ ss ++ [19] = j1 at o_ l_j1
    have la_j1 := Nat.le_of_eq l_j1
    have lb_j1 := Nat.le_of_eq l_j1.symm
    clear l_j1
    have J1 := Lib.hid o_
    obtain ⟨a_J1, c_J1, rfl, _⟩ := Own.open o_
    clear o_
    go_wp2_with fail
    refine (l2Join_any _ _ _ _ _ _ [15] j1 20 _ OL.out.sl J1.out.sl (by omega) (by omega) (by first | omega | (simp; omega))).mono ?_
    rintro e w10 ⟨v_J2, rfl, h_, o_⟩
    have hs10 := h_.size
    replace OE := Lib.hid (OE.out.below h_ (by omega)); replace OF := Lib.hid (OF.out.below h_ (by omega)); replace OG := Lib.hid (OG.out.below h_ (by omega)); replace OS := Lib.hid (OS.out.below h_ (by omega)); replace OL := Lib.hid (OL.out.below h_ (by omega)); replace J1 := Lib.hid (J1.out.below h_ (by omega)); replace HO := Lib.hid (HO.out.below h_ (by omega)); replace HR := Lib.hid (HR.out.below h_ (by omega))
    clear h_
    have l_j2 : ([15] ++ j1 ++ [20]).length = 1 + j1.length + 1 := by simp; try omega
    generalize [15] ++ j1 ++ [20] = j2 at o_ l_j2
    have la_j2 := Nat.le_of_eq l_j2
    have lb_j2 := Nat.le_of_eq l_j2.symm
    clear l_j2
    have J2 := Lib.hid o_
    obtain ⟨a_J2, c_J2, rfl, _⟩ := Own.open o_
    clear o_
    go_wp2
    go_ret2
    exact ⟨_, _, rfl, ss, j2, (OS.out.sl).wide (by omega) (by omega), (J2.out.sl).wide (by omega) (by omega), by omega, by omega, HO.out, HR.out.mono (by omega)⟩
  · skip
    go_wp2_with fail
    refine (l2Join_any _ _ _ _ _ _ es fs 20 _ OE.out.sl OF.out.sl (by omega) (by omega) (by first | omega | (simp; omega))).mono ?_
    rintro e w8 ⟨v_J1, rfl, h_, o_⟩
    have hs8 := h_.size
    replace OE := Lib.hid (OE.out.below h_ (by omega)); replace OF := Lib.hid (OF.out.below h_ (by omega)); replace OG := Lib.hid (OG.out.below h_ (by omega)); replace OS := Lib.hid (OS.out.below h_ (by omega)); replace HO := Lib.hid (HO.out.below h_ (by omega)); replace HR := Lib.hid (HR.out.below h_ (by omega))
    clear h_
    have l_j1 : (es ++ fs ++ [20]).length = es.length + fs.length + 1 := by simp; try omega
    generalize es ++ fs ++ [20] = j1 at o_ l_j1
    have la_j1 := Nat.le_of_eq l_j1
    have lb_j1 := Nat.le_of_eq l_j1.symm
    clear l_j1
    have J1 := Lib.hid o_
    obtain ⟨a_J1, c_J1, rfl, _⟩ := Own.open o_
    clear o_
    have hown := J1.out
    go_wp2_with (at_builtin; refine wpList_app_lit w8 rfl _ _ 28 rfl 3 (.int .i64 0) 1 8 Tryz.underlying28 info_int rfl (by decide) (by decide) rfl hown 1 (ints [21]) rfl rfl (ints_one _) rfl (by omega) (by omega) ?_)
    intro v_ w9 o_ h_ _
    have hs9 := h_.size
    replace OE := Lib.hid (OE.out.outside h_ (by omega)); replace OF := Lib.hid (OF.out.outside h_ (by omega)); replace OG := Lib.hid (OG.out.outside h_ (by omega)); replace OS := Lib.hid (OS.out.outside h_ (by omega))
    replace HO := Lib.hid (HO.out.fresh h_ (by omega))
    replace HR := Lib.hid (HR.out.outside h_ (by omega))
    have K1 : Hid (OwnI _ w9.heap.size 3 w9 v_ (j1 ++ [21])) := Lib.hid (by unfold OwnI; simpa [ints] using o_)
    have l_k1 : (j1 ++ [21]).length = j1.length + 1 := by simp
    generalize j1 ++ [21] = k1 at K1 l_k1
    obtain ⟨a_K1, c_K1, rfl, _⟩ := Own.open K1.out
    have la_k1 := Nat.le_of_eq l_k1
    have lb_k1 := Nat.le_of_eq l_k1.symm
    clear l_k1
    clear hown o_ h_
    clear J1
    go_wp2_with fail
    refine (l2Join_any _ _ _ _ _ _ fs ss 19 _ OF.out.sl OS.out.sl (by omega) (by omega) (by first | omega | (simp; omega))).mono ?_
    rintro e w10 ⟨v_J2, rfl, h_, o_⟩
    have hs10 := h_.size
    replace OE := Lib.hid (OE.out.below h_ (by omega)); replace OF := Lib.hid (OF.out.below h_ (by omega)); replace OG := Lib.hid (OG.out.below h_ (by omega)); replace OS := Lib.hid (OS.out.below h_ (by omega)); replace K1 := Lib.hid (K1.out.below h_ (by omega)); replace HO := Lib.hid (HO.out.below h_ (by omega)); replace HR := Lib.hid (HR.out.below h_ (by omega))
    clear h_
    have l_j2 : (fs ++ ss ++ [19]).length = fs.length + ss.length + 1 := by simp; try omega
    generalize fs ++ ss ++ [19] = j2 at o_ l_j2
    have la_j2 := Nat.le_of_eq l_j2
    have lb_j2 := Nat.le_of_eq l_j2.symm
    clear l_j2
    have J2 := Lib.hid o_
    obtain ⟨a_J2, c_J2, rfl, _⟩ := Own.open o_
    clear o_
    have hown := J2.out
    go_wp2_with (at_builtin; refine wpList_app_lit w10 rfl _ _ 28 rfl 3 (.int .i64 0) 1 8 Tryz.underlying28 info_int rfl (by decide) (by decide) rfl hown 1 (ints [21]) rfl rfl (ints_one _) rfl (by omega) (by omega) ?_)
    intro v_ w11 o_ h_ _
    have hs11 := h_.size
    replace OE := Lib.hid (OE.out.outside h_ (by omega)); replace OF := Lib.hid (OF.out.outside h_ (by omega)); replace OG := Lib.hid (OG.out.outside h_ (by omega)); replace OS := Lib.hid (OS.out.outside h_ (by omega)); replace K1 := Lib.hid (K1.out.outside h_ (by omega))
    replace HO := Lib.hid (HO.out.fresh h_ (by omega))
    replace HR := Lib.hid (HR.out.outside h_ (by omega))
    have K2 : Hid (OwnI _ w11.heap.size 3 w11 v_ (j2 ++ [21])) := Lib.hid (by unfold OwnI; simpa [ints] using o_)
    have l_k2 : (j2 ++ [21]).length = j2.length + 1 := by simp
    generalize j2 ++ [21] = k2 at K2 l_k2
    obtain ⟨a_K2, c_K2, rfl, _⟩ := Own.open K2.out
    have la_k2 := Nat.le_of_eq l_k2
    have lb_k2 := Nat.le_of_eq l_k2.symm
    clear l_k2
    clear hown o_ h_
    clear J2
    go_wp2_with fail
    refine (l2Join_any _ _ _ _ _ _ ss k2 19 _ OS.out.sl K2.out.sl (by omega) (by omega) (by first | omega | (simp; omega))).mono ?_
    rintro e w12 ⟨v_J3, rfl, h_, o_⟩
    have hs12 := h_.size
    replace OE := Lib.hid (OE.out.below h_ (by omega)); replace OF := Lib.hid (OF.out.below h_ (by omega)); replace OG := Lib.hid (OG.out.below h_ (by omega)); replace OS := Lib.hid (OS.out.below h_ (by omega)); replace K1 := Lib.hid (K1.out.below h_ (by omega)); replace K2 := Lib.hid (K2.out.below h_ (by omega)); replace HO := Lib.hid (HO.out.below h_ (by omega)); replace HR := Lib.hid (HR.out.below h_ (by omega))
    clear h_
    have l_j3 : (ss ++ k2 ++ [19]).length = ss.length + k2.length + 1 := by simp; try omega
    generalize ss ++ k2 ++ [19] = j3 at o_ l_j3
    have la_j3 := Nat.le_of_eq l_j3
    have lb_j3 := Nat.le_of_eq l_j3.symm
    clear l_j3
    have J3 := Lib.hid o_
    obtain ⟨a_J3, c_J3, rfl, _⟩ := Own.open o_
    clear o_
    go_wp2
    go_ret2
    exact ⟨_, _, rfl, k1, j3, (K1.out.sl).wide (by omega) (by omega), (J3.out.sl).wide (by omega) (by omega), by omega, by omega, HO.out, HR.out.mono (by omega)⟩
  · skip
    go_wp2_with fail
    refine (l2Join_any _ _ _ _ _ _ es fs 19 _ OE.out.sl OF.out.sl (by omega) (by omega) (by first | omega | (simp; omega))).mono ?_
    rintro e w8 ⟨v_J1, rfl, h_, o_⟩
    have hs8 := h_.size
    replace OE := Lib.hid (OE.out.below h_ (by omega)); replace OF := Lib.hid (OF.out.below h_ (by omega)); replace OG := Lib.hid (OG.out.below h_ (by omega)); replace OS := Lib.hid (OS.out.below h_ (by omega)); replace HO := Lib.hid (HO.out.below h_ (by omega)); replace HR := Lib.hid (HR.out.below h_ (by omega))
    clear h_
    have l_j1 : (es ++ fs ++ [19]).length = es.length + fs.length + 1 := by simp; try omega
    generalize es ++ fs ++ [19] = j1 at o_ l_j1
    have la_j1 := Nat.le_of_eq l_j1
    have lb_j1 := Nat.le_of_eq l_j1.symm
    clear l_j1
    have J1 := Lib.hid o_
    obtain ⟨a_J1, c_J1, rfl, _⟩ := Own.open o_
    clear o_
    have hown := J1.out
    go_wp2_with (at_builtin; refine wpList_app_lit w8 rfl _ _ 28 rfl 3 (.int .i64 0) 1 8 Tryz.underlying28 info_int rfl (by decide) (by decide) rfl hown 1 (ints [21]) rfl rfl (ints_one _) rfl (by omega) (by omega) ?_)
    intro v_ w9 o_ h_ _
    have hs9 := h_.size
    replace OE := Lib.hid (OE.out.outside h_ (by omega)); replace OF := Lib.hid (OF.out.outside h_ (by omega)); replace OG := Lib.hid (OG.out.outside h_ (by omega)); replace OS := Lib.hid (OS.out.outside h_ (by omega))
    replace HO := Lib.hid (HO.out.fresh h_ (by omega))
    replace HR := Lib.hid (HR.out.outside h_ (by omega))
    have K1 : Hid (OwnI _ w9.heap.size 3 w9 v_ (j1 ++ [21])) := Lib.hid (by unfold OwnI; simpa [ints] using o_)
    have l_k1 : (j1 ++ [21]).length = j1.length + 1 := by simp
    generalize j1 ++ [21] = k1 at K1 l_k1
    obtain ⟨a_K1, c_K1, rfl, _⟩ := Own.open K1.out
    have la_k1 := Nat.le_of_eq l_k1
    have lb_k1 := Nat.le_of_eq l_k1.symm
    clear l_k1
    clear hown o_ h_
    clear J1
    go_wp2_with fail
    refine (l2Join_any _ _ _ _ _ _ k1 es 19 _ K1.out.sl OE.out.sl (by omega) (by omega) (by first | omega | (simp; omega))).mono ?_
    rintro e w10 ⟨v_J2, rfl, h_, o_⟩
    have hs10 := h_.size
    replace OE := Lib.hid (OE.out.below h_ (by omega)); replace OF := Lib.hid (OF.out.below h_ (by omega)); replace OG := Lib.hid (OG.out.below h_ (by omega)); replace OS := Lib.hid (OS.out.below h_ (by omega)); replace K1 := Lib.hid (K1.out.below h_ (by omega)); replace HO := Lib.hid (HO.out.below h_ (by omega)); replace HR := Lib.hid (HR.out.below h_ (by omega))
    clear h_
    have l_j2 : (k1 ++ es ++ [19]).length = k1.length + es.length + 1 := by simp; try omega
    generalize k1 ++ es ++ [19] = j2 at o_ l_j2
    have la_j2 := Nat.le_of_eq l_j2
    have lb_j2 := Nat.le_of_eq l_j2.symm
    clear l_j2
    have J2 := Lib.hid o_
    obtain ⟨a_J2, c_J2, rfl, _⟩ := Own.open o_
    clear o_
    go_wp2_with fail
    refine (l2Join_any _ _ _ _ _ _ fs es 19 _ OF.out.sl OE.out.sl (by omega) (by omega) (by first | omega | (simp; omega))).mono ?_
    rintro e w11 ⟨v_J3, rfl, h_, o_⟩
    have hs11 := h_.size
    replace OE := Lib.hid (OE.out.below h_ (by omega)); replace OF := Lib.hid (OF.out.below h_ (by omega)); replace OG := Lib.hid (OG.out.below h_ (by omega)); replace OS := Lib.hid (OS.out.below h_ (by omega)); replace K1 := Lib.hid (K1.out.below h_ (by omega)); replace J2 := Lib.hid (J2.out.below h_ (by omega)); replace HO := Lib.hid (HO.out.below h_ (by omega)); replace HR := Lib.hid (HR.out.below h_ (by omega))
    clear h_
    have l_j3 : (fs ++ es ++ [19]).length = fs.length + es.length + 1 := by simp; try omega
    generalize fs ++ es ++ [19] = j3 at o_ l_j3
    have la_j3 := Nat.le_of_eq l_j3
    have lb_j3 := Nat.le_of_eq l_j3.symm
    clear l_j3
    have J3 := Lib.hid o_
    obtain ⟨a_J3, c_J3, rfl, _⟩ := Own.open o_
    clear o_
    have hown := J3.out
    go_wp2_with (at_builtin; refine wpList_app_lit w11 rfl _ _ 28 rfl 3 (.int .i64 0) 1 8 Tryz.underlying28 info_int rfl (by decide) (by decide) rfl hown 1 (ints [21]) rfl rfl (ints_one _) rfl (by omega) (by omega) ?_)
    intro v_ w12 o_ h_ _
    have hs12 := h_.size
    replace OE := Lib.hid (OE.out.outside h_ (by omega)); replace OF := Lib.hid (OF.out.outside h_ (by omega)); replace OG := Lib.hid (OG.out.outside h_ (by omega)); replace OS := Lib.hid (OS.out.outside h_ (by omega)); replace K1 := Lib.hid (K1.out.outside h_ (by omega)); replace J2 := Lib.hid (J2.out.outside h_ (by omega))
    replace HO := Lib.hid (HO.out.fresh h_ (by omega))
    replace HR := Lib.hid (HR.out.outside h_ (by omega))
    have K3 : Hid (OwnI _ w12.heap.size 3 w12 v_ (j3 ++ [21])) := Lib.hid (by unfold OwnI; simpa [ints] using o_)
    have l_k3 : (j3 ++ [21]).length = j3.length + 1 := by simp
    generalize j3 ++ [21] = k3 at K3 l_k3
    obtain ⟨a_K3, c_K3, rfl, _⟩ := Own.open K3.out
    have la_k3 := Nat.le_of_eq l_k3
    have lb_k3 := Nat.le_of_eq l_k3.symm
    clear l_k3
    clear hown o_ h_
    clear J3
    go_wp2_with fail
    refine (l2Join_any _ _ _ _ _ _ es k3 19 _ OE.out.sl K3.out.sl (by omega) (by omega) (by first | omega | (simp; omega))).mono ?_
    rintro e w13 ⟨v_J4, rfl, h_, o_⟩
    have hs13 := h_.size
    replace OE := Lib.hid (OE.out.below h_ (by omega)); replace OF := Lib.hid (OF.out.below h_ (by omega)); replace OG := Lib.hid (OG.out.below h_ (by omega)); replace OS := Lib.hid (OS.out.below h_ (by omega)); replace K1 := Lib.hid (K1.out.below h_ (by omega)); replace J2 := Lib.hid (J2.out.below h_ (by omega)); replace K3 := Lib.hid (K3.out.below h_ (by omega)); replace HO := Lib.hid (HO.out.below h_ (by omega)); replace HR := Lib.hid (HR.out.below h_ (by omega))
    clear h_
    have l_j4 : (es ++ k3 ++ [19]).length = es.length + k3.length + 1 := by simp; try omega
    generalize es ++ k3 ++ [19] = j4 at o_ l_j4
    have la_j4 := Nat.le_of_eq l_j4
    have lb_j4 := Nat.le_of_eq l_j4.symm
    clear l_j4
    have J4 := Lib.hid o_
    obtain ⟨a_J4, c_J4, rfl, _⟩ := Own.open o_
    clear o_
    go_wp2
    go_ret2
    exact ⟨_, _, rfl, j2, j4, (J2.out.sl).wide (by omega) (by omega), (J4.out.sl).wide (by omega) (by omega), by omega, by omega, HO.out, HR.out.mono (by omega)⟩
  · skip
    go_wp2_with fail
    refine (l2Join_any _ _ _ _ _ _ fs gs 20 _ OF.out.sl OG.out.sl (by omega) (by omega) (by first | omega | (simp; omega))).mono ?_
    rintro e w8 ⟨v_J1, rfl, h_, o_⟩
    have hs8 := h_.size
    replace OE := Lib.hid (OE.out.below h_ (by omega)); replace OF := Lib.hid (OF.out.below h_ (by omega)); replace OG := Lib.hid (OG.out.below h_ (by omega)); replace OS := Lib.hid (OS.out.below h_ (by omega)); replace HO := Lib.hid (HO.out.below h_ (by omega)); replace HR := Lib.hid (HR.out.below h_ (by omega))
    clear h_
    have l_j1 : (fs ++ gs ++ [20]).length = fs.length + gs.length + 1 := by simp; try omega
    generalize fs ++ gs ++ [20] = j1 at o_ l_j1
    have la_j1 := Nat.le_of_eq l_j1
    have lb_j1 := Nat.le_of_eq l_j1.symm
    clear l_j1
    have J1 := Lib.hid o_
    obtain ⟨a_J1, c_J1, rfl, _⟩ := Own.open o_
    clear o_
    go_wp2_with fail
    refine (l2Join_any _ _ _ _ _ _ es j1 19 _ OE.out.sl J1.out.sl (by omega) (by omega) (by first | omega | (simp; omega))).mono ?_
    rintro e w9 ⟨v_J2, rfl, h_, o_⟩
    have hs9 := h_.size
    replace OE := Lib.hid (OE.out.below h_ (by omega)); replace OF := Lib.hid (OF.out.below h_ (by omega)); replace OG := Lib.hid (OG.out.below h_ (by omega)); replace OS := Lib.hid (OS.out.below h_ (by omega)); replace J1 := Lib.hid (J1.out.below h_ (by omega)); replace HO := Lib.hid (HO.out.below h_ (by omega)); replace HR := Lib.hid (HR.out.below h_ (by omega))
    clear h_
    have l_j2 : (es ++ j1 ++ [19]).length = es.length + j1.length + 1 := by simp; try omega
    generalize es ++ j1 ++ [19] = j2 at o_ l_j2
    have la_j2 := Nat.le_of_eq l_j2
    have lb_j2 := Nat.le_of_eq l_j2.symm
    clear l_j2
    have J2 := Lib.hid o_
    obtain ⟨a_J2, c_J2, rfl, _⟩ := Own.open o_
    clear o_
    go_wp2_with fail
    refine (l2Join_any _ _ _ _ _ _ es fs 19 _ OE.out.sl OF.out.sl (by omega) (by omega) (by first | omega | (simp; omega))).mono ?_
    rintro e w10 ⟨v_J3, rfl, h_, o_⟩
    have hs10 := h_.size
    replace OE := Lib.hid (OE.out.below h_ (by omega)); replace OF := Lib.hid (OF.out.below h_ (by omega)); replace OG := Lib.hid (OG.out.below h_ (by omega)); replace OS := Lib.hid (OS.out.below h_ (by omega)); replace J1 := Lib.hid (J1.out.below h_ (by omega)); replace J2 := Lib.hid (J2.out.below h_ (by omega)); replace HO := Lib.hid (HO.out.below h_ (by omega)); replace HR := Lib.hid (HR.out.below h_ (by omega))
    clear h_
    have l_j3 : (es ++ fs ++ [19]).length = es.length + fs.length + 1 := by simp; try omega
    generalize es ++ fs ++ [19] = j3 at o_ l_j3
    have la_j3 := Nat.le_of_eq l_j3
    have lb_j3 := Nat.le_of_eq l_j3.symm
    clear l_j3
    have J3 := Lib.hid o_
    obtain ⟨a_J3, c_J3, rfl, _⟩ := Own.open o_
    clear o_
    go_wp2_with fail
    refine (l2Join_any _ _ _ _ _ _ es gs 19 _ OE.out.sl OG.out.sl (by omega) (by omega) (by first | omega | (simp; omega))).mono ?_
    rintro e w11 ⟨v_J4, rfl, h_, o_⟩
    have hs11 := h_.size
    replace OE := Lib.hid (OE.out.below h_ (by omega)); replace OF := Lib.hid (OF.out.below h_ (by omega)); replace OG := Lib.hid (OG.out.below h_ (by omega)); replace OS := Lib.hid (OS.out.below h_ (by omega)); replace J1 := Lib.hid (J1.out.below h_ (by omega)); replace J2 := Lib.hid (J2.out.below h_ (by omega)); replace J3 := Lib.hid (J3.out.below h_ (by omega)); replace HO := Lib.hid (HO.out.below h_ (by omega)); replace HR := Lib.hid (HR.out.below h_ (by omega))
    clear h_
    have l_j4 : (es ++ gs ++ [19]).length = es.length + gs.length + 1 := by simp; try omega
    generalize es ++ gs ++ [19] = j4 at o_ l_j4
    have la_j4 := Nat.le_of_eq l_j4
    have lb_j4 := Nat.le_of_eq l_j4.symm
    clear l_j4
    have J4 := Lib.hid o_
    obtain ⟨a_J4, c_J4, rfl, _⟩ := Own.open o_
    clear o_
    go_wp2_with fail
    refine (l2Join_any _ _ _ _ _ _ j3 j4 20 _ J3.out.sl J4.out.sl (by omega) (by omega) (by first | omega | (simp; omega))).mono ?_
    rintro e w12 ⟨v_J5, rfl, h_, o_⟩
    have hs12 := h_.size
    replace OE := Lib.hid (OE.out.below h_ (by omega)); replace OF := Lib.hid (OF.out.below h_ (by omega)); replace OG := Lib.hid (OG.out.below h_ (by omega)); replace OS := Lib.hid (OS.out.below h_ (by omega)); replace J1 := Lib.hid (J1.out.below h_ (by omega)); replace J2 := Lib.hid (J2.out.below h_ (by omega)); replace J3 := Lib.hid (J3.out.below h_ (by omega)); replace J4 := Lib.hid (J4.out.below h_ (by omega)); replace HO := Lib.hid (HO.out.below h_ (by omega)); replace HR := Lib.hid (HR.out.below h_ (by omega))
    clear h_
    have l_j5 : (j3 ++ j4 ++ [20]).length = j3.length + j4.length + 1 := by simp; try omega
    generalize j3 ++ j4 ++ [20] = j5 at o_ l_j5
    have la_j5 := Nat.le_of_eq l_j5
    have lb_j5 := Nat.le_of_eq l_j5.symm
    clear l_j5
    have J5 := Lib.hid o_
    obtain ⟨a_J5, c_J5, rfl, _⟩ := Own.open o_
    clear o_
    go_wp2
    go_ret2
    exact ⟨_, _, rfl, j2, j5, (J2.out.sl).wide (by omega) (by omega), (J5.out.sl).wide (by omega) (by omega), by omega, by omega, HO.out, HR.out.mono (by omega)⟩
  · skip
    go_wp2_with fail
    refine (l2Join_any _ _ _ _ _ _ es es 20 _ OE.out.sl OE.out.sl (by omega) (by omega) (by first | omega | (simp; omega))).mono ?_
    rintro e w8 ⟨v_J1, rfl, h_, o_⟩
    have hs8 := h_.size
    replace OE := Lib.hid (OE.out.below h_ (by omega)); replace OF := Lib.hid (OF.out.below h_ (by omega)); replace OG := Lib.hid (OG.out.below h_ (by omega)); replace OS := Lib.hid (OS.out.below h_ (by omega)); replace HO := Lib.hid (HO.out.below h_ (by omega)); replace HR := Lib.hid (HR.out.below h_ (by omega))
    clear h_
    have l_j1 : (es ++ es ++ [20]).length = es.length + es.length + 1 := by simp; try omega
    generalize es ++ es ++ [20] = j1 at o_ l_j1
    have la_j1 := Nat.le_of_eq l_j1
    have lb_j1 := Nat.le_of_eq l_j1.symm
    clear l_j1
    have J1 := Lib.hid o_
    obtain ⟨a_J1, c_J1, rfl, _⟩ := Own.open o_
    clear o_
    go_wp2
    go_ret2
    exact ⟨_, _, rfl, es, j1, (OE.out.sl).wide (by omega) (by omega), (J1.out.sl).wide (by omega) (by omega), by omega, by omega, HO.out, HR.out.mono (by omega)⟩
  · skip
    have hown := OS.out
    go_wp2_with (at_builtin; refine wpList_app_keep w7 rfl _ _ rfl rfl hown (by omega) 21 rfl rfl (by omega) (by omega) ?_)
    intro v_ w8 o1_ o2_ h_
    have hs8 := h_.size
    replace HO := Lib.hid (HO.out.fresh h_ (by omega))
    replace HR := Lib.hid (HR.out.outside h_ (by omega))
    have O1 := Lib.hid o1_
    have O2 := Lib.hid o2_
    obtain ⟨a_O1, c_O1, rfl, _, _⟩ := Sl.shape o1_
    have lo1 : (ss ++ [21]).length ≤ ss.length + 1 := by simp
    generalize ss ++ [21] = s2 at *
    clear o1_ o2_ h_ hown
    go_wp2
    go_ret2
    exact ⟨_, _, rfl, s2, ss, (O1.out).wide (by omega) (by omega), (O2.out).wide (by omega) (by omega), by omega, by omega, HO.out, HR.out.mono (by omega)⟩
  · skip
    go_wp2_with fail
    refine (l20Test_any g _ 0 _ HR.out (by omega) (by omega)).mono ?_
    rintro e w8 ⟨t, rfl, ⟨i0_t, i1_t, i2_t⟩, h_, r_⟩
    have hs8 := h_.size
    replace OE := Lib.hid (OE.out.outside h_ (.inr (by omega))); replace OF := Lib.hid (OF.out.outside h_ (.inr (by omega))); replace OG := Lib.hid (OG.out.outside h_ (.inr (by omega))); replace OS := Lib.hid (OS.out.outside h_ (.inr (by omega)))
    replace HO := Lib.hid (HO.out.trans h_)
    replace HR := Lib.hid r_
    clear h_ r_
    obtain ⟨t1, t2⟩ := i0_t (by omega)
    go_wp2_with fail
    refine (spec_KatWhile _ _ _ es t _ OE.out.sl (by omega) (by omega)).mono ?_
    rintro e w9 ⟨vk, okk, rfl, h_, ks, ok_, lk_, lk2_⟩
    have hs9 := h_.size
    replace OE := Lib.hid (OE.out.below h_ (by omega)); replace OF := Lib.hid (OF.out.below h_ (by omega)); replace OG := Lib.hid (OG.out.below h_ (by omega)); replace OS := Lib.hid (OS.out.below h_ (by omega)); replace HO := Lib.hid (HO.out.below h_ (by omega)); replace HR := Lib.hid (HR.out.below h_ (by omega))
    have OK := Lib.hid (ok_)
    have hk2 := lk2_ t1 t2 HK.out (by omega)
    obtain ⟨ak_, ck_, rfl, _⟩ := Own.open ok_
    clear ok_ lk2_
    clear h_
    obtain ⟨bk, ok2, rfl, _, _, _, hgk⟩ := OK.out.sl.get (ks.length - 2) (by omega)
    have hidx : ((ks.length : Int) - 2) = ((ks.length - 2 : Nat) : Int) := by omega
    have hidx2 : ks.length - 2 < ks.length := by omega
    obtain ⟨kx, hkx⟩ : ∃ kx, kx = ks.length - 2 := ⟨_, rfl⟩
    obtain ⟨ky, hky⟩ : ∃ ky, ky = ks[ks.length - 2] := ⟨_, rfl⟩
    rw [← hky] at hgk
    rw [← hkx] at hgk hidx hidx2
    clear hkx hky
    go_wp2_with fail
    obtain ⟨w10, hw_⟩ : ∃ w_, w_ = w9.alloc (.cells #[.int .i64 ky] 3) := ⟨_, rfl⟩
    obtain ⟨h_, K_, hs10⟩ := box_facts2 hw_
    have HL_ := Lib.hid hw_
    simp only [← hw_]
    clear hw_
    replace OE := Lib.hid (OE.out.below h_ (by omega)); replace OF := Lib.hid (OF.out.below h_ (by omega)); replace OG := Lib.hid (OG.out.below h_ (by omega)); replace OS := Lib.hid (OS.out.below h_ (by omega)); replace OK := Lib.hid (OK.out.below h_ (by omega)); replace HO := Lib.hid (HO.out.below h_ (by omega)); replace HR := Lib.hid (HR.out.below h_ (by omega))
    clear h_
    have OL : Hid (OwnI w9.heap.size w10.heap.size 3 w10 (.slice (some ⟨w9.heap.size, 0, none⟩) 1 1) [ky]) := Lib.hid (by rw [HL_.out]; exact one_own _ _)
    clear HL_ K_
    skip
    refine (l2Join_any _ _ _ _ _ _ ks [ky] 19 _ OK.out.sl OL.out.sl (by omega) (by omega) (by first | omega | (simp; omega))).mono ?_
    rintro e w11 ⟨v_J1, rfl, h_, o_⟩
    have hs11 := h_.size
    replace OE := Lib.hid (OE.out.below h_ (by omega)); replace OF := Lib.hid (OF.out.below h_ (by omega)); replace OG := Lib.hid (OG.out.below h_ (by omega)); replace OS := Lib.hid (OS.out.below h_ (by omega)); replace OK := Lib.hid (OK.out.below h_ (by omega)); replace OL := Lib.hid (OL.out.below h_ (by omega)); replace HO := Lib.hid (HO.out.below h_ (by omega)); replace HR := Lib.hid (HR.out.below h_ (by omega))
    clear h_
    have l_j1 : (ks ++ [ky] ++ [19]).length = ks.length + 1 + 1 := by simp; try omega
    generalize ks ++ [ky] ++ [19] = j1 at o_ l_j1
    have la_j1 := Nat.le_of_eq l_j1
    have lb_j1 := Nat.le_of_eq l_j1.symm
    clear l_j1
    have J1 := Lib.hid o_
    obtain ⟨a_J1, c_J1, rfl, _⟩ := Own.open o_
    clear o_
    go_wp2
    go_ret2
    exact ⟨_, _, rfl, ks, j1, (OK.out.sl).wide (by omega) (by omega), (J1.out.sl).wide (by omega) (by omega), by omega, by omega, HO.out, HR.out.mono (by omega)⟩
  · skip
    go_wp2_with fail
    refine (l2Join_any _ _ _ _ _ _ es fs 19 _ OE.out.sl OF.out.sl (by omega) (by omega) (by first | omega | (simp; omega))).mono ?_
    rintro e w8 ⟨v_J1, rfl, h_, o_⟩
    have hs8 := h_.size
    replace OE := Lib.hid (OE.out.below h_ (by omega)); replace OF := Lib.hid (OF.out.below h_ (by omega)); replace OG := Lib.hid (OG.out.below h_ (by omega)); replace OS := Lib.hid (OS.out.below h_ (by omega)); replace HO := Lib.hid (HO.out.below h_ (by omega)); replace HR := Lib.hid (HR.out.below h_ (by omega))
    clear h_
    have l_j1 : (es ++ fs ++ [19]).length = es.length + fs.length + 1 := by simp; try omega
    generalize es ++ fs ++ [19] = j1 at o_ l_j1
    have la_j1 := Nat.le_of_eq l_j1
    have lb_j1 := Nat.le_of_eq l_j1.symm
    clear l_j1
    have J1 := Lib.hid o_
    obtain ⟨a_J1, c_J1, rfl, _⟩ := Own.open o_
    clear o_
    go_wp2_with fail
    refine (l2Join_any _ _ _ _ _ _ fs es 19 _ OF.out.sl OE.out.sl (by omega) (by omega) (by first | omega | (simp; omega))).mono ?_
    rintro e w9 ⟨v_J2, rfl, h_, o_⟩
    have hs9 := h_.size
    replace OE := Lib.hid (OE.out.below h_ (by omega)); replace OF := Lib.hid (OF.out.below h_ (by omega)); replace OG := Lib.hid (OG.out.below h_ (by omega)); replace OS := Lib.hid (OS.out.below h_ (by omega)); replace J1 := Lib.hid (J1.out.below h_ (by omega)); replace HO := Lib.hid (HO.out.below h_ (by omega)); replace HR := Lib.hid (HR.out.below h_ (by omega))
    clear h_
    have l_j2 : (fs ++ es ++ [19]).length = fs.length + es.length + 1 := by simp; try omega
    generalize fs ++ es ++ [19] = j2 at o_ l_j2
    have la_j2 := Nat.le_of_eq l_j2
    have lb_j2 := Nat.le_of_eq l_j2.symm
    clear l_j2
    have J2 := Lib.hid o_
    obtain ⟨a_J2, c_J2, rfl, _⟩ := Own.open o_
    clear o_
    go_wp2
    go_ret2
    exact ⟨_, _, rfl, j1, j2, (J1.out.sl).wide (by omega) (by omega), (J2.out.sl).wide (by omega) (by omega), by omega, by omega, HO.out, HR.out.mono (by omega)⟩
  · skip
    go_wp2_with fail
    refine (l20Small_any g _ 14 _ HR.out (by omega) (by omega)).mono ?_
    rintro e w8 ⟨v_OM, rfl, ms, o_, l_ms, h_, r_⟩
    have hs8 := h_.size
    replace OE := Lib.hid (OE.out.outside h_ (.inr (by omega))); replace OF := Lib.hid (OF.out.outside h_ (.inr (by omega))); replace OG := Lib.hid (OG.out.outside h_ (.inr (by omega))); replace OS := Lib.hid (OS.out.outside h_ (.inr (by omega)))
    replace HO := Lib.hid (HO.out.trans h_)
    replace HR := Lib.hid r_
    clear h_ r_
    have OM := Lib.hid o_
    clear o_
    obtain ⟨a_OM, c_OM, rfl, _, _⟩ := Sl.shape OM.out.sl
    go_wp2
    go_ret2
    exact ⟨_, _, rfl, es, ms, (OE.out.sl).wide (by omega) (by omega), (OM.out.sl).wide (by omega) (by omega), by omega, by omega, HO.out, HR.out.mono (by omega)⟩
end

section

/-- What a draw of a list leaves that is read alone. -/
abbrev DrawnS (g c : Nat) (w : World) (most : Nat) : Ending → World → Prop := RetV fun v w' => ∃ xs : List Int, SlI w.heap.size w'.heap.size w' v xs ∧ xs.length ≤ most ∧ Outside g (g + 1) w w' ∧ Rd g w' c

set_option maxRecDepth 100000 in
set_option maxHeartbeats 6400000 in
theorem l20Bound_any (g c : Nat) (n : Int) (w : World) (h : Rd g w c) (hc : c ≤ 1000000) (hn : n ≤ 1000) :
    Calls Tryz.prog 48 #[.pointer (some ⟨g, 0, none⟩), .int .i64 n] w (DrawnS g (c + 2000) w 44) := by
  have hg := h.lt
  have HR := Lib.hid h
  have HO := Lib.hid (Outside.refl g (g + 1) w)
  clear h
  go_enter Tryz.func48, Tryz.ntmps48
  go_wp2_with fail
  refine (l20Kat_any g _ 5 n _ HR.out (by omega) (by omega) (by omega) hn).mono ?_
  rintro e w1 ⟨v_OE, rfl, es, o_, l_es, h_, r_⟩
  have hs1 := h_.size
  replace HO := Lib.hid (HO.out.trans h_)
  replace HR := Lib.hid r_
  clear h_ r_
  have OE := Lib.hid o_
  clear o_
  obtain ⟨a_OE, c_OE, rfl, _, _⟩ := Sl.shape OE.out.sl
  replace OE := Lib.hid OE.out.sl
  go_wp2_with fail
  refine (pick_any g _ _ _ HR.out (by omega)).mono ?_
  rintro e w2 ⟨q, rfl, i_, h_, r_⟩
  obtain ⟨i1_q, i2_q⟩ := i_.lt (by omega)
  clear i_
  have hs2 := h_.size
  replace OE := Lib.hid (OE.out.outside h_ (.inr (by omega)))
  replace HO := Lib.hid (HO.out.trans h_)
  replace HR := Lib.hid r_
  clear h_ r_
  cases hq : q == 0
  · skip
    go_wp2
    go_ret
    exact RetV.mk _ rfl ⟨es, OE.out.wide (by omega) (by omega), by omega, HO.out, HR.out.mono (by omega)⟩
  · skip
    go_wp2_with fail
    refine (l20Laws_any g _ _ HR.out (by omega)).mono ?_
    rintro e w3 ⟨va, vb, rfl, xs, ys, o1_, o2_, l1, l2, h_, r_⟩
    have hs3 := h_.size
    replace OE := Lib.hid (OE.out.outside h_ (.inr (by omega)))
    replace HO := Lib.hid (HO.out.trans h_)
    replace HR := Lib.hid r_
    clear h_ r_
    have OX := Lib.hid o1_
    have OY := Lib.hid o2_
    obtain ⟨ax, cx, rfl, _, _⟩ := Sl.shape o1_
    obtain ⟨ay, cy, rfl, _, _⟩ := Sl.shape o2_
    clear o1_ o2_
    go_wp2_with fail
    refine (pick_any g _ _ _ HR.out (by omega)).mono ?_
    rintro e w4 ⟨q2, rfl, i_, h_, r_⟩
    obtain ⟨i1_q2, i2_q2⟩ := i_.lt (by omega)
    clear i_
    have hs4 := h_.size
    replace OE := Lib.hid (OE.out.outside h_ (.inr (by omega))); replace OX := Lib.hid (OX.out.outside h_ (.inr (by omega))); replace OY := Lib.hid (OY.out.outside h_ (.inr (by omega)))
    replace HO := Lib.hid (HO.out.trans h_)
    replace HR := Lib.hid r_
    clear h_ r_
    cases hq2 : q2 == 0
    · skip
      by_cases h20 : xs.length < 20
      · have h20i : (xs.length : Int) < 20 := by omega
        go_wp2_with fail
        refine (pick_any g _ _ _ HR.out (by omega)).mono ?_
        rintro e w5 ⟨q3, rfl, i_, h_, r_⟩
        obtain ⟨i1_q3, i2_q3⟩ := i_.lt (by omega)
        clear i_
        have hs5 := h_.size
        replace OE := Lib.hid (OE.out.outside h_ (.inr (by omega))); replace OX := Lib.hid (OX.out.outside h_ (.inr (by omega))); replace OY := Lib.hid (OY.out.outside h_ (.inr (by omega)))
        replace HO := Lib.hid (HO.out.trans h_)
        replace HR := Lib.hid r_
        clear h_ r_
        cases hq3 : q3 == 0
        · skip
          go_wp2
          go_ret
          exact RetV.mk _ rfl ⟨xs, OX.out.wide (by omega) (by omega), by omega, HO.out, HR.out.mono (by omega)⟩
        · skip
          go_wp2_with fail
          refine (pick_any g _ _ _ HR.out (by omega)).mono ?_
          rintro e w6 ⟨q4, rfl, i_, h_, r_⟩
          obtain ⟨i1_q4, i2_q4⟩ := i_.lt (by omega)
          clear i_
          have hs6 := h_.size
          replace OE := Lib.hid (OE.out.outside h_ (.inr (by omega))); replace OX := Lib.hid (OX.out.outside h_ (.inr (by omega))); replace OY := Lib.hid (OY.out.outside h_ (.inr (by omega)))
          replace HO := Lib.hid (HO.out.trans h_)
          replace HR := Lib.hid r_
          clear h_ r_
          go_wp2_with fail
          obtain ⟨w7, hw_⟩ : ∃ w_, w_ = w6.alloc (.cells #[.int .i64 (q4 * 15)] 3) := ⟨_, rfl⟩
          obtain ⟨h_, K_, hs7⟩ := box_facts2 hw_
          have HL_ := Lib.hid hw_
          simp only [← hw_]
          clear hw_
          replace OE := Lib.hid (OE.out.below h_ (by omega)); replace OX := Lib.hid (OX.out.below h_ (by omega)); replace OY := Lib.hid (OY.out.below h_ (by omega)); replace HO := Lib.hid (HO.out.below h_ (by omega)); replace HR := Lib.hid (HR.out.below h_ (by omega))
          clear h_
          have OL : Hid (OwnI w6.heap.size w7.heap.size 3 w7 (.slice (some ⟨w6.heap.size, 0, none⟩) 1 1) [q4 * 15]) := Lib.hid (by rw [HL_.out]; exact one_own _ _)
          clear HL_ K_
          skip
          refine (pick_any g _ _ _ HR.out (by omega)).mono ?_
          rintro e w8 ⟨q5, rfl, i_, h_, r_⟩
          obtain ⟨i1_q5, i2_q5⟩ := i_.lt (by omega)
          clear i_
          have hs8 := h_.size
          replace OE := Lib.hid (OE.out.outside h_ (.inr (by omega))); replace OX := Lib.hid (OX.out.outside h_ (.inr (by omega))); replace OY := Lib.hid (OY.out.outside h_ (.inr (by omega))); replace OL := Lib.hid (OL.out.outside h_ (.inr (by omega)))
          replace HO := Lib.hid (HO.out.trans h_)
          replace HR := Lib.hid r_
          clear h_ r_
          go_wp2_with fail
          refine (l2Join_any _ _ _ _ _ _ xs [q4 * 15] (19 + q5) _ OX.out OL.out.sl (by omega) (by omega) (by simp; omega)).mono ?_
          rintro e w9 ⟨v_J, rfl, h_, o_⟩
          have hs9 := h_.size
          replace OE := Lib.hid (OE.out.below h_ (by omega)); replace OX := Lib.hid (OX.out.below h_ (by omega)); replace OY := Lib.hid (OY.out.below h_ (by omega)); replace OL := Lib.hid (OL.out.below h_ (by omega)); replace HO := Lib.hid (HO.out.below h_ (by omega)); replace HR := Lib.hid (HR.out.below h_ (by omega))
          clear h_
          have lj : (xs ++ [q4 * 15] ++ [19 + q5]).length ≤ xs.length + 2 := by simp
          generalize xs ++ [q4 * 15] ++ [19 + q5] = js at o_ lj
          have J := Lib.hid o_
          obtain ⟨aj, cj, rfl, _⟩ := Own.open o_
          clear o_
          go_wp2
          go_ret
          exact RetV.mk _ rfl ⟨js, J.out.sl.wide (by omega) (by omega), by omega, HO.out, HR.out.mono (by omega)⟩
      · have h20i : ¬ (xs.length : Int) < 20 := by omega
        go_wp2
        go_ret
        exact RetV.mk _ rfl ⟨xs, OX.out.wide (by omega) (by omega), by omega, HO.out, HR.out.mono (by omega)⟩
    · skip
      by_cases h20 : ys.length < 20
      · have h20i : (ys.length : Int) < 20 := by omega
        go_wp2_with fail
        refine (pick_any g _ _ _ HR.out (by omega)).mono ?_
        rintro e w5 ⟨q3, rfl, i_, h_, r_⟩
        obtain ⟨i1_q3, i2_q3⟩ := i_.lt (by omega)
        clear i_
        have hs5 := h_.size
        replace OE := Lib.hid (OE.out.outside h_ (.inr (by omega))); replace OX := Lib.hid (OX.out.outside h_ (.inr (by omega))); replace OY := Lib.hid (OY.out.outside h_ (.inr (by omega)))
        replace HO := Lib.hid (HO.out.trans h_)
        replace HR := Lib.hid r_
        clear h_ r_
        cases hq3 : q3 == 0
        · skip
          go_wp2
          go_ret
          exact RetV.mk _ rfl ⟨ys, OY.out.wide (by omega) (by omega), by omega, HO.out, HR.out.mono (by omega)⟩
        · skip
          go_wp2_with fail
          refine (pick_any g _ _ _ HR.out (by omega)).mono ?_
          rintro e w6 ⟨q4, rfl, i_, h_, r_⟩
          obtain ⟨i1_q4, i2_q4⟩ := i_.lt (by omega)
          clear i_
          have hs6 := h_.size
          replace OE := Lib.hid (OE.out.outside h_ (.inr (by omega))); replace OX := Lib.hid (OX.out.outside h_ (.inr (by omega))); replace OY := Lib.hid (OY.out.outside h_ (.inr (by omega)))
          replace HO := Lib.hid (HO.out.trans h_)
          replace HR := Lib.hid r_
          clear h_ r_
          go_wp2_with fail
          obtain ⟨w7, hw_⟩ : ∃ w_, w_ = w6.alloc (.cells #[.int .i64 (q4 * 15)] 3) := ⟨_, rfl⟩
          obtain ⟨h_, K_, hs7⟩ := box_facts2 hw_
          have HL_ := Lib.hid hw_
          simp only [← hw_]
          clear hw_
          replace OE := Lib.hid (OE.out.below h_ (by omega)); replace OX := Lib.hid (OX.out.below h_ (by omega)); replace OY := Lib.hid (OY.out.below h_ (by omega)); replace HO := Lib.hid (HO.out.below h_ (by omega)); replace HR := Lib.hid (HR.out.below h_ (by omega))
          clear h_
          have OL : Hid (OwnI w6.heap.size w7.heap.size 3 w7 (.slice (some ⟨w6.heap.size, 0, none⟩) 1 1) [q4 * 15]) := Lib.hid (by rw [HL_.out]; exact one_own _ _)
          clear HL_ K_
          skip
          refine (pick_any g _ _ _ HR.out (by omega)).mono ?_
          rintro e w8 ⟨q5, rfl, i_, h_, r_⟩
          obtain ⟨i1_q5, i2_q5⟩ := i_.lt (by omega)
          clear i_
          have hs8 := h_.size
          replace OE := Lib.hid (OE.out.outside h_ (.inr (by omega))); replace OX := Lib.hid (OX.out.outside h_ (.inr (by omega))); replace OY := Lib.hid (OY.out.outside h_ (.inr (by omega))); replace OL := Lib.hid (OL.out.outside h_ (.inr (by omega)))
          replace HO := Lib.hid (HO.out.trans h_)
          replace HR := Lib.hid r_
          clear h_ r_
          go_wp2_with fail
          refine (l2Join_any _ _ _ _ _ _ ys [q4 * 15] (19 + q5) _ OY.out OL.out.sl (by omega) (by omega) (by simp; omega)).mono ?_
          rintro e w9 ⟨v_J, rfl, h_, o_⟩
          have hs9 := h_.size
          replace OE := Lib.hid (OE.out.below h_ (by omega)); replace OX := Lib.hid (OX.out.below h_ (by omega)); replace OY := Lib.hid (OY.out.below h_ (by omega)); replace OL := Lib.hid (OL.out.below h_ (by omega)); replace HO := Lib.hid (HO.out.below h_ (by omega)); replace HR := Lib.hid (HR.out.below h_ (by omega))
          clear h_
          have lj : (ys ++ [q4 * 15] ++ [19 + q5]).length ≤ ys.length + 2 := by simp
          generalize ys ++ [q4 * 15] ++ [19 + q5] = js at o_ lj
          have J := Lib.hid o_
          obtain ⟨aj, cj, rfl, _⟩ := Own.open o_
          clear o_
          go_wp2
          go_ret
          exact RetV.mk _ rfl ⟨js, J.out.sl.wide (by omega) (by omega), by omega, HO.out, HR.out.mono (by omega)⟩
      · have h20i : ¬ (ys.length : Int) < 20 := by omega
        go_wp2
        go_ret
        exact RetV.mk _ rfl ⟨ys, OY.out.wide (by omega) (by omega), by omega, HO.out, HR.out.mono (by omega)⟩
end

section

/-- A move comes back. -/
def RetM (P : Mv → World → Prop) (e : Ending) (w' : World) : Prop := ∃ m : Mv, e = .returned (.agg #[.int .i64 m.which, .bool m.back, .int .i64 m.at_]) ∧ P m w'
end

section

/-- Stores into a new block are no matter for what was there. -/
theorem Outside.new3 {g G : Nat} {a w : World} (h : Outside g (g + 1) a w) (hG : a.heap.size ≤ G) (x y z : Value) : Outside g (g + 1) a (((w.setCell ⟨G, 0, none⟩ x).setCell ⟨G, 1, none⟩ y).setCell ⟨G, 2, none⟩ z) :=
  h.fresh (Outside.set3 G w x y z) hG

set_option maxRecDepth 100000 in
set_option maxHeartbeats 6400000 in
theorem l20Fit_any (g c lo hi : Nat) (ve : Value) (e : List Int) (w : World) (h : Rd g w c) (hc : c ≤ 10000000) (hx : SlI lo hi w ve e) (hh : hi ≤ w.heap.size) (hm : e.length ≤ 1000000) (hap : g + 1 ≤ lo) :
    Calls Tryz.prog 86 #[.pointer (some ⟨g, 0, none⟩), ve] w (RetM fun _ w' => Outside g (g + 1) w w' ∧ Rd g w' (c + 100)) := by
  have hg := h.lt
  obtain ⟨w0, hw0⟩ : ∃ w0, w0 = w.alloc (.cells #[.int .i64 0, .bool false, .int .i64 0] 39) := ⟨_, rfl⟩
  have hb0 : Below w.heap.size w w0 := by rw [hw0]; exact (Below.refl _ _).alloc (Nat.le_refl _) _
  have K : Hid (Blk w.heap.size (.cells #[.int .i64 0, .bool false, .int .i64 0] 39) w0) := by rw [hw0]; exact Lib.hid (Blk.new w _)
  have hsz : w0.heap.size = w.heap.size + 1 := by rw [hw0]; simp
  have HR := Lib.hid (h.below hb0 hg)
  have HO := Lib.hid ((Outside.refl g (g + 1) w).below hb0 (Nat.le_refl _))
  obtain ⟨ea, ec, rfl, _, _⟩ := Sl.shape hx
  have HX := Lib.hid (hx.below hb0 hh)
  have HW0 := Lib.hid hw0
  clear h hx hb0 hw0
  go_enter Tryz.func86, Tryz.ntmps86
  go_wp2_with (rw [← HW0.out])
  go_loopw [5] (fun i wr => ∃ j : Nat, j ≤ 24 ∧ i = .int .i64 j ∧ Hid (Outside g (g + 1) w wr ∧ Rd g wr (c + 3 * j) ∧ Blk w.heap.size (.cells #[.int .i64 0, .bool false, .int .i64 0] 39) wr ∧ SlI lo hi wr (.slice ea e.length ec) e ∧ w0.heap.size ≤ wr.heap.size)) (fun i _ => 24 - (intOf i).toNat)
  case atStart => exact ⟨0, by omega, rfl, Lib.hid ⟨HO.out, HR.out, K.out, HX.out, Nat.le_refl _⟩⟩
  case round =>
    clear HO HR K HX
    obtain ⟨j, hj, rfl, HQ⟩ := hrel
    have HO := Lib.hid HQ.out.1
    have HR := Lib.hid HQ.out.2.1
    have K := Lib.hid HQ.out.2.2.1
    have HX := Lib.hid HQ.out.2.2.2.1
    have hsr := HQ.out.2.2.2.2
    clear HQ
    by_cases hlt : j < 24
    · skip
      go_wp2_with fail
      refine (pick_any g _ _ _ HR.out (by omega)).mono ?_
      rintro e w1 ⟨q1, rfl, i_, h_, r_⟩
      obtain ⟨i1_q1, i2_q1⟩ := i_.lt (by omega)
      clear i_
      have hs1 := h_.size
      replace HX := Lib.hid (HX.out.outside h_ (.inr (by omega))); replace K := Lib.hid (K.out.outside h_ (.inr (by omega)))
      replace HO := Lib.hid (HO.out.trans h_)
      replace HR := Lib.hid r_
      clear h_ r_
      go_wp2_with fail
      refine (pick_any g _ _ _ HR.out (by omega)).mono ?_
      rintro e w2 ⟨q2, rfl, i_, h_, r_⟩
      obtain ⟨i1_q2, i2_q2⟩ := i_.lt (by omega)
      clear i_
      have hs2 := h_.size
      replace HX := Lib.hid (HX.out.outside h_ (.inr (by omega))); replace K := Lib.hid (K.out.outside h_ (.inr (by omega)))
      replace HO := Lib.hid (HO.out.trans h_)
      replace HR := Lib.hid r_
      clear h_ r_
      have hmx : (0 : Int) < max (e.length : Int) 1 := by omega
      go_wp2_with fail
      refine (pick_any g _ _ _ HR.out (by omega)).mono ?_
      rintro e3 w3 ⟨q3, rfl, i_, h_, r_⟩
      clear i_
      have hs3 := h_.size
      replace HX := Lib.hid (HX.out.outside h_ (.inr (by omega))); replace K := Lib.hid (K.out.outside h_ (.inr (by omega)))
      replace HO := Lib.hid (HO.out.trans h_)
      replace HR := Lib.hid r_
      clear h_ r_
      obtain ⟨m, hm⟩ : ∃ m : Mv, m = ⟨q1, q2 == 0, q3⟩ := ⟨_, rfl⟩
      go_wp2_with fail
      obtain ⟨w4, hw_⟩ : ∃ w_, w_ = w3.alloc (.cells #[.int .i64 q1, .bool (q2 == 0), .int .i64 q3] 39) := ⟨_, rfl⟩
      obtain ⟨h_, K_, hs4⟩ := box_facts2 hw_
      simp only [← hw_]
      clear hw_
      replace HX := Lib.hid (HX.out.below h_ (by omega)); replace K := Lib.hid (K.out.below h_ (by omega)); replace HO := Lib.hid (HO.out.below h_ (by omega)); replace HR := Lib.hid (HR.out.below h_ (by omega))
      have KM := Lib.hid K_
      clear h_ K_
      refine (spec_MoveDo _ e ⟨q1, q2 == 0, q3⟩ w4 (SlI.rd HX.out (by omega)) (by omega)).mono ?_
      rintro e4 w5 ⟨v4, ok, rfl, h_, hok, o_⟩
      have hs5 := h_.size
      replace HX := Lib.hid (HX.out.below h_ (by omega)); replace K := Lib.hid (K.out.below h_ (by omega)); replace KM := Lib.hid (KM.out.below h_ (by omega)); replace HO := Lib.hid (HO.out.below h_ (by omega)); replace HR := Lib.hid (HR.out.below h_ (by omega))
      obtain ⟨a4, c4, rfl, _⟩ := Own.open o_
      clear h_ o_ hok hm
      cases ok
      · go_wp2
        go_roundw
        case rel => exact ⟨j + 1, by omega, by go_num, Lib.hid ⟨HO.out, HR.out.mono (by omega), K.out, HX.out, by omega⟩⟩
        case measure => simp [intOf]; omega
      · skip
        have m0 := KM.out.cell 0
        have m1 := KM.out.cell 1
        have m2 := KM.out.cell 2
        have f0 := K.out.free 0
        have c0 := K.out.cell 0
        have f1 := K.out.free 1
        have c1 := K.out.cell 1
        have f2 := K.out.free 2
        have c2 := K.out.cell 2
        obtain ⟨wz, hwz⟩ : ∃ wz, wz = ((w5.setCell ⟨w.heap.size, 0, none⟩ (.int .i64 q1)).setCell ⟨w.heap.size, 1, none⟩ (.bool (q2 == 0))).setCell ⟨w.heap.size, 2, none⟩ (.int .i64 q3) := ⟨_, rfl⟩
        have KZ := K.out.set3 (.int .i64 q1) (.bool (q2 == 0)) (.int .i64 q3)
        have HZ : Outside g (g + 1) w wz := by rw [hwz]; exact Outside.new3 HO.out (by omega) (.int .i64 q1) (.bool (q2 == 0)) (.int .i64 q3)
        have HRZ := HR.out.outside (Outside.set3 w.heap.size w5 (.int .i64 q1) (.bool (q2 == 0)) (.int .i64 q3)) (by omega)
        rw [← hwz] at KZ HRZ
        have q0_ := KZ.cell 0
        have q1_ := KZ.cell 1
        have q2_ := KZ.cell 2
        clear KZ
        go_wp2
        simp only [← hwz]
        clear hwz
        refine bodyPost_ret (v := .agg #[(.int .i64 q1), (.bool (q2 == 0)), (.int .i64 q3)]) (by simp [results, Tryz.results86, go_sem, q0_, q1_, q2_]) rfl ⟨⟨_, _, _⟩, rfl, HZ, HRZ.mono (by omega)⟩
    · skip
      go_wp2_with fail
      refine (pick_any g _ _ _ HR.out (by omega)).mono ?_
      rintro e w1 ⟨q4, rfl, i_, h_, r_⟩
      obtain ⟨i1_q4, i2_q4⟩ := i_.lt (by omega)
      clear i_
      have hs1 := h_.size
      replace HX := Lib.hid (HX.out.outside h_ (.inr (by omega))); replace K := Lib.hid (K.out.outside h_ (.inr (by omega)))
      replace HO := Lib.hid (HO.out.trans h_)
      replace HR := Lib.hid r_
      clear h_ r_
      go_wp2_with fail
      refine (pick_any g _ _ _ HR.out (by omega)).mono ?_
      rintro e w2 ⟨q5, rfl, i_, h_, r_⟩
      obtain ⟨i1_q5, i2_q5⟩ := i_.lt (by omega)
      clear i_
      have hs2 := h_.size
      replace HX := Lib.hid (HX.out.outside h_ (.inr (by omega))); replace K := Lib.hid (K.out.outside h_ (.inr (by omega)))
      replace HO := Lib.hid (HO.out.trans h_)
      replace HR := Lib.hid r_
      clear h_ r_
      have f0 := K.out.free 0
      have c0 := K.out.cell 0
      have f1 := K.out.free 1
      have c1 := K.out.cell 1
      have f2 := K.out.free 2
      have c2 := K.out.cell 2
      obtain ⟨wz, hwz⟩ : ∃ wz, wz = ((w2.setCell ⟨w.heap.size, 0, none⟩ (.int .i64 (q4 - 1))).setCell ⟨w.heap.size, 1, none⟩ (.bool false)).setCell ⟨w.heap.size, 2, none⟩ (.int .i64 (q5 - 1)) := ⟨_, rfl⟩
      have KZ := K.out.set3 (.int .i64 (q4 - 1)) (.bool false) (.int .i64 (q5 - 1))
      have HZ : Outside g (g + 1) w wz := by rw [hwz]; exact Outside.new3 HO.out (by omega) (.int .i64 (q4 - 1)) (.bool false) (.int .i64 (q5 - 1))
      have HRZ := HR.out.outside (Outside.set3 w.heap.size w2 (.int .i64 (q4 - 1)) (.bool false) (.int .i64 (q5 - 1))) (by omega)
      rw [← hwz] at KZ HRZ
      have q0_ := KZ.cell 0
      have q1_ := KZ.cell 1
      have q2_ := KZ.cell 2
      clear KZ
      go_wp2
      simp only [← hwz]
      clear hwz
      refine bodyPost_ret (v := .agg #[(.int .i64 (q4 - 1)), (.bool false), (.int .i64 (q5 - 1))]) (by simp [results, Tryz.results86, go_sem, q0_, q1_, q2_]) rfl ⟨⟨_, _, _⟩, rfl, HZ, HRZ.mono (by omega)⟩
end

section

theorem moveV_len40 (xs : List Int) (m : Mv) : ((moveV xs m).getD []).length ≤ 40 := by
  cases h : moveV xs m with
  | none => simp
  | some x => exact (kat_len (moveV_kat' h)).2
theorem OwnM.lower {lo lo' hi hi' e : Nat} {w : World} {v : Value} {l : List Mv} (h : OwnM lo hi e w v l) (h1 : lo' ≤ lo) (h2 : hi ≤ hi') : OwnM lo' hi' e w v l := Own.wide2 h h1 h2

end
end Go.Proofs.YtipbanhelhidnaaGreatDoor
