/-
  Texts of walks and plain lemmas for this seat; no condition.
-/
import Derived.Test.YtadihfjmgckdaaaGreatDoorDRows
import Derived.Test.YtadihfjmgckdaaaGreatDoorGB
import Derived.Test.YtadihfjmgckdaaaGreatDoorStepApp
import Derived.Deep.RegionLaw
import Derived.Deep.RegionHeld3
import Derived.Deep.DeepCutAuto
import Derived.Deep.DrawnRows
namespace Go.Proofs.YtadihfjmgckdaaaGreatDoor
open Go.RowKit
set_option linter.unusedVariables false

def GotM (g c : Nat) (w0 : World) (gM : Nat) (n p q : Int) (va : Value) (wx : World) : Prop := Blk gM (.cells #[.int .i64 n, .int .i64 p, .int .i64 q, va] 31) wx ∧ w0.heap.size ≤ gM ∧ g < gM ∧ Outside g (g + 1) w0 wx ∧ Rd g wx c
theorem gotM1 {g c : Nat} {w0 w2 : World} (O : Outside g (g + 1) w0 w2) (R : Rd g w2 c) (n p q : Int) (va : Value) : GotM g c w0 w2.heap.size n p q va (w2.alloc (.cells #[.int .i64 n, .int .i64 p, .int .i64 q, va] 31)) :=
  ⟨Blk.new w2 _, O.size, R.lt, O.below (al_below _ _) O.size, R.al _⟩
theorem gotM2 {g c gM : Nat} {w0 w2 : World} {x0 x1 x2 x3 : Value} (K : Blk gM (.cells #[x0, x1, x2, x3] 31) w2) (O : Outside g (g + 1) w0 w2) (R : Rd g w2 c) (h : w0.heap.size ≤ gM) (hg : g < gM) (n p q : Int) (va : Value) :
    GotM g c w0 gM n p q va ((((w2.setCell ⟨gM, 0, none⟩ (.int .i64 n)).setCell ⟨gM, 1, none⟩ (.int .i64 p)).setCell ⟨gM, 2, none⟩ (.int .i64 q)).setCell ⟨gM, 3, none⟩ va) :=
  ⟨K.set4 _ _ _ _, h, hg, O.fresh (Outside.set4 _ _ _ _ _ _) h, R.outside (Outside.set4 _ _ _ _ _ _) hg⟩
theorem GotM.drew {g c gM : Nat} {w0 wx : World} {n p q : Int} {va : Value} (h : GotM g c w0 gM n p q va wx) : GotM g c w0 gM n p q va wx.drew := ⟨h.1, h.2.1, h.2.2.1, h.2.2.2.1.drw, h.2.2.2.2⟩
theorem GotM.mono {g c c' gM : Nat} {w0 wx : World} {n p q : Int} {va : Value} (h : GotM g c w0 gM n p q va wx) (hc : c ≤ c') : GotM g c' w0 gM n p q va wx := ⟨h.1, h.2.1, h.2.2.1, h.2.2.2.1, h.2.2.2.2.mono hc⟩
/-- Something happens outside of the struct's block. -/
theorem GotM.out {g c c' gM lo hi : Nat} {w0 wx wy : World} {n p q : Int} {va : Value} (h : GotM g c w0 gM n p q va wx) (ho : Outside lo hi wx wy) (hl : gM < lo ∨ hi ≤ gM) (hO : Outside g (g + 1) w0 wy) (hr : Rd g wy c') : GotM g c' w0 gM n p q va wy :=
  ⟨h.1.outside ho hl, h.2.1, h.2.2.1, hO, hr⟩
theorem GotM.far {g c gM lo hi : Nat} {w0 wx wy : World} {n p q : Int} {va : Value} (h : GotM g c w0 gM n p q va wx) (ho : Outside lo hi wx wy) (hl : gM < lo) : GotM g c w0 gM n p q va wy :=
  ⟨h.1.outside ho (.inl hl), h.2.1, h.2.2.1, h.2.2.2.1.fresh ho (Nat.le_of_lt (Nat.lt_of_le_of_lt h.2.1 hl)), h.2.2.2.2.outside ho (Nat.lt_trans h.2.2.1 hl)⟩
theorem GotM.al {g c gM : Nat} {w0 wx : World} {n p q : Int} {va : Value} (h : GotM g c w0 gM n p q va wx) (o : Obj) : GotM g c w0 gM n p q va (wx.alloc o) :=
  h.far (lo := wx.heap.size) (hi := wx.heap.size) (Outside.of_below (al_below _ _) (Nat.le_refl _)) h.1.lt
/-- A new list of rows. -/
theorem GotM.put {g c gM : Nat} {w0 wx : World} {n p q : Int} {va : Value} (h : GotM g c w0 gM n p q va wx) (vb : Value) : GotM g c w0 gM n p q vb (wx.setCell ⟨gM, 3, none⟩ vb) :=
  ⟨h.1.put 3 vb, h.2.1, h.2.2.1, h.2.2.2.1.fresh (Outside.put gM 3 wx vb) h.2.1, h.2.2.2.2.outside (Outside.put gM 3 wx vb) h.2.2.1⟩

theorem GotM.put1 {g c gM : Nat} {w0 wx : World} {n p q : Int} {va : Value} (h : GotM g c w0 gM n p q va wx) (p' : Int) : GotM g c w0 gM n p' q va (wx.setCell ⟨gM, 1, none⟩ (.int .i64 p')) :=
  ⟨h.1.put 1 (.int .i64 p'), h.2.1, h.2.2.1, h.2.2.2.1.fresh (Outside.put gM 1 wx _) h.2.1, h.2.2.2.2.outside (Outside.put gM 1 wx _) h.2.2.1⟩
theorem own_cell1 {lo hi n cap g e : Nat} {w : World} {ss : List Value} {m : Nat} (h : Own 1 lo hi e w (.slice (some ⟨g, 0, none⟩) n cap) m ss) (hl : ss.length = 3) (j : Nat) (hj : j < 3) : ∃ u, w.cell? ⟨g, j, none⟩ = some u := by
  have := h.1.cells (g := g) rfl j ss[j] (List.getElem?_eq_getElem (by omega))
  rw [Addr.add_lit, Nat.zero_add] at this
  exact ⟨_, this⟩
theorem own_free1 {lo hi n cap g e m : Nat} {w : World} {ss : List Value} (h : Own 1 lo hi e w (.slice (some ⟨g, 0, none⟩) n cap) m ss) (j : Nat) : w.frozen? ⟨g, j, none⟩ = false := by
  obtain ⟨⟨_, h1⟩, _⟩ := h
  rcases h1 with ⟨h1, _⟩ | ⟨g', cap', cur, e1, _, hg, _⟩
  · cases h1
  · simp only [Value.slice.injEq, Option.some.injEq, Addr.mk.injEq, and_true] at e1
    obtain ⟨rfl, _⟩ := e1
    simp [World.frozen?, hg]
/-- A model's values in new memory. -/
def ModelR (w w' : World) (M : Mo) (va : Value) : Prop := SlLL w.heap.size w'.heap.size w' va M.acts ∧ M.acts.length ≤ 3 ∧ ∀ x ∈ M.acts, x.length ≤ 6
theorem ModelR.up {w0 w w' : World} {M : Mo} {va : Value} (h : ModelR w w' M va) (hs : w0.heap.size ≤ w.heap.size) : ModelR w0 w' M va := ⟨h.1.wide hs (Nat.le_refl _), h.2⟩
theorem ModelR.out {g : Nat} {w w1 w2 : World} {M : Mo} {va : Value} (h : ModelR w w1 M va) (ho : Outside g (g + 1) w1 w2) (hg : g + 1 ≤ w.heap.size) : ModelR w w2 M va := ⟨(h.1.outside ho (.inr hg)).wide (Nat.le_refl _) ho.size, h.2⟩
theorem ModelR.below {w w1 w2 : World} {M : Mo} {va : Value} (h : ModelR w w1 M va) (hb : Below w1.heap.size w1 w2) : ModelR w w2 M va := ⟨(h.1.below hb (Nat.le_refl _)).wide (Nat.le_refl _) hb.size, h.2⟩
/-- The model is told. -/
theorem model_end {g c c' gM : Nat} {w w1 wx wz : World} {n p q : Int} {va va' : Value} {xss : List (List Int)} {n' p' q' : Int} (h : GotM g c w1 gM n p q va wx) (O : Outside g (g + 1) w w1) (hw : w.heap.size < w1.heap.size) (hg : g < w.heap.size)
    (hS : SlLL (gM + 1) wx.heap.size wx va' xss) (h3 : xss.length ≤ 3) (h6 : ∀ x ∈ xss, x.length ≤ 6) (OZ : Outside w.heap.size (w.heap.size + 1) wx wz) (hc : c ≤ c') :
    ModelR w wz ⟨n', p', q', xss⟩ va' ∧ Outside g (g + 1) w wz ∧ Rd g wz c' := by
  have h1 := h.2.1
  refine ⟨⟨((hS.outside OZ (.inr (by omega))).wide (by omega) OZ.size), h3, h6⟩, (O.trans h.2.2.2.1).fresh OZ (Nat.le_refl _), (h.2.2.2.2.outside OZ hg).mono hc⟩

set_option maxRecDepth 100000 in
set_option maxHeartbeats 40000000 in
theorem l20Model_any (g c : Nat) (n : Int) (w : World) (h : Rd g w c) (hc : c ≤ 100000000) (hn : n ≤ 1000) :
    Calls Tryz.prog 91 #[.pointer (some ⟨g, 0, none⟩), .int .i64 n] w (RetV fun v w' => ∃ (M : Mo) (va : Value), v = aggMo M va ∧ ModelR w w' M va ∧ Outside g (g + 1) w w' ∧ Rd g w' (c + 500)) := by
  have hg := h.lt
  obtain ⟨w0, hw0⟩ : ∃ w0, w0 = w.alloc (.cells #[.int .i64 0, .int .i64 0, .int .i64 0, .slice none 0 0] 31) := ⟨_, rfl⟩
  obtain ⟨hb0, K_, hs0⟩ := box_facts2 hw0
  have KR := Lib.hid K_
  have HR := Lib.hid (h.below hb0 hg)
  have HO := Lib.hid ((Outside.refl g (g + 1) w).below hb0 (Nat.le_refl _))
  have HW0 := Lib.hid hw0
  clear h hb0 K_ hw0
  go_enter Tryz.func91, Tryz.ntmps91
  go_wp2_with (rw [← HW0.out])
  try rw [← HW0.out]
  refine (pick_any g _ _ _ HR.out (by omega)).mono ?_
  rintro e w1 ⟨q, rfl, i_, h_, r_⟩
  obtain ⟨i1, i2⟩ := i_.lt (by omega)
  obtain ⟨s, rfl⟩ : ∃ s : Nat, q = s := ⟨q.toNat, by omega⟩
  have hs1 := h_.size
  replace KR := Lib.hid (KR.out.outside h_ (.inr (by omega)))
  replace HO := Lib.hid (HO.out.trans h_)
  replace HR := Lib.hid r_
  clear h_ r_ i_ HW0
  have hg1 : g < w1.heap.size := by omega
  go_upto_region 2 with fail
  obtain ⟨N, hN⟩ : ∃ N : Nat, (1 + (s : Int)) = (N : Int) := ⟨s + 1, by omega⟩
  have hN1 : 1 ≤ N := by omega
  have hN5 : N ≤ 5 := by omega
  simp only [hN]
  clear hN i1 i2
  go_cut [6] (fun p wx => ∃ (gM : Nat) (x y : Int), p = .pointer (some ⟨gM, 0, none⟩) ∧ Hid (GotM g (c + 3) w1 gM (N : Int) x y (.slice none 0 0) wx))
  case first =>
    clear HO KR
    go_region_with (first
      | (go_at_call 67; refine (pick_any g (c + 1 + 1) _ _ (by repeat first | with_reducible exact R1.out | with_reducible apply Rd.drew | with_reducible apply Rd.al) (by omega)).mono ?_; rintro e2 w3 ⟨y, rfl, i2_, o2, r2⟩; clear i2_; (have hz2 := o2.size); (have R2 := Lib.hid r2); clear r2; (have O2 : Hid (Outside g (g + 1) w1 w3) := Lib.hid (O1.out.trans (o2.grew (by repeat first | with_reducible exact Grew.refl _ | with_reducible apply Grew.drew | with_reducible apply Grew.al)))); (with_reducible try (first | (have ka : Blk w1.heap.size (.cells #[.int .i64 0, .int .i64 0, .int .i64 0, .slice none 0 0] 31) w3 := Blk.outside KA.out o2 (.inr (by omega)); clear KA; (try clear c0 c1 c2 c3 f0 f1 f2 f3); (have c0 := ka.cell 0); (have c1 := ka.cell 1); (have c2 := ka.cell 2); (have c3 := ka.cell 3); (have f0 := ka.free 0); (have f1 := ka.free 1); (have f2 := ka.free 2); (have f3 := ka.free 3); (have KA := Lib.hid ka); clear ka) | (have ka : Blk w2.heap.size (.cells #[.int .i64 0, .int .i64 0, .int .i64 0, .slice none 0 0] 31) w3 := hop3 o2 hg2; (have c0 := ka.cell 0); (have c1 := ka.cell 1); (have c2 := ka.cell 2); (have c3 := ka.cell 3); (have f0 := ka.free 0); (have f1 := ka.free 1); (have f2 := ka.free 2); (have f3 := ka.free 3); (have KA := Lib.hid ka); clear ka))); clear o2)
      | (go_at_call 67; refine (pick_any g (c + 1) _ _ (by repeat first | with_reducible exact HR.out | with_reducible apply Rd.drew | with_reducible apply Rd.al) (by omega)).mono ?_; rintro e1 w2 ⟨x, rfl, i1_, o1, r1⟩; clear i1_; (have hz1 := o1.size); (have hg2 := r1.lt); (have R1 := Lib.hid r1); clear r1; (have O1 : Hid (Outside g (g + 1) w1 w2) := Lib.hid (o1.grew (by repeat first | with_reducible exact Grew.refl _ | with_reducible apply Grew.drew | with_reducible apply Grew.al))); (with_reducible try (first | (have ka : Blk w1.heap.size (.cells #[.int .i64 0, .int .i64 0, .int .i64 0, .slice none 0 0] 31) w2 := hop1 o1 hg1; (have c0 := ka.cell 0); (have c1 := ka.cell 1); (have c2 := ka.cell 2); (have c3 := ka.cell 3); (have f0 := ka.free 0); (have f1 := ka.free 1); (have f2 := ka.free 2); (have f3 := ka.free 3); (have KA := Lib.hid ka); clear ka) | (have ka : Blk w1.heap.size (.cells #[.int .i64 0, .int .i64 0, .int .i64 0, .slice none 0 0] 31) w2 := hop3 o1 hg1; (have c0 := ka.cell 0); (have c1 := ka.cell 1); (have c2 := ka.cell 2); (have c3 := ka.cell 3); (have f0 := ka.free 0); (have f1 := ka.free 1); (have f2 := ka.free 2); (have f3 := ka.free 3); (have KA := Lib.hid ka); clear ka))); clear o1))
    · go_wp2_with fail
      go_meet
      exact ⟨_, _, _, rfl, Lib.hid (gotM1 O2.out R2.out _ _ _ _)⟩
    · go_wp2_with fail
      go_meet
      exact ⟨_, _, _, rfl, Lib.hid (gotM2 KA.out O2.out R2.out O1.out.size hg2 _ _ _ _)⟩
    · go_wp2_with fail
      go_meet
      exact ⟨_, _, _, rfl, Lib.hid (gotM2 KA.out O2.out R2.out (Nat.le_refl _) hg1 _ _ _ _)⟩
  case rest =>
    obtain ⟨gM, x, y, rfl, HQ⟩ := hcut
    clear HR
    obtain ⟨w2, rfl⟩ : ∃ w2, w2 = wc := ⟨_, rfl⟩
    have hgM := HQ.out.1.lt
    have hgM1 := HQ.out.2.1
    have hgM2 := HQ.out.2.2.1
    have hs2 := HQ.out.2.2.2.1.size
    go_wp2
    go_loopw [7] (fun i wr => ∃ (k : Nat) (va : Value) (ss : List Value), i = .int .i64 k ∧ k ≤ 3 ∧ ss.length = k ∧ Hid (GotM g (c + 3 + 20 * k) w1 gM (N : Int) x y va wr ∧ Grid (gM + 1) wr.heap.size wr va N ss)) (fun i _ => 3 - (intOf i).toNat)
    case atStart => exact ⟨0, .slice none 0 0, [], rfl, by omega, rfl, Lib.hid ⟨HQ.out, Grid.nil _ _ _ _⟩⟩
    case round =>
      obtain ⟨k, va, ss, rfl, hk, hss, HQ⟩ := hrel
      have hgM3 := HQ.out.1.1.lt
      by_cases hlt : k < 3
      · obtain ⟨aa, ac, hva⟩ := HQ.out.2.shape
        rw [hss] at hva
        obtain ⟨wd, hwd⟩ : ∃ wd, wd = wr.drew := ⟨_, rfl⟩
        have hS : wr.drew.cell? ⟨gM, 3, none⟩ = some va := HQ.out.1.1.cell 3
        have HD : Hid (GotM g (c + 3 + 20 * k) w1 gM (N : Int) x y va wr.drew ∧ Grid (gM + 1) wr.drew.heap.size wr.drew va N ss) := Lib.hid ⟨HQ.out.1.drew, HQ.out.2⟩
        have hdz : wr.drew.heap.size = wr.heap.size := rfl
        subst hva
        clear hwd
        go_wp2_with fail
        have hS0 : wr.cell? ⟨gM, 3, none⟩ = some (.slice aa k ac) := HQ.out.1.1.cell 3
        go_region_law (first
          | (go_simp; go_at_call 138; refine (l20Rows_any g (c + 3 + 20 * k) N _ HD.out.1.2.2.2.2 (by omega) (by omega) (by omega)).mono ?_; rintro e3 w3 ⟨v3, rfl, xs, hxl, o3, h3, r3⟩; (have hz3 := h3.size); (have H3 := Lib.hid (And.intro (HD.out.1.out h3 (.inr (by omega)) (HD.out.1.2.2.2.1.trans h3) r3) (And.intro (HD.out.2.outside h3 (.inr (by omega))) o3))); obtain ⟨xa, xc, hv3, _⟩ := Own.open o3; rw [hxl] at hv3; subst hv3; (have L3 : Hid (Sl 1 w3.heap.size (w3.heap.size + 1) (w3.alloc (.cells #[.slice xa N xc] 23)) (.slice (some ⟨w3.heap.size, 0, none⟩) 1 1) 1 [.slice xa N xc]) := Lib.hid (Own.lit 1 23 w3 [.slice xa N xc] 1 (by omega) rfl).sl); (have hS3 : w3.cell? ⟨gM, 3, none⟩ = some (.slice aa k ac) := H3.out.1.1.cell 3); (have hS4 : (w3.alloc (.cells #[.slice xa N xc] 23)).cell? ⟨gM, 3, none⟩ = some (.slice aa k ac) := (H3.out.1.al _).1.cell 3); clear o3 h3 r3)
          | (refine step_app_gr (by rfl) _ _ 29 (by rfl) 23 (.slice none 0 0) 1 24 Tryz.underlying29 info_ints (by rfl) (by decide) (by decide) (by rfl) ((H3.out.2.1.1).below (al_below _ _) (by omega)) (by rfl) L3.out (by intro u hu; simp only [List.mem_singleton] at hu; subst hu; rfl) (by omega) (by simp only [alloc_size]; omega) ?_; intro v5 w5 ho5 hout5 hgr5; (have hz5 : w3.heap.size + 1 ≤ w5.heap.size := by have h := hout5.size; rw [alloc_size] at h; exact h); obtain ⟨ya, yc, hv5⟩ := Own.shape ho5; rw [hss] at hv5; subst hv5; (have H5 : Hid (GotM g (c + 3 + 20 * k + 20) w1 gM (N : Int) x y (.slice aa k ac) w5 ∧ Grid (gM + 1) w5.heap.size w5 (.slice ya (k + 1) yc) N (ss ++ [.slice xa N xc])) := Lib.hid ⟨(H3.out.1.al _).far hout5 (by omega), Grid.push (H3.out.2.1.below (al_below _ _) (by omega)) hgr5 ho5 ((H3.out.2.2.below (al_below _ _) (by omega)).lower (by omega) (by omega)) hxl (by omega)⟩); (have hS5 : w5.cell? ⟨gM, 3, none⟩ = some (.slice aa k ac) := H5.out.1.1.cell 3); (have hF5 : w5.frozen? ⟨gM, 3, none⟩ = false := H5.out.1.1.free 3); clear ho5 hout5 hgr5))
        all_goals (
          go_wp2
          go_roundw
          case rel => exact ⟨k + 1, _, ss ++ [.slice xa N xc], by go_num, by omega, by simp [hss], Lib.hid ⟨(H5.out.1.put (.slice ya (k + 1) yc)).mono (by omega), (H5.out.2.outside (Outside.put gM 3 w5 (.slice ya (k + 1) yc)) (.inr (by omega))).lower (Nat.le_refl _) (Outside.put gM 3 w5 _).size⟩⟩
          case measure => simp [intOf]; omega)
      · obtain rfl : k = 3 := by omega
        have HG := HQ
        clear HQ
        go_wp2_with fail
        refine (pick_any g _ _ _ HG.out.1.2.2.2.2 (by omega)).mono ?_
        rintro e w3 ⟨q, rfl, i_, h_, r_⟩
        obtain ⟨i1, i2⟩ := i_.lt (by omega)
        have hs3 := h_.size
        replace HG : Hid (GotM g (c + 100) w1 gM (N : Int) x y va w3 ∧ Grid (gM + 1) w3.heap.size w3 va N ss) := Lib.hid ⟨(HG.out.1.out h_ (.inr (by omega)) (HG.out.1.2.2.2.1.trans h_) r_).mono (by omega), (HG.out.2.outside h_ (.inr (by omega))).lower (Nat.le_refl _) h_.size⟩
        clear h_ r_ i_
        go_upto_if 37 with fail
        go_cut [6] (fun p wx => p = .pointer (some ⟨gM, 0, none⟩) ∧ Hid (GotM g (c + 200) w1 gM (N : Int) x y va wx ∧ Grid (gM + 1) wx.heap.size wx va N ss))
        case first =>
          cases hq : q == 0
          · go_wp2_with fail
            go_meet
            exact ⟨rfl, Lib.hid ⟨HG.out.1.mono (by omega), HG.out.2⟩⟩
          · go_wp2
            go_loopw [8] (fun i wr => ∃ k : Nat, i = .int .i64 k ∧ k ≤ 3 ∧ Hid (GotM g (c + 100 + 10 * k) w1 gM (N : Int) x y va wr ∧ Grid (gM + 1) wr.heap.size wr va N ss)) (fun i _ => 3 - (intOf i).toNat)
            case atStart => exact ⟨0, rfl, by omega, Lib.hid ⟨HG.out.1, HG.out.2⟩⟩
            case round =>
              obtain ⟨k, rfl, hk, HQ⟩ := hrel
              by_cases hlt : k < 3
              · obtain ⟨wo, rfl⟩ : ∃ x, x = wr := ⟨_, rfl⟩
                have hlt' : (k : Int) < 3 := by omega
                go_wp2
                go_loopw [9] (fun i wr => ∃ j : Nat, i = .int .i64 j ∧ j ≤ N ∧ Hid (GotM g (c + 100 + 10 * k + j) w1 gM (N : Int) x y va wr ∧ Grid (gM + 1) wr.heap.size wr va N ss)) (fun i _ => N - (intOf i).toNat)
                case atStart => exact ⟨0, rfl, by omega, HQ⟩
                case round =>
                  obtain ⟨j, rfl, hj, HQ⟩ := hrel
                  have hgM3 := HQ.out.1.1.lt
                  by_cases hjl : j < N
                  · obtain ⟨gO, cap, gi, ci, hva, hc1, hc2, hss2, hi1, hi2, o1, o2, o3, o4, o5, o6, o7⟩ := HQ.out.2.row (k := k) (by omega) (by omega)
                    obtain ⟨o8, z, o9⟩ := o7 j hjl
                    clear o7
                    unfold maxLen at hc2 hi2
                    have hmem : Value.slice (some ⟨gi, 0, none⟩) N ci ∈ ss := by rw [← hss2]; exact List.getElem_mem _
                    have HMEM := Lib.hid hmem
                    rw [hss2] at o6
                    rw [hss] at hva hc1
                    have HD : Hid (GotM g (c + 100 + 10 * k + j) w1 gM (N : Int) x y va wr.drew ∧ Grid (gM + 1) wr.drew.heap.size wr.drew va N ss) := Lib.hid ⟨HQ.out.1.drew, HQ.out.2⟩
                    have hdz : wr.drew.heap.size = wr.heap.size := rfl
                    subst hva
                    have d1 : wr.drew.cell? ⟨gM, 3, none⟩ = some (.slice (some ⟨gO, 0, none⟩) 3 cap) := HQ.out.1.1.cell 3
                    have d2 : wr.drew.cell? ⟨gO, k, none⟩ = some (.slice (some ⟨gi, 0, none⟩) N ci) := o6
                    have d3 : wr.drew.cell? ⟨gi, j, none⟩ = some (.int .i64 z) := o9
                    have d4 : wr.drew.frozen? ⟨gi, j, none⟩ = false := o8
                    clear hmem hss2 o6 o8 o9
                    go_wp2_with fail
                    have HP : Hid (Calls Tryz.prog 67 #[.pointer (some ⟨g, 0, none⟩), .int .i64 (N : Int)] wr.drew fun e3 w5 => ∃ yy : Nat, e3 = .returned (.int .i64 (yy : Int)) ∧ yy < N ∧ wr.heap.size ≤ w5.heap.size ∧ w5.cell? ⟨gM, 3, none⟩ = some (.slice (some ⟨gO, 0, none⟩) 3 cap) ∧ w5.cell? ⟨gO, k, none⟩ = some (.slice (some ⟨gi, 0, none⟩) N ci) ∧ w5.cell? ⟨gi, j, none⟩ = some (.int .i64 z) ∧ w5.frozen? ⟨gi, j, none⟩ = false ∧ Hid (GotM g (c + 100 + 10 * k + j + 1) w1 gM (N : Int) x y (.slice (some ⟨gO, 0, none⟩) 3 cap) w5 ∧ Grid (gM + 1) w5.heap.size w5 (.slice (some ⟨gO, 0, none⟩) 3 cap) N ss)) := by
                      refine Lib.hid ((pick_any g _ _ _ HD.out.1.2.2.2.2 (by omega)).mono ?_)
                      rintro e3 w5 ⟨qq, rfl, i_, h_, r_⟩
                      obtain ⟨ii1, ii2⟩ := i_.lt (by omega)
                      obtain ⟨yy, rfl⟩ : ∃ yy : Nat, qq = yy := ⟨qq.toNat, by omega⟩
                      have hz5 := h_.size
                      have H5 : GotM g (c + 100 + 10 * k + j + 1) w1 gM (N : Int) x y (.slice (some ⟨gO, 0, none⟩) 3 cap) w5 := HD.out.1.out h_ (.inr (by omega)) (HD.out.1.2.2.2.1.trans h_) r_
                      refine ⟨yy, rfl, by omega, by omega, H5.1.cell 3, ?_, ?_, ?_, Lib.hid ⟨H5, (HD.out.2.outside h_ (.inr (by omega))).lower (Nat.le_refl _) h_.size⟩⟩
                      · rw [World.cell?_of_block (w := wr.drew) (a := ⟨gO, k, none⟩) (h_.block gO (by omega) (.inr (by omega)))]; exact d2
                      · rw [World.cell?_of_block (w := wr.drew) (a := ⟨gi, j, none⟩) (h_.block gi (by omega) (.inr (by omega)))]; exact d3
                      · rw [World.frozen?_of_block (w := wr.drew) (a := ⟨gi, j, none⟩) (h_.block gi (by omega) (.inr (by omega)))]; exact d4
                    go_region_law (first
                      | (go_simp; go_at_call 67; refine HP.out.mono ?_; rintro e3 w5 ⟨yy, rfl, hyy, hz5, m1, m2, m3, m4, H5⟩))
                    all_goals (
                      go_wp2
                      go_roundw
                      case rel => exact ⟨j + 1, by go_num, by omega, Lib.hid ⟨(H5.out.1.far (H5.out.2.store HMEM.out j _).2 (by omega)).mono (by omega), (H5.out.2.store HMEM.out j _).1.lower (Nat.le_refl _) (H5.out.2.store HMEM.out j _).2.size⟩⟩
                      case measure => simp [intOf]; omega)
                  · obtain rfl : j = N := by omega
                    go_wp2
                    go_roundw
                    case rel => exact ⟨k + 1, by go_num, by omega, Lib.hid ⟨HQ.out.1.mono (by omega), HQ.out.2⟩⟩
                    case measure => simp [intOf]; omega
              · obtain rfl : k = 3 := by omega
                go_wp2
                go_meet
                exact ⟨rfl, Lib.hid ⟨HQ.out.1.mono (by omega), HQ.out.2⟩⟩
        case rest =>
          obtain ⟨rfl, HQ⟩ := hcut
          obtain ⟨w3', rfl⟩ : ∃ x, x = wc := ⟨_, rfl⟩
          have HG := HQ
          clear HQ
          obtain ⟨aa, ac, hva⟩ := HG.out.2.shape
          rw [hss] at hva
          go_wp2_with fail
          refine (odd_any g _ _ _ HG.out.1.2.2.2.2 (by omega) (by omega)).mono ?_
          rintro e w4 ⟨b, rfl, h_, r_⟩
          have hs4 := h_.size
          replace HG : Hid (GotM g (c + 201) w1 gM (N : Int) x y va w4 ∧ Grid (gM + 1) w4.heap.size w4 va N ss) := Lib.hid ⟨(HG.out.1.out h_ (.inr (by omega)) (HG.out.1.2.2.2.1.trans h_) r_).mono (by omega), (HG.out.2.outside h_ (.inr (by omega))).lower (Nat.le_refl _) h_.size⟩
          clear h_ r_
          go_upto_if 60 with fail
          go_cut [6] (fun p wx => p = .pointer (some ⟨gM, 0, none⟩) ∧ ∃ (p1 : Int) (vb : Value) (xss : List (List Int)), Hid (GotM g (c + 300) w1 gM (N : Int) p1 y vb wx ∧ SlLL (gM + 1) wx.heap.size wx vb xss ∧ xss.length ≤ 3 ∧ ∀ x ∈ xss, x.length ≤ 6))
          case first =>
            cases b
            · obtain ⟨xss, hS, h3_, h6_⟩ := (HG.out.2.any (by omega)).sl
              go_wp2_with fail
              go_meet
              exact ⟨rfl, x, va, xss, Lib.hid ⟨HG.out.1.mono (by omega), hS, by omega, h6_⟩⟩
            · go_wp2_with fail
              refine (pick_any g _ _ _ HG.out.1.2.2.2.2 (by omega)).mono ?_
              rintro e w5 ⟨q2, rfl, i_, h_, r_⟩
              obtain ⟨j1, j2⟩ := i_.lt (by omega)
              have hs5 := h_.size
              replace HG : Hid (GotM g (c + 202) w1 gM (N : Int) x y va w5 ∧ Grid (gM + 1) w5.heap.size w5 va N ss) := Lib.hid ⟨(HG.out.1.out h_ (.inr (by omega)) (HG.out.1.2.2.2.1.trans h_) r_).mono (by omega), (HG.out.2.outside h_ (.inr (by omega))).lower (Nat.le_refl _) h_.size⟩
              clear h_ r_ i_
              have hq4 : q2 = 0 ∨ q2 = 1 ∨ q2 = 2 ∨ q2 = 3 := by omega
              rcases hq4 with rfl | rfl | rfl | rfl
              · skip
                have KX := KR.out.outside HG.out.1.2.2.2.1 (.inr (by omega))
                have f0 := KX.free 0
                have f1 := KX.free 1
                have f2 := KX.free 2
                have f3 := KX.free 3
                have c0 := KX.cell 0
                have c1 := KX.cell 1
                have c2 := KX.cell 2
                have c3 := KX.cell 3
                obtain ⟨wz, hwz⟩ : ∃ wz, wz = ((((w5.setCell ⟨w.heap.size, 0, none⟩ (.int .i64 0)).setCell ⟨w.heap.size, 1, none⟩ (.int .i64 0)).setCell ⟨w.heap.size, 2, none⟩ (.int .i64 0)).setCell ⟨w.heap.size, 3, none⟩ (.slice none 0 0)) := ⟨_, rfl⟩
                have KZ := KX.set4 (.int .i64 0) (.int .i64 0) (.int .i64 0) (.slice none 0 0)
                have OZ := Outside.set4 w.heap.size w5 (.int .i64 0) (.int .i64 0) (.int .i64 0) (.slice none 0 0)
                rw [← hwz] at KZ OZ
                have z0 := KZ.cell 0
                have z1 := KZ.cell 1
                have z2 := KZ.cell 2
                have z3 := KZ.cell 3
                have OZ' := Lib.hid OZ
                clear KX KZ OZ
                go_wp2_with fail
                simp only [← hwz]
                clear hwz
                refine bodyPost_ret (v := .agg #[.int .i64 0, .int .i64 0, .int .i64 0, (.slice none 0 0)]) (by simp [results, Tryz.results91, go_sem, z0, z1, z2, z3]) rfl ⟨_, rfl, ⟨0, 0, 0, []⟩, .slice none 0 0, rfl, model_end HG.out.1 HO.out (by omega) hg (SlLL.nil _ _ _) (by simp) (by simp) OZ'.out (by omega)⟩
              · skip
                obtain ⟨xss, hS, h3_, h6_⟩ := (HG.out.2.any (by omega)).sl
                subst hva
                have g1 := HG.out.1.1.free 1
                have g2 := HG.out.1.1.cell 1
                go_wp2_with fail
                go_meet
                refine ⟨rfl, _, _, xss, Lib.hid ⟨(HG.out.1.put1 _).mono (by omega), (hS.outside (Outside.put gM 1 w5 _) (.inr (Nat.le_refl _))).wide (Nat.le_refl _) (Outside.put gM 1 w5 _).size, by omega, h6_⟩⟩
              · skip
                obtain ⟨xss0, hS0, h3_, h6_⟩ := (HG.out.2.any (by omega)).sl
                obtain ⟨gO, cap, gi, ci, hv2, hc1, hc2, _, _, _, o1, _, _, o4, _, _, _⟩ := HG.out.2.row (k := 0) (by omega) (by omega)
                rw [hss] at hv2 hc1
                unfold maxLen at hc2
                subst hv2
                injection hva with e1 _ e3
                subst e1 e3
                have g3 := HG.out.1.1.free 3
                have g4 := HG.out.1.1.cell 3
                have q1 : ¬ cap = 1 := by omega
                have q2 : (3 : Int) ≤ cap := by omega
                have q3 : (1 : Int) ≤ cap := by omega
                obtain ⟨x0, xss, rfl⟩ : ∃ x0 r, xss0 = x0 :: r := by
                  cases xss0 with
                  | nil => simp [hss] at h3_
                  | cons a r => exact ⟨a, r, rfl⟩
                have HT := Lib.hid (hS0.tail hc1)
                simp only [List.length_cons] at h3_
                go_wp2_with fail
                go_meet
                refine ⟨rfl, _, _, xss, Lib.hid ⟨(HG.out.1.put _).mono (by omega), (HT.out.outside (Outside.put gM 3 w5 _) (.inr (Nat.le_refl _))).wide (Nat.le_refl _) (Outside.put gM 3 w5 _).size, by omega, fun x hx => h6_ x (by simp [hx])⟩⟩
              · skip
                obtain ⟨gO, cap, gi, ci, hv2, hc1, hc2, _, _, _, o1, _, _, o4, _, _, _⟩ := HG.out.2.row (k := 0) (by omega) (by omega)
                rw [hss] at hv2 hc1
                unfold maxLen at hc2
                subst hv2
                injection hva with e1 _ e3
                subst e1 e3
                have g3 := HG.out.1.1.free 3
                have g4 := HG.out.1.1.cell 3
                have hdz : w5.drew.heap.size = w5.heap.size := rfl
                have q2 : (3 : Int) ≤ cap := by omega
                have d3 : w5.drew.cell? ⟨gM, 3, none⟩ = some (.slice (some ⟨gO, 0, none⟩) 3 cap) := HG.out.1.1.cell 3
                have d1 := own_cell1 HG.out.2.1 hss 1 (by omega)
                have d2 : w5.drew.frozen? ⟨gO, 1, none⟩ = false := own_free1 HG.out.2.1 1
                have HP : Hid (Calls Tryz.prog 138 #[.pointer (some ⟨g, 0, none⟩), .int .i64 ((N : Int) + 1), .int .i64 0] w5.drew fun e3 w6 => ∃ xa xc xs, e3 = .returned (.slice xa (N + 1) xc) ∧ xs.length = N + 1 ∧ w5.heap.size ≤ w6.heap.size ∧ w6.cell? ⟨gM, 3, none⟩ = some (.slice (some ⟨gO, 0, none⟩) 3 cap) ∧ w6.cell? ⟨gO, 1, none⟩ = w5.cell? ⟨gO, 1, none⟩ ∧ w6.frozen? ⟨gO, 1, none⟩ = false ∧ Hid (OwnI (gM + 1) w6.heap.size 3 w6 (.slice xa (N + 1) xc) xs ∧ GotM g (c + 300) w1 gM (N : Int) x y (.slice (some ⟨gO, 0, none⟩) 3 cap) w6 ∧ Grid (gM + 1) w6.heap.size w6 (.slice (some ⟨gO, 0, none⟩) 3 cap) N ss)) := by
                  have hr := l20Rows_any g (c + 202) (N + 1) w5.drew HG.out.1.2.2.2.2 (by omega) (by omega) (by omega)
                  rw [show ((N + 1 : Nat) : Int) = (N : Int) + 1 by omega] at hr
                  refine Lib.hid (hr.mono ?_)
                  rintro e3 w6 ⟨v3, rfl, xs, hxl, o3, h_, r_⟩
                  have hz := h_.size
                  obtain ⟨xa, xc, e3, _⟩ := Own.open o3
                  rw [hxl] at e3
                  subst e3
                  have H6 : GotM g (c + 300) w1 gM (N : Int) x y (.slice (some ⟨gO, 0, none⟩) 3 cap) w6 := (HG.out.1.drew.out h_ (.inr (by omega)) (HG.out.1.2.2.2.1.trans (Outside.undrew h_)) r_).mono (by omega)
                  refine ⟨xa, xc, xs, rfl, hxl, by omega, H6.1.cell 3, ?_, ?_, Lib.hid ⟨o3.lower (by omega) (Nat.le_refl _), H6, (HG.out.2.outside (Outside.undrew h_) (.inr (by omega))).lower (Nat.le_refl _) hz⟩⟩
                  · rw [World.cell?_of_block (w := w5.drew) (a := ⟨gO, 1, none⟩) (h_.block gO (by omega) (.inr (by omega)))]; rfl
                  · rw [World.frozen?_of_block (w := w5.drew) (a := ⟨gO, 1, none⟩) (h_.block gO (by omega) (.inr (by omega)))]; exact d2
                obtain ⟨u1, d1⟩ := d1
                have d4 : w5.drew.cell? ⟨gO, 1, none⟩ = some u1 := d1
                have hwr : IntKind.i64.wrap ((N : Int) + 1) = (N : Int) + 1 := by simp [IntKind.wrap, IntKind.bits, IntKind.signed]; omega
                go_upto_region 17 with fail
                go_region_law (first
                  | (go_simp; go_at_call 138; refine HP.out.mono ?_; rintro e3 w6 ⟨xa, xc, xs, rfl, hxl, hz6, m1, m2, m3, H6⟩; rw [d1] at m2))
                all_goals (
                  have HB_ := GridB.put (H6.out.2.2.any (by omega)) hss.symm H6.out.1 (by omega) 1
                  obtain ⟨xss, hS, h3_, h6_⟩ := HB_.1.sl
                  have hs7 := HB_.2.size
                  have h3' : xss.length ≤ 3 := by rw [h3_]; simp; omega
                  go_wp2_with fail
                  go_meet
                  exact ⟨rfl, _, _, xss, Lib.hid ⟨H6.out.2.1.far HB_.2 (by omega), hS.wide (Nat.le_refl _) hs7, h3', h6_⟩⟩)
          case rest =>
            obtain ⟨rfl, p1, vb, xss, HQ⟩ := hcut
            obtain ⟨w6, rfl⟩ : ∃ x, x = wc := ⟨_, rfl⟩
            have HG := HQ
            clear HQ hva
            have HS := Lib.hid HG.out.2
            have hs6 := HG.out.1.2.2.2.1.size
            obtain ⟨ba, bc, rfl, _, _⟩ := HG.out.2.1.shape
            have k0 := HG.out.1.1.cell 0
            have k1 := HG.out.1.1.cell 1
            have k2 := HG.out.1.1.cell 2
            have k3 := HG.out.1.1.cell 3
            have KX := KR.out.outside HG.out.1.2.2.2.1 (.inr (by omega))
            have f0 := KX.free 0
            have f1 := KX.free 1
            have f2 := KX.free 2
            have f3 := KX.free 3
            have c0 := KX.cell 0
            have c1 := KX.cell 1
            have c2 := KX.cell 2
            have c3 := KX.cell 3
            obtain ⟨wz, hwz⟩ : ∃ wz, wz = ((((w6.setCell ⟨w.heap.size, 0, none⟩ (.int .i64 (N : Int))).setCell ⟨w.heap.size, 1, none⟩ (.int .i64 p1)).setCell ⟨w.heap.size, 2, none⟩ (.int .i64 y)).setCell ⟨w.heap.size, 3, none⟩ (.slice ba xss.length bc)) := ⟨_, rfl⟩
            have KZ := KX.set4 (.int .i64 (N : Int)) (.int .i64 p1) (.int .i64 y) (.slice ba xss.length bc)
            have OZ := Outside.set4 w.heap.size w6 (.int .i64 (N : Int)) (.int .i64 p1) (.int .i64 y) (.slice ba xss.length bc)
            rw [← hwz] at KZ OZ
            have z0 := KZ.cell 0
            have z1 := KZ.cell 1
            have z2 := KZ.cell 2
            have z3 := KZ.cell 3
            have OZ' := Lib.hid OZ
            clear KX KZ OZ
            go_wp2_with fail
            simp only [← hwz]
            clear hwz
            refine bodyPost_ret (v := .agg #[.int .i64 (N : Int), .int .i64 p1, .int .i64 y, (.slice ba xss.length bc)]) (by simp [results, Tryz.results91, go_sem, z0, z1, z2, z3]) rfl ⟨_, rfl, ⟨N, p1, y, xss⟩, (.slice ba xss.length bc), rfl, model_end HG.out.1 HO.out (by omega) hg HS.out.1 HS.out.2.1 HS.out.2.2 OZ'.out (by omega)⟩
end Go.Proofs.YtadihfjmgckdaaaGreatDoor
