/-
  Texts of walks and plain lemmas for this seat; no condition.
-/
import Derived.Test.YtacgefknhncgfaaDoorITextK
import Derived.Deep.RegionHeldLaw
import Derived.Deep.RegionHeld3
import Derived.Deep.DeepCutAuto
import Derived.Deep.DrawnRows
namespace Go.Proofs.YtacgefknhncgfaaDoor
open Go.RowKit
set_option linter.unusedVariables false
set_option linter.unusedSimpArgs false

set_option maxRecDepth 100000 in
set_option maxHeartbeats 6400000 in
theorem text_seq (x y : KT) (ihx : TxC x) (ihy : TxC y) : TxC (.bin false x y) := by
  intro lo p w hp hok hs hM
  simp only [KT.ok, Bool.and_eq_true] at hok
  obtain ⟨hokx, hoky⟩ := hok
  simp only [KT.size] at hs
  have hbx : (txtB x [20]).length ≤ 199 := by rw [← txtB_2 hokx]; exact txt_short hokx (by omega) 2 (by omega)
  have hby : (txtB y [20, 19]).length ≤ 199 := by rw [← (txtB_3 hoky).1]; exact txt_short hoky (by omega) 3 (by omega)
  have HT := Lib.hid (show txtK (.bin false x y) 1 = txtB x [20] ++ [59] ++ txtB y [20, 19] by rw [txt_seq1, txtB_2 hokx, (txtB_3 hoky).1]; simp)
  obtain ⟨ps, ⟨b, kv, rfl, _, _, hblk, a, cap, rfl, hpc, hcm, hkid⟩, hstk⟩ := hp.node
  have hpl := hstk.length
  simp only [KT.kids, List.length_cons, List.length_nil] at hpl
  obtain ⟨u0, u1, rfl⟩ : ∃ u0 u1, ps = [u0, u1] := by
    match ps, hpl with
    | [x, y], _ => exact ⟨x, y, rfl⟩
  obtain ⟨gk, ok, rfl, _, _, hgk, kc0⟩ := hkid 0 (by simp)
  obtain ⟨gk', ok', e1, _, _, _, kc1⟩ := hkid 1 (by simp)
  injection e1 with e1
  injection e1 with e1 e2
  subst e1 e2
  have HU0 := Lib.hid hstk.1
  have HU1 := Lib.hid hstk.2.1
  have HMT := Lib.hid hM
  have HW0 : Hid (∀ (w' : World) (lo' hi' : Nat) (v : Value), Below w.heap.size w w' → SlI lo' hi' w' v [20] → Calls Tryd.prog 34 #[u0, v] w' fun e w2 => e = .returned (.string ⟨(txtB x [20]).toArray⟩) ∧ Below w'.heap.size w' w2) :=
    Lib.hid fun w' lo' hi' v hb hr => wrap_any x ihx lo lo' hi' u0 v [20] w' (RT.below HU0.out hb) hokx (by omega) (hM.below hb) hr (by simp)
  have HW1 : Hid (∀ (w' : World) (lo' hi' : Nat) (v : Value), Below w.heap.size w w' → SlI lo' hi' w' v [20, 19] → Calls Tryd.prog 34 #[u1, v] w' fun e w2 => e = .returned (.string ⟨(txtB y [20, 19]).toArray⟩) ∧ Below w'.heap.size w' w2) :=
    Lib.hid fun w' lo' hi' v hb hr => wrap_any y ihy lo lo' hi' u1 v [20, 19] w' (RT.below HU1.out hb) hoky (by omega) (hM.below hb) hr (by simp)
  have hgs : ∀ w', Below w.heap.size w w' → w'.cell? ⟨b, 0, none⟩ = some (.int .i64 19) ∧ w'.cell? ⟨b, 1, none⟩ = some (.slice (some ⟨gk, ok, none⟩) 2 cap) ∧ w'.cell? ⟨gk, ok, none⟩ = some u0 ∧ w'.cell? ⟨gk, ok + 1, none⟩ = some u1 := fun w' hb =>
    ⟨(hblk.below hb hblk.lt).cell 0, (hblk.below hb hblk.lt).cell 1, (hb.cell (p := ⟨gk, ok, none⟩) hgk).trans kc0, (hb.cell (p := ⟨gk, ok + 1, none⟩) hgk).trans kc1⟩
  obtain ⟨c0, c1, kc0', kc1'⟩ := hgs w (Below.refl _ _)
  have HGS := Lib.hid hgs
  have q1 : isActB 19 = false := by decide
  have hbA : Below w.heap.size w ((w.alloc (.cells #[.int .i64 20] 3)).drew) := Below.drew (al_below _ _)
  have hbB : Below w.heap.size w (((w.alloc (.cells #[.int .i64 20] 3)).alloc (.cells #[.int .i64 20, .int .i64 19] 3)).drew) := Below.drew ((al_below w _).alloc (by simp) _)
  have hbC : Below w.heap.size w (((w.alloc (.cells #[.int .i64 20, .int .i64 19] 3)).alloc (.cells #[.int .i64 20] 3)).drew) := Below.drew ((al_below w _).alloc (by simp) _)
  have hrA : SlI w.heap.size (w.heap.size + 1) ((w.alloc (.cells #[.int .i64 20] 3)).drew) (.slice (some ⟨w.heap.size, 0, none⟩) 1 1) [20] := Own.sl (Own.lit 1 3 w (ints [20]) 1 (by omega) rfl)
  have hzB : (((w.alloc (.cells #[.int .i64 20] 3)).alloc (.cells #[.int .i64 20, .int .i64 19] 3)).drew).heap.size = w.heap.size + 2 := by show ((w.alloc _).alloc _).heap.size = _; simp
  have hzC : (((w.alloc (.cells #[.int .i64 20, .int .i64 19] 3)).alloc (.cells #[.int .i64 20] 3)).drew).heap.size = w.heap.size + 2 := by show ((w.alloc _).alloc _).heap.size = _; simp
  have hrB1 : SlI w.heap.size (w.heap.size + 1) (((w.alloc (.cells #[.int .i64 20] 3)).alloc (.cells #[.int .i64 20, .int .i64 19] 3)).drew) (.slice (some ⟨w.heap.size, 0, none⟩) 1 1) [20] := by
    have h : Own 1 w.heap.size (w.heap.size + 1) 3 ((w.alloc (.cells #[.int .i64 20] 3)).alloc (.cells #[.int .i64 20, .int .i64 19] 3)) (.slice (some ⟨w.heap.size, 0, none⟩) 1 1) 1 (ints [20]) := Own.below (Own.lit 1 3 w (ints [20]) 1 (by omega) rfl) (al_below _ _) (by rw [alloc_size]; exact Nat.le_refl _)
    exact Own.sl h
  have hrB2 : SlI (w.heap.size + 1) (w.heap.size + 1 + 1) (((w.alloc (.cells #[.int .i64 20] 3)).alloc (.cells #[.int .i64 20, .int .i64 19] 3)).drew) (.slice (some ⟨w.heap.size + 1, 0, none⟩) 2 2) [20, 19] := by
    have h := Own.lit 1 3 (w.alloc (.cells #[.int .i64 20] 3)) (ints [20, 19]) 2 (by omega) rfl
    rw [alloc_size] at h
    exact Own.sl h
  have hrC2 : SlI w.heap.size (w.heap.size + 1) (((w.alloc (.cells #[.int .i64 20, .int .i64 19] 3)).alloc (.cells #[.int .i64 20] 3)).drew) (.slice (some ⟨w.heap.size, 0, none⟩) 2 2) [20, 19] := by
    have h : Own 1 w.heap.size (w.heap.size + 1) 3 ((w.alloc (.cells #[.int .i64 20, .int .i64 19] 3)).alloc (.cells #[.int .i64 20] 3)) (.slice (some ⟨w.heap.size, 0, none⟩) 2 2) 2 (ints [20, 19]) := Own.below (Own.lit 1 3 w (ints [20, 19]) 2 (by omega) rfl) (al_below _ _) (by rw [alloc_size]; exact Nat.le_refl _)
    exact Own.sl h
  have hrC1 : SlI (w.heap.size + 1) (w.heap.size + 1 + 1) (((w.alloc (.cells #[.int .i64 20, .int .i64 19] 3)).alloc (.cells #[.int .i64 20] 3)).drew) (.slice (some ⟨w.heap.size + 1, 0, none⟩) 1 1) [20] := by
    have h := Own.lit 1 3 (w.alloc (.cells #[.int .i64 20, .int .i64 19] 3)) (ints [20]) 1 (by omega) rfl
    rw [alloc_size] at h
    exact Own.sl h
  have hSA := hgs _ hbA
  have hSB := hgs _ hbB
  have hSC := hgs _ hbC
  have hSD := hgs w.drew (Below.drew (Below.refl _ _))
  clear hp hM hstk hkid hblk hgs
  go_enter Tryd.func22, Tryd.ntmps22
  go_wp2_with fail
  refine (isAct_any _ w).mono ?_
  rintro e w1 ⟨rfl, rfl⟩
  rw [q1]
  go_upto_region 4 with fail
  first
  | (go_region_held_law (fun w' => w'.cell? ⟨b, 0, none⟩ = some (.int .i64 19) ∧ w'.cell? ⟨b, 1, none⟩ = some (.slice (some ⟨gk, ok, none⟩) 2 cap) ∧ w'.cell? ⟨gk, ok, none⟩ = some u0 ∧ w'.cell? ⟨gk, ok + 1, none⟩ = some u1) (first | with_reducible assumption | go_keep) (first
    | ((have g_ := HR2); go_at_call 34; (with_reducible show Calls _ _ _ w2 _); refine (HW1.out w2 _ _ _ H2.out HR2.out).mono ?_; rintro e3 w3 ⟨rfl, h_⟩; (have h3 : Below w.heap.size w w3 := H2.out.trans (h_.mono H2.out.size)); (have hS3 := HGS.out w3 h3); (have H3 := Lib.hid h3); clear h_ h3 g_)
    | ((have g_ := H2); go_at_call 34; (with_reducible show Calls _ _ _ (w2.alloc (.cells #[.int .i64 20, .int .i64 19] 3)) _); refine (HW1.out (w2.alloc (.cells #[.int .i64 20, .int .i64 19] 3)) _ _ _ (H2.out.alloc H2.out.size (.cells #[.int .i64 20, .int .i64 19] 3)) (Own.sl (Own.lit 1 3 w2 (ints [20, 19]) 2 (by omega) rfl))).mono ?_; rintro e3 w3 ⟨rfl, h_⟩; (have h3 : Below w.heap.size w w3 := (H2.out.alloc H2.out.size (.cells #[.int .i64 20, .int .i64 19] 3)).trans (h_.mono (H2.out.alloc H2.out.size (.cells #[.int .i64 20, .int .i64 19] 3)).size)); (have hS3 := HGS.out w3 h3); (have H3 := Lib.hid h3); clear h_ h3 g_)
    | (go_at_call 34; (with_reducible show Calls _ _ _ ((w.alloc (.cells #[.int .i64 20] 3)).drew) _); refine (HW0.out ((w.alloc (.cells #[.int .i64 20] 3)).drew) _ _ _ hbA hrA).mono ?_; rintro e2 w2 ⟨rfl, h_⟩; (have h2 : Below w.heap.size w w2 := hbA.trans (h_.mono hbA.size)); (have hS2 := HGS.out w2 h2); (have hSN2 := HGS.out (w2.alloc (.cells #[.int .i64 20, .int .i64 19] 3)) (h2.alloc h2.size (.cells #[.int .i64 20, .int .i64 19] 3))); (have H2 := Lib.hid h2); clear h_ h2)
    | (go_at_call 34; (with_reducible show Calls _ _ _ (((w.alloc (.cells #[.int .i64 20] 3)).alloc (.cells #[.int .i64 20, .int .i64 19] 3)).drew) _); refine (HW0.out (((w.alloc (.cells #[.int .i64 20] 3)).alloc (.cells #[.int .i64 20, .int .i64 19] 3)).drew) _ _ _ hbB hrB1).mono ?_; rintro e2 w2 ⟨rfl, h_⟩; (have h2 : Below w.heap.size w w2 := hbB.trans (h_.mono hbB.size)); (have hS2 := HGS.out w2 h2); (have hSN2 := HGS.out (w2.alloc (.cells #[.int .i64 20, .int .i64 19] 3)) (h2.alloc h2.size (.cells #[.int .i64 20, .int .i64 19] 3))); (have H2 := Lib.hid h2); (have HR2 := Lib.hid ((hrB2.below h_ (by show w.heap.size + 1 + 1 ≤ _; rw [hzB]; exact Nat.le_refl _)))); clear h_ h2)
    | (go_at_call 34; (with_reducible show Calls _ _ _ (((w.alloc (.cells #[.int .i64 20, .int .i64 19] 3)).alloc (.cells #[.int .i64 20] 3)).drew) _); refine (HW0.out (((w.alloc (.cells #[.int .i64 20, .int .i64 19] 3)).alloc (.cells #[.int .i64 20] 3)).drew) _ _ _ hbC hrC1).mono ?_; rintro e2 w2 ⟨rfl, h_⟩; (have h2 : Below w.heap.size w w2 := hbC.trans (h_.mono hbC.size)); (have hS2 := HGS.out w2 h2); (have hSN2 := HGS.out (w2.alloc (.cells #[.int .i64 20, .int .i64 19] 3)) (h2.alloc h2.size (.cells #[.int .i64 20, .int .i64 19] 3))); (have H2 := Lib.hid h2); (have HR2 := Lib.hid ((hrC2.below h_ (by show w.heap.size + 1 ≤ _; rw [hzC]; omega)))); clear h_ h2)))
  | fail
  all_goals (
    go_wp2
    go_ret
    exact ⟨by rw [HT.out, ← cat2, ← cat2]; rfl, H3.out⟩)

set_option maxRecDepth 100000 in
set_option maxHeartbeats 6400000 in
theorem text_or (x y : KT) (ihx : TxC x) (ihy : TxC y) : TxC (.bin true x y) := by
  intro lo p w hp hok hs hM
  simp only [KT.ok, Bool.and_eq_true] at hok
  obtain ⟨hokx, hoky⟩ := hok
  simp only [KT.size] at hs
  have hbx : (txtK x 1).length ≤ 199 := txt_short hokx (by omega) 1 (by omega)
  have hby : (txtB y [20]).length ≤ 199 := by rw [← txtB_2 hoky]; exact txt_short hoky (by omega) 2 (by omega)
  have HT := Lib.hid (show txtK (.bin true x y) 1 = txtK x 1 ++ [43] ++ txtB y [20] by rw [txt_or1, txtB_2 hoky]; simp)
  obtain ⟨ps, ⟨b, kv, rfl, _, _, hblk, a, cap, rfl, hpc, hcm, hkid⟩, hstk⟩ := hp.node
  have hpl := hstk.length
  simp only [KT.kids, List.length_cons, List.length_nil] at hpl
  obtain ⟨u0, u1, rfl⟩ : ∃ u0 u1, ps = [u0, u1] := by
    match ps, hpl with
    | [x, y], _ => exact ⟨x, y, rfl⟩
  obtain ⟨gk, ok, rfl, _, _, hgk, kc0⟩ := hkid 0 (by simp)
  obtain ⟨gk', ok', e1, _, _, _, kc1⟩ := hkid 1 (by simp)
  injection e1 with e1
  injection e1 with e1 e2
  subst e1 e2
  have HU0 := Lib.hid hstk.1
  have HU1 := Lib.hid hstk.2.1
  have HW0 : Hid (∀ (w' : World), Below w.heap.size w w' → Calls Tryd.prog 22 #[u0] w' fun e w2 => e = .returned (.string ⟨(txtK x 1).toArray⟩) ∧ Below w'.heap.size w' w2) :=
    Lib.hid fun w' hb => ihx lo u0 w' (RT.below HU0.out hb) hokx (by omega) (hM.below hb)
  have HW1 : Hid (∀ (w' : World) (lo' hi' : Nat) (v : Value), Below w.heap.size w w' → SlI lo' hi' w' v [20] → Calls Tryd.prog 34 #[u1, v] w' fun e w2 => e = .returned (.string ⟨(txtB y [20]).toArray⟩) ∧ Below w'.heap.size w' w2) :=
    Lib.hid fun w' lo' hi' v hb hr => wrap_any y ihy lo lo' hi' u1 v [20] w' (RT.below HU1.out hb) hoky (by omega) (hM.below hb) hr (by simp)
  have hgs : ∀ w', Below w.heap.size w w' → w'.cell? ⟨b, 0, none⟩ = some (.int .i64 20) ∧ w'.cell? ⟨b, 1, none⟩ = some (.slice (some ⟨gk, ok, none⟩) 2 cap) ∧ w'.cell? ⟨gk, ok, none⟩ = some u0 ∧ w'.cell? ⟨gk, ok + 1, none⟩ = some u1 := fun w' hb =>
    ⟨(hblk.below hb hblk.lt).cell 0, (hblk.below hb hblk.lt).cell 1, (hb.cell (p := ⟨gk, ok, none⟩) hgk).trans kc0, (hb.cell (p := ⟨gk, ok + 1, none⟩) hgk).trans kc1⟩
  obtain ⟨c0, c1, kc0', kc1'⟩ := hgs w (Below.refl _ _)
  have HGS := Lib.hid hgs
  have q1 : isActB 20 = false := by decide
  have hbD : Below w.heap.size w w.drew := Below.drew (Below.refl _ _)
  have hbA : Below w.heap.size w ((w.alloc (.cells #[.int .i64 20] 3)).drew) := Below.drew (al_below _ _)
  have hzA : ((w.alloc (.cells #[.int .i64 20] 3)).drew).heap.size = w.heap.size + 1 := alloc_size _ _
  have hrA : SlI w.heap.size (w.heap.size + 1) ((w.alloc (.cells #[.int .i64 20] 3)).drew) (.slice (some ⟨w.heap.size, 0, none⟩) 1 1) [20] := Own.sl (Own.lit 1 3 w (ints [20]) 1 (by omega) rfl)
  have hSA := hgs _ hbA
  have hSD := hgs w.drew hbD
  clear hp hM hstk hkid hblk hgs
  go_enter Tryd.func22, Tryd.ntmps22
  go_wp2_with fail
  refine (isAct_any _ w).mono ?_
  rintro e w1 ⟨rfl, rfl⟩
  rw [q1]
  go_upto_region 6 with fail
  first
  | (go_region_held_law (fun w' => w'.cell? ⟨b, 0, none⟩ = some (.int .i64 20) ∧ w'.cell? ⟨b, 1, none⟩ = some (.slice (some ⟨gk, ok, none⟩) 2 cap) ∧ w'.cell? ⟨gk, ok, none⟩ = some u0 ∧ w'.cell? ⟨gk, ok + 1, none⟩ = some u1) (first | with_reducible assumption | go_keep) (first
    | ((have g_ := HR2); go_at_call 34; (with_reducible show Calls _ _ _ w2 _); refine (HW1.out w2 _ _ _ H2.out HR2.out).mono ?_; rintro e3 w3 ⟨rfl, h_⟩; (have h3 : Below w.heap.size w w3 := H2.out.trans (h_.mono H2.out.size)); (have hS3 := HGS.out w3 h3); (have H3 := Lib.hid h3); clear h_ h3 g_)
    | ((have g_ := H2); go_at_call 34; (with_reducible show Calls _ _ _ (w2.alloc (.cells #[.int .i64 20] 3)) _); refine (HW1.out (w2.alloc (.cells #[.int .i64 20] 3)) _ _ _ (H2.out.alloc H2.out.size (.cells #[.int .i64 20] 3)) (Own.sl (Own.lit 1 3 w2 (ints [20]) 1 (by omega) rfl))).mono ?_; rintro e3 w3 ⟨rfl, h_⟩; (have h3 : Below w.heap.size w w3 := (H2.out.alloc H2.out.size (.cells #[.int .i64 20] 3)).trans (h_.mono (H2.out.alloc H2.out.size (.cells #[.int .i64 20] 3)).size)); (have hS3 := HGS.out w3 h3); (have H3 := Lib.hid h3); clear h_ h3 g_)
    | (go_at_call 22; (with_reducible show Calls _ _ _ w.drew _); refine (HW0.out w.drew hbD).mono ?_; rintro e2 w2 ⟨rfl, h_⟩; (have h2 : Below w.heap.size w w2 := hbD.trans (h_.mono hbD.size)); (have hS2 := HGS.out w2 h2); (have hSN2 := HGS.out (w2.alloc (.cells #[.int .i64 20] 3)) (h2.alloc h2.size (.cells #[.int .i64 20] 3))); (have H2 := Lib.hid h2); clear h_ h2)
    | (go_at_call 22; (with_reducible show Calls _ _ _ ((w.alloc (.cells #[.int .i64 20] 3)).drew) _); refine (HW0.out ((w.alloc (.cells #[.int .i64 20] 3)).drew) hbA).mono ?_; rintro e2 w2 ⟨rfl, h_⟩; (have h2 : Below w.heap.size w w2 := hbA.trans (h_.mono hbA.size)); (have hS2 := HGS.out w2 h2); (have hSN2 := HGS.out (w2.alloc (.cells #[.int .i64 20] 3)) (h2.alloc h2.size (.cells #[.int .i64 20] 3))); (have H2 := Lib.hid h2); (have HR2 := Lib.hid (hrA.below h_ (by show w.heap.size + 1 ≤ _; rw [hzA]; exact Nat.le_refl _))); clear h_ h2)))
  | fail
  all_goals (
    go_wp2
    go_ret
    exact ⟨by rw [HT.out, ← cat2, ← cat2]; rfl, H3.out⟩)
theorem text_any : ∀ t : KT, TxC t := by
  intro t
  induction t with
  | leaf n => exact text_leaf n
  | star x ih => exact text_star x ih
  | bin p x y ihx ihy =>
    cases p
    · exact text_seq x y ihx ihy
    · exact text_or x y ihx ihy
end Go.Proofs.YtacgefknhncgfaaDoor
