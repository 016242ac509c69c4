/-
  Texts of walks and plain lemmas for this seat; no condition.
-/
import Derived.Test.YtacgefknhncgfaaDoorSKatT
import Derived.Test.YtacgefknhncgfaaDoorGD
import Derived.Test.YtacgefknhncgfaaDoorTxtP
import Derived.Deep.DeepCutAuto
namespace Go.Proofs.YtacgefknhncgfaaDoor
open Go.RowKit
set_option linter.unusedVariables false
set_option linter.unusedSimpArgs false

theorem convL (w : World) (x : Nat) :
    Sem.run Tryd.prog (convert 22 9 (.slice (some ⟨w.heap.size, 0, none⟩) 1 1)) (w.alloc (.cells #[.int .u8 (x : Int)] 5)) = .ok (.string ⟨#[UInt8.ofNat x]⟩) (w.alloc (.cells #[.int .u8 (x : Int)] 5)) := by
  have h := conv_lit (P := Tryd.prog) 22 9 5 Tryd.underlying22 Tryd.underlying5 Tryd.underlying9 w [(x : Int)]
  simp only [List.length_cons, List.length_nil, List.map_cons, List.map_nil, Nat.zero_add, Int.toNat_natCast] at h
  exact h
theorem cat2 (l t : List UInt8) : ByteArray.mk l.toArray ++ ByteArray.mk t.toArray = ByteArray.mk (l ++ t).toArray := by
  apply ByteArray.ext
  simp
theorem SlI.cellS {lo hi n cap b off : Nat} {w : World} {xs : List Int} (h : SlI lo hi w (.slice (some ⟨b, off, none⟩) n cap) xs) (i : Nat) (hi' : i < xs.length) : w.cell? ⟨b, off + i, none⟩ = some (.int .i64 xs[i]) := by
  obtain ⟨b', off', e, _, _, _, hc⟩ := h.get i hi'
  injection e with e
  injection e with e1 e2
  subst e1 e2
  exact hc
def TxtC (t : KT) : Prop := ∀ (k lo hi : Nat) (v : Value) (w : World), SlI lo hi w v t.post → t.ok 0 = true → t.size ≤ 40 → k ≤ 3 → hi ≤ w.heap.size →
  Calls Tryd.prog 23 #[v, .int .i64 k] w fun e w' => e = .returned (.string ⟨(txtK t k).toArray⟩) ∧ Below w.heap.size w w'

set_option maxRecDepth 100000 in
set_option maxHeartbeats 6400000 in
theorem l2Text_any : ∀ t : KT, TxtC t := by
  intro t
  induction t with
  | leaf n =>
    intro k lo hi v w hx hok hs hk hh
    simp only [KT.ok, Bool.and_eq_true, decide_eq_true_eq] at hok
    obtain ⟨hn0, hn18⟩ := hok
    obtain ⟨a, cap, rfl, _, _⟩ := Sl.shape hx
    obtain ⟨b, off, rfl, hb1, hb2, hb3, hcell⟩ := hx.get 0 (by simp [KT.post])
    have hc1 : w.cell? ⟨b, off, none⟩ = some (.int .i64 n) := hcell
    have hlen : (KT.leaf n).post.length = 1 := rfl
    rw [hlen]
    clear hx hlen hcell
    by_cases h15 : n ≤ 15
    · obtain ⟨m, rfl⟩ : ∃ m : Nat, n = m := ⟨n.toNat, by omega⟩
      have HT := Lib.hid (show txtK (.leaf (m : Int)) k = testT m by rw [txt_leaf, if_pos h15]; rfl)
      go_enter Tryd.func23, Tryd.ntmps23
      go_wp2_with fail
      refine (spec_TestText m (by omega) w).mono ?_
      rintro e w1 ⟨rfl, hb⟩
      have HB := Lib.hid hb
      clear hb
      go_wp2
      go_ret
      exact ⟨by rw [HT.out]; rfl, HB.out⟩
    · have h3 : n = 16 ∨ n = 17 ∨ n = 18 := by omega
      rcases h3 with rfl | rfl | rfl
      · have hcv : Sem.run Tryd.prog (convert 22 9 (.slice (some ⟨w.heap.size, 0, none⟩) 1 1)) (w.alloc (.cells #[.int .u8 97] 5)) = .ok (.string ⟨#[97]⟩) (w.alloc (.cells #[.int .u8 97] 5)) := convL w 97
        go_enter Tryd.func23, Tryd.ntmps23
        go_wp2
        go_ret
        exact ⟨rfl, al_below _ _⟩
      · have hcv : Sem.run Tryd.prog (convert 22 9 (.slice (some ⟨w.heap.size, 0, none⟩) 1 1)) (w.alloc (.cells #[.int .u8 98] 5)) = .ok (.string ⟨#[98]⟩) (w.alloc (.cells #[.int .u8 98] 5)) := convL w 98
        go_enter Tryd.func23, Tryd.ntmps23
        go_wp2
        go_ret
        exact ⟨rfl, al_below _ _⟩
      · have hcv : Sem.run Tryd.prog (convert 22 9 (.slice (some ⟨w.heap.size, 0, none⟩) 1 1)) (w.alloc (.cells #[.int .u8 99] 5)) = .ok (.string ⟨#[99]⟩) (w.alloc (.cells #[.int .u8 99] 5)) := convL w 99
        go_enter Tryd.func23, Tryd.ntmps23
        go_wp2
        go_ret
        exact ⟨rfl, al_below _ _⟩
  | star x ih =>
    intro k lo hi v w hx hok hs hk hh
    have hokx : x.ok 0 = true := hok
    simp only [KT.size] at hs
    have hlen : (KT.star x).post.length = x.size + 1 := by rw [KT.post_length]; rfl
    obtain ⟨a, cap, rfl, _, hcm⟩ := Sl.shape hx
    unfold maxLen at hcm
    obtain ⟨b, off, rfl⟩ := hx.notNil (by omega)
    have HSX : Hid (SlI lo hi w (.slice (some ⟨b, off, none⟩) x.size cap) x.post) := Lib.hid (by
      have h2 := hx.sub 0 x.size (Nat.zero_le _) (by omega)
      simpa [KT.post, ← KT.post_length] using h2)
    have hc1 : w.cell? ⟨b, off + x.size, none⟩ = some (.int .i64 21) := by
      have := hx.cellS x.size (by omega)
      rw [this]
      simp [KT.post, ← KT.post_length]
    have e4 : x.size ≤ cap := by obtain ⟨_, _, e, h, _⟩ := hx; injection e with _ _ e; omega
    have HTX := Lib.hid (show txtK (.star x) k = txtK x 3 ++ [42] from txt_star x k)
    rw [hlen]
    have hb3 : (txtK x 3).length ≤ 199 := txt_short hokx (by omega) 3 (by omega)
    have IH := Lib.hid ih
    clear ih hok hx
    go_enter Tryd.func23, Tryd.ntmps23
    go_wp2_with fail
    refine (IH.out 3 lo hi _ w HSX.out hokx (by omega) (by omega) hh).mono ?_
    rintro e w1 ⟨rfl, hb⟩
    have HB := Lib.hid hb
    clear hb
    go_wp2
    go_ret
    exact ⟨by rw [HTX.out, ← cat2]; rfl, HB.out⟩
  | bin p x y ihx ihy =>
    intro k lo hi v w hx hok hs hk hh
    simp only [KT.ok, Bool.and_eq_true] at hok
    obtain ⟨hokx, hoky⟩ := hok
    simp only [KT.size] at hs
    have hlen : (KT.bin p x y).post.length = x.size + y.size + 1 := by rw [KT.post_length]; rfl
    have HALF := Lib.hid (show Calls Tryd.prog 37 #[v] w (RetH fun a b w2 => Below w.heap.size w w2 ∧ SlI lo hi w2 a x.post ∧ SlI lo hi w2 b y.post) from
      (l2Halves_any lo hi v 0 p x y w hx (by omega) hoky).mono (by rintro e w2 ⟨va, vb, rfl, ⟨m, rfl⟩, ha, hb⟩; exact ⟨va, vb, rfl, below_drewN (Below.refl _ _) m, ha, hb⟩))
    obtain ⟨a, cap, rfl, _, hcm⟩ := Sl.shape hx
    unfold maxLen at hcm
    obtain ⟨b, off, rfl⟩ := hx.notNil (by omega)
    have hc1 : w.cell? ⟨b, off + (x.size + y.size), none⟩ = some (.int .i64 (KT.op p)) := by
      have := hx.cellS (x.size + y.size) (by omega)
      rw [this]
      simp [KT.post, ← KT.post_length]
    rw [hlen] at HALF ⊢
    have hb1 : (txtK x 1).length ≤ 199 := txt_short hokx (by omega) 1 (by omega)
    have hb2 : (txtK x 2).length ≤ 199 := txt_short hokx (by omega) 2 (by omega)
    have hc2 : (txtK y 2).length ≤ 199 := txt_short hoky (by omega) 2 (by omega)
    have hc3 : (txtK y 3).length ≤ 199 := txt_short hoky (by omega) 3 (by omega)
    have IHX := Lib.hid ihx
    have IHY := Lib.hid ihy
    clear ihx ihy hx
    cases p
    · have hop : KT.op false = 19 := rfl
      rw [hop] at hc1
      have HSIMPLE := Lib.hid (show ¬ 2 < k → txtK (.bin false x y) k = txtK x 2 ++ [59] ++ txtK y 3 from fun h => by
        have h3 : k = 0 ∨ k = 1 ∨ k = 2 := by omega
        rcases h3 with rfl | rfl | rfl <;> first | (exfalso; omega) | simp [txt_zero, txt_seq1, txt_seq2, txt_seq3])
      have HBR := Lib.hid (show 2 < k → txtK (.bin false x y) k = [40] ++ (txtK x 2 ++ [59] ++ txtK y 3) ++ [41] from fun h => by
        have h3 : k = 2 ∨ k = 3 := by omega
        rcases h3 with rfl | rfl <;> first | (exfalso; omega) | simp [txt_zero, txt_seq1, txt_seq2, txt_seq3])
      go_enter Tryd.func23, Tryd.ntmps23
      go_wp2_with fail
      refine HALF.out.mono ?_
      rintro e w2 ⟨va, vb, rfl, h_, ha, hb⟩
      have hs2 := h_.size
      have HB := Lib.hid h_
      have HA := Lib.hid ha
      have HY := Lib.hid hb
      obtain ⟨aa, ac, rfl, _, _⟩ := Sl.shape ha
      obtain ⟨ba, bc, rfl, _, _⟩ := Sl.shape hb
      clear h_ ha hb HALF
      go_wp2_with fail
      refine (IHX.out 2 lo hi _ w2 HA.out hokx (by omega) (by omega) (by omega)).mono ?_
      rintro e w3 ⟨rfl, hb⟩
      have hs3 := hb.size
      replace HB := Lib.hid (HB.out.trans (hb.mono HB.out.size))
      replace HY := Lib.hid (HY.out.below hb (by omega))
      clear hb HA
      go_wp2_with fail
      refine (IHY.out 3 lo hi _ w3 HY.out hoky (by omega) (by omega) (by omega)).mono ?_
      rintro e w4 ⟨rfl, hb⟩
      replace HB := Lib.hid (HB.out.trans (hb.mono HB.out.size))
      clear hb HY
      by_cases hk1 : 2 < k
      · have hk2 : (2 : Int) < (k : Int) := by omega
        have HF := Lib.hid (HBR.out hk1)
        go_wp2
        go_ret
        exact ⟨by rw [HF.out, ← cat2, ← cat2, ← cat2, ← cat2]; rfl, HB.out⟩
      · have hk2 : ¬ (2 : Int) < (k : Int) := by omega
        have HF := Lib.hid (HSIMPLE.out hk1)
        go_wp2
        go_ret
        exact ⟨by rw [HF.out, ← cat2, ← cat2]; rfl, HB.out⟩
    · have hop : KT.op true = 20 := rfl
      rw [hop] at hc1
      have HSIMPLE := Lib.hid (show ¬ 1 < k → txtK (.bin true x y) k = txtK x 1 ++ [43] ++ txtK y 2 from fun h => by
        have h3 : k = 0 ∨ k = 1 ∨ k = 2 := by omega
        rcases h3 with rfl | rfl | rfl <;> first | (exfalso; omega) | simp [txt_zero, txt_or1, txt_or2, txt_or3])
      have HBR := Lib.hid (show 1 < k → txtK (.bin true x y) k = [40] ++ (txtK x 1 ++ [43] ++ txtK y 2) ++ [41] from fun h => by
        have h3 : k = 2 ∨ k = 3 := by omega
        rcases h3 with rfl | rfl <;> first | (exfalso; omega) | simp [txt_zero, txt_or1, txt_or2, txt_or3])
      go_enter Tryd.func23, Tryd.ntmps23
      go_wp2_with fail
      refine HALF.out.mono ?_
      rintro e w2 ⟨va, vb, rfl, h_, ha, hb⟩
      have hs2 := h_.size
      have HB := Lib.hid h_
      have HA := Lib.hid ha
      have HY := Lib.hid hb
      obtain ⟨aa, ac, rfl, _, _⟩ := Sl.shape ha
      obtain ⟨ba, bc, rfl, _, _⟩ := Sl.shape hb
      clear h_ ha hb HALF
      go_wp2_with fail
      refine (IHX.out 1 lo hi _ w2 HA.out hokx (by omega) (by omega) (by omega)).mono ?_
      rintro e w3 ⟨rfl, hb⟩
      have hs3 := hb.size
      replace HB := Lib.hid (HB.out.trans (hb.mono HB.out.size))
      replace HY := Lib.hid (HY.out.below hb (by omega))
      clear hb HA
      go_wp2_with fail
      refine (IHY.out 2 lo hi _ w3 HY.out hoky (by omega) (by omega) (by omega)).mono ?_
      rintro e w4 ⟨rfl, hb⟩
      replace HB := Lib.hid (HB.out.trans (hb.mono HB.out.size))
      clear hb HY
      by_cases hk1 : 1 < k
      · have hk2 : (1 : Int) < (k : Int) := by omega
        have HF := Lib.hid (HBR.out hk1)
        go_wp2
        go_ret
        exact ⟨by rw [HF.out, ← cat2, ← cat2, ← cat2, ← cat2]; rfl, HB.out⟩
      · have hk2 : ¬ (1 : Int) < (k : Int) := by omega
        have HF := Lib.hid (HSIMPLE.out hk1)
        go_wp2
        go_ret
        exact ⟨by rw [HF.out, ← cat2, ← cat2]; rfl, HB.out⟩

theorem spec_KatText (lo hi : Nat) (v : Value) (t : KT) (w : World) (hx : SlI lo hi w v t.post) (hok : t.ok 0 = true) (hs : t.size ≤ 40) (hh : hi ≤ w.heap.size) :
    Calls Tryd.prog 12 #[v] w fun e w' => e = .returned (.string ⟨(txtK t 1).toArray⟩) ∧ Below w.heap.size w w' := by
  have hkv := katV_post hok hs
  have hl : t.post.length ≤ 40 := by rw [KT.post_length]; exact hs
  obtain ⟨a, cap, rfl, _, _⟩ := Sl.shape hx
  have HX := Lib.hid hx
  clear hx
  go_enter Tryd.func12, Tryd.ntmps12
  go_wp2_with fail
  refine (spec_KatValid _ _ _ t.post _ HX.out (by omega)).mono ?_
  rintro e w1 ⟨rfl, rfl⟩
  rw [hkv]
  go_wp2_with fail
  refine (l2Text_any t 0 lo hi _ w HX.out hok hs (by omega) hh).mono ?_
  rintro e w2 ⟨rfl, hb⟩
  have HB := Lib.hid hb
  have HT := Lib.hid (txt_zero t)
  clear hb
  go_wp2
  go_ret
  exact ⟨by rw [HT.out]; rfl, HB.out⟩
end Go.Proofs.YtacgefknhncgfaaDoor
