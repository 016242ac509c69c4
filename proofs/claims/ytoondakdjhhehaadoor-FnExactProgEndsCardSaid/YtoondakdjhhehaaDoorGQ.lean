/-
  Texts of walks and plain lemmas for this seat; no condition.
-/
import Derived.Test.YtoondakdjhhehaaDoorGS
import Derived.Test.YtoondakdjhhehaaDoorGA
import Derived.Test.YtoondakdjhhehaaDoorDKat
import Derived.Test.YtoondakdjhhehaaDoorGE
import Derived.Test.YtoondakdjhhehaaDoorGB
import Derived.Deep.DeepCutAuto
import Derived.Deep.RegionHeld3
import Derived.Deep.DrawnRows
namespace Go.Proofs.YtoondakdjhhehaaDoor
open Go.RowKit
section

theorem five_cases {n : Int} (h : inB n 1 5 = true) : n = 1 ∨ n = 2 ∨ n = 3 ∨ n = 4 ∨ n = 5 := by
  simp only [inB, Bool.and_eq_true, decide_eq_true_eq] at h
  omega
theorem hasStates_any (n : Int) (w : World) : Calls Tryd.prog 89 #[.int .i64 n] w fun e w' => e = .returned (.bool (inB n 1 5)) ∧ w = w' := by
  by_cases h1 : 1 ≤ n
  · by_cases h2 : n ≤ 5
    · go_enter Tryd.func89, Tryd.ntmps89
      go_wp2
      go_ret
      exact ⟨ret_bool (by simp [inB, h1, h2]), rfl⟩
    · go_enter Tryd.func89, Tryd.ntmps89
      go_wp2
      go_ret
      exact ⟨ret_bool (by simp [inB]; omega), rfl⟩
  · go_enter Tryd.func89, Tryd.ntmps89
    go_wp2
    go_ret
    exact ⟨ret_bool (by simp [inB]; omega), rfl⟩
theorem isSet_any (n x : Int) (hn : inB n 1 5 = true) (w : World) : Calls Tryd.prog 90 #[.int .i64 n, .int .i64 x] w fun e w' => e = .returned (.bool (isSetB n x)) ∧ w = w' := by
  by_cases h1 : 0 ≤ x
  · rcases five_cases hn with rfl | rfl | rfl | rfl | rfl
    all_goals
      go_enter Tryd.func90, Tryd.ntmps90
      go_wp2
      go_ret
      refine ⟨ret_bool ?_, rfl⟩
      simp [isSetB, h1]
  · go_enter Tryd.func90, Tryd.ntmps90
    go_wp2
    go_ret
    exact ⟨ret_bool (by simp [isSetB]; omega), rfl⟩
end

section
def idxP {α : Type} (p : α → Bool) (xs : List α) : Int := match xs.findIdx? p with | some i => (i : Nat) | none => -1

theorem idxP_at {α : Type} (p : α → Bool) (xs : List α) (j : Nat) (h : j < xs.length) (hp : p xs[j] = true) (hn : ∀ n, n < j → ∀ h : n < xs.length, p xs[n] = false) : idxP p xs = (j : Nat) := by
  have : xs.findIdx? p = some j := by
    rw [List.findIdx?_eq_some_iff_getElem]
    exact ⟨h, hp, fun n hn' => by have := hn n hn' (by omega); simp [this]⟩
  rw [idxP, this]
theorem idxP_none {α : Type} (p : α → Bool) (xs : List α) (hn : ∀ n (h : n < xs.length), p xs[n] = false) : idxP p xs = -1 := by
  have : xs.findIdx? p = none := by
    rw [List.findIdx?_eq_none_iff]
    intro x hx
    obtain ⟨n, h, rfl⟩ := List.getElem_of_mem hx
    exact hn n h
  rw [idxP, this]
theorem idxP_any {α : Type} (p : α → Bool) (xs : List α) : decide (idxP p xs ≥ 0) = xs.any p := by
  unfold idxP
  cases h : xs.findIdx? p with
  | none =>
    rw [List.findIdx?_eq_none_iff] at h
    simp only [ge_iff_le]
    rw [eq_comm]
    simpa using h
  | some i =>
    rw [List.findIdx?_eq_some_iff_getElem] at h
    obtain ⟨h1, h2, _⟩ := h
    simp only [ge_iff_le]
    rw [eq_comm]
    simp
    exact ⟨xs[i], List.getElem_mem h1, h2⟩

theorem indexFuncI (lo hi : Nat) (v c : Value) (xs : List Int) (p : Int → Bool) (w : World) (hx : SlI lo hi w v xs) (hh : hi ≤ w.heap.size) (hm : xs.length ≤ 1048576)
    (hf : ∀ x w', x ∈ xs → Below w.heap.size w w' → Calls Tryd.prog 109 #[.int .i64 x, c] w' fun e w'' => e = .returned (.bool (p x)) ∧ Below w'.heap.size w' w'') :
    Calls Tryd.prog 112 #[v, .func (.func 109) #[] #[c]] w fun e w' => e = .returned (.int .i64 (idxP p xs)) ∧ Below w.heap.size w w' := by
  have HF := Lib.hid hf
  have HX := Lib.hid hx
  obtain ⟨a, cap, rfl, hcap, hcm, _⟩ := hx.open
  clear hx hcm hcap hf
  go_enter Tryd.func112, Tryd.ntmps112
  go_wp2
  go_loopw [8] (fun i wr => ∃ j : Nat, j ≤ xs.length ∧ i = .int .i64 j ∧ Hid (Below w.heap.size w wr ∧ ∀ n, n < j → ∀ h : n < xs.length, p xs[n] = false)) (fun i _ => xs.length - (intOf i).toNat)
  case atStart => exact ⟨0, by omega, rfl, Lib.hid ⟨Below.refl _ _, fun n h => by omega⟩⟩
  case round =>
    obtain ⟨j, hj, rfl, HQ⟩ := hrel
    by_cases hlt : j < xs.length
    · obtain ⟨b, off, rfl, _, _, _, hcell⟩ := (HX.out.below HQ.out.1 hh).get j hlt
      have HC := Lib.hid (HF.out xs[j] wr (List.getElem_mem hlt) HQ.out.1)
      go_wp2_with fail
      refine HC.out.mono ?_
      rintro e w1 ⟨rfl, hb⟩
      have HB := Lib.hid (HQ.out.1.trans (hb.mono HQ.out.1.size))
      clear hb HC
      cases hp : p xs[j]
      · have HN : Hid (∀ n, n < j + 1 → ∀ h : n < xs.length, p xs[n] = false) := Lib.hid fun n hn h => by
          by_cases e : n = j
          · subst e; exact hp
          · exact HQ.out.2 n (by omega) h
        clear hp
        go_wp2
        go_roundw
        case rel => exact ⟨j + 1, by omega, by go_num, Lib.hid ⟨HB.out, HN.out⟩⟩
        case measure => simp [intOf]; omega
      · have HI := Lib.hid (idxP_at p xs j hlt hp HQ.out.2)
        clear hp
        go_wp2
        go_ret
        exact ⟨ret_int HI.out.symm, HB.out⟩
    · have HI := Lib.hid (idxP_none p xs fun n h => HQ.out.2 n (by omega) h)
      go_wp2
      go_ret
      exact ⟨ret_int HI.out.symm, HQ.out.1⟩

theorem containsFuncI (lo hi : Nat) (v c : Value) (xs : List Int) (p : Int → Bool) (w : World) (hx : SlI lo hi w v xs) (hh : hi ≤ w.heap.size) (hm : xs.length ≤ 1048576)
    (hf : ∀ x w', x ∈ xs → Below w.heap.size w w' → Calls Tryd.prog 109 #[.int .i64 x, c] w' fun e w'' => e = .returned (.bool (p x)) ∧ Below w'.heap.size w' w'') :
    Calls Tryd.prog 108 #[v, .func (.func 109) #[] #[c]] w fun e w' => e = .returned (.bool (xs.any p)) ∧ Below w.heap.size w w' := by
  have HC := Lib.hid (indexFuncI lo hi v c xs p w hx hh hm hf)
  have HI := Lib.hid (idxP_any p xs)
  clear hf
  go_enter Tryd.func108, Tryd.ntmps108
  go_wp2_with fail
  refine HC.out.mono ?_
  rintro e w1 ⟨rfl, hb⟩
  have HB := Lib.hid hb
  clear hb HC
  go_wp2
  go_ret
  exact ⟨ret_bool HI.out, HB.out⟩
theorem rowsValid_fn (g : Nat) (n x : Int) (hn : inB n 1 5 = true) (w : World) (hk : w.cell? ⟨g, 0, none⟩ = some (.int .i64 n)) :
    Calls Tryd.prog 109 #[.int .i64 x, .pointer (some ⟨g, 0, none⟩)] w fun e w' => e = .returned (.bool (!isSetB n x)) ∧ w = w' := by
  go_enter Tryd.func109, Tryd.ntmps109
  go_wp2_with (go_at_call 90; refine (isSet_any n x hn _).mono ?_; rintro e w' ⟨rfl, rfl⟩)
  go_ret
  exact ⟨rfl, rfl⟩
theorem rowsB_any (n : Int) (xs : List Int) (hn : inB n 1 5 = true) (hl : (xs.length : Int) = n) : rowsB n xs = !xs.any (fun x => !isSetB n x) := by
  simp only [rowsB, hn, hl, Bool.true_and, decide_true, List.not_any_eq_all_not, Bool.not_not]
theorem implRowsValid (lo hi : Nat) (n : Int) (v : Value) (xs : List Int) (w : World) (hx : SlI lo hi w v xs) (hh : hi ≤ w.heap.size) (hm : xs.length ≤ 1048576) :
    Calls Tryd.prog 93 #[.int .i64 n, v] w fun e w' => e = .returned (.bool (rowsB n xs)) ∧ Below w.heap.size w w' := by
  have HX := Lib.hid hx
  obtain ⟨a, cap, rfl, hcap, hcm, _⟩ := hx.open
  clear hx hcm hcap
  have HBA := Lib.hid ((Below.refl w.heap.size w).alloc (Nat.le_refl _) (.cells #[.int .i64 n] 3))
  cases hn : inB n 1 5
  · go_enter Tryd.func93, Tryd.ntmps93
    go_wp2_with (go_at_call 89; refine (hasStates_any _ _).mono ?_; rintro e w' ⟨rfl, rfl⟩)
    go_ret
    exact ⟨ret_bool (by simp [rowsB, hn]), HBA.out⟩
  · by_cases hl : (xs.length : Int) = n
    · have HF := Lib.hid (rowsB_any n xs hn hl)
      have HK := Lib.hid (Blk.new w (.cells #[.int .i64 n] 3))
      have HN := Lib.hid hn
      have hle : ((xs.length : Int) != n) = false := by simp [hl]
      clear hl
      go_enter Tryd.func93, Tryd.ntmps93
      go_wp2_with (go_at_call 89; refine (hasStates_any _ _).mono ?_; rintro e w' ⟨rfl, rfl⟩)
      refine (containsFuncI lo hi _ _ xs (fun x => !isSetB n x) _ (HX.out.below HBA.out hh) (by simp; omega) hm fun x w' _ hb => (rowsValid_fn w.heap.size n x HN.out w' (by rw [(HK.out.below hb (by simp)).cell 0]; rfl)).mono ?_).mono ?_
      · rintro e w2 ⟨rfl, rfl⟩
        exact ⟨rfl, Below.refl _ _⟩
      · rintro e w2 ⟨rfl, hb⟩
        have HB := Lib.hid (HBA.out.trans (hb.mono (by simp)))
        clear hb
        go_wp2
        go_ret
        exact ⟨ret_bool HF.out.symm, HB.out⟩
    · have hle : ((xs.length : Int) != n) = true := by simpa using hl
      go_enter Tryd.func93, Tryd.ntmps93
      go_wp2_with (go_at_call 89; refine (hasStates_any _ _).mono ?_; rintro e w' ⟨rfl, rfl⟩)
      go_ret
      exact ⟨ret_bool (by simp [rowsB, hl]), HBA.out⟩

/-- A slice of slices of ints. -/
def SlLL (lo hi : Nat) (w : World) (v : Value) (xss : List (List Int)) : Prop :=
  ∃ a cap, v = .slice a xss.length cap ∧ xss.length ≤ cap ∧ cap ≤ maxLen ∧ ∀ i (h : i < xss.length), ∃ b off u, a = some ⟨b, off, none⟩ ∧ lo ≤ b ∧ b < hi ∧ b < w.heap.size ∧ w.cell? ⟨b, off + i, none⟩ = some u ∧ SlI lo hi w u xss[i]
theorem SlLL.below {lo hi B : Nat} {w w' : World} {v : Value} {xss : List (List Int)} (h : SlLL lo hi w v xss) (hb : Below B w w') (hB : hi ≤ B) : SlLL lo hi w' v xss := by
  obtain ⟨a, cap, e, h1, h2, h3⟩ := h
  refine ⟨a, cap, e, h1, h2, fun i hi' => ?_⟩
  obtain ⟨b, off, u, e1, e2, e3, e4, e5, e6⟩ := h3 i hi'
  exact ⟨b, off, u, e1, e2, e3, Nat.lt_of_lt_of_le e4 hb.size, (hb.cell (p := ⟨b, off + i, none⟩) (Nat.lt_of_lt_of_le e3 hB)).trans e5, e6.below hb hB⟩
theorem SlLL.outside {lo hi lo' hi' : Nat} {w w' : World} {v : Value} {xss : List (List Int)} (h : SlLL lo hi w v xss) (hb : Outside lo' hi' w w') (hd : hi ≤ lo' ∨ hi' ≤ lo) : SlLL lo hi w' v xss := by
  obtain ⟨a, cap, e, h1, h2, h3⟩ := h
  refine ⟨a, cap, e, h1, h2, fun i hi' => ?_⟩
  obtain ⟨b, off, u, e1, e2, e3, e4, e5, e6⟩ := h3 i hi'
  exact ⟨b, off, u, e1, e2, e3, Nat.lt_of_lt_of_le e4 hb.size, by rw [World.cell?_of_block (w := w) (a := ⟨b, off + i, none⟩) (hb.block b e4 (by omega))]; exact e5, e6.outside hb hd⟩
theorem SlLL.wide {lo hi lo' hi' : Nat} {w : World} {v : Value} {xss : List (List Int)} (h : SlLL lo hi w v xss) (h1 : lo' ≤ lo) (h2 : hi ≤ hi') : SlLL lo' hi' w v xss := by
  obtain ⟨a, cap, e, k1, k2, h3⟩ := h
  refine ⟨a, cap, e, k1, k2, fun i hi' => ?_⟩
  obtain ⟨b, off, u, e1, e2, e3, e4, e5, e6⟩ := h3 i hi'
  exact ⟨b, off, u, e1, by omega, by omega, e4, e5, e6.wide h1 h2⟩
theorem SlLL.get {lo hi n cap : Nat} {w : World} {a : Option Addr} {xss : List (List Int)} (h : SlLL lo hi w (.slice a n cap) xss) (i : Nat) (hi' : i < xss.length) :
    ∃ b off u, a = some ⟨b, off, none⟩ ∧ lo ≤ b ∧ b < hi ∧ b < w.heap.size ∧ w.cell? ⟨b, off + i, none⟩ = some u ∧ SlI lo hi w u xss[i] := by
  obtain ⟨a', cap', e, _, _, h3⟩ := h
  injection e with e1 _ _
  subst e1
  exact h3 i hi'
theorem SlLL.shape {lo hi : Nat} {w : World} {v : Value} {xss : List (List Int)} (h : SlLL lo hi w v xss) : ∃ a cap, v = .slice a xss.length cap ∧ xss.length ≤ cap ∧ cap ≤ maxLen := by
  obtain ⟨a, cap, e, h1, h2, _⟩ := h
  exact ⟨a, cap, e, h1, h2⟩
/-- The values of a model. -/
abbrev aggMo (M : Mo) (va : Value) : Value := .agg #[.int .i64 M.n, .int .i64 M.p, .int .i64 M.q, va]
end

section

theorem indexFuncL (lo hi : Nat) (v c : Value) (xss : List (List Int)) (p : List Int → Bool) (w : World) (hx : SlLL lo hi w v xss) (hh : hi ≤ w.heap.size) (hm : xss.length ≤ 1048576)
    (hf : ∀ i (h : i < xss.length) u w', Below w.heap.size w w' → SlI lo hi w' u xss[i] → Calls Tryd.prog 92 #[u, c] w' fun e w'' => e = .returned (.bool (p xss[i])) ∧ Below w'.heap.size w' w'') :
    Calls Tryd.prog 107 #[v, .func (.func 92) #[] #[c]] w fun e w' => e = .returned (.int .i64 (idxP p xss)) ∧ Below w.heap.size w w' := by
  have HF := Lib.hid hf
  have HX := Lib.hid hx
  obtain ⟨a, cap, rfl, hcap, hcm⟩ := hx.shape
  unfold maxLen at hcm
  clear hx hf
  go_enter Tryd.func107, Tryd.ntmps107
  go_wp2
  go_loopw [8] (fun i wr => ∃ j : Nat, j ≤ xss.length ∧ i = .int .i64 j ∧ Hid (Below w.heap.size w wr ∧ ∀ n, n < j → ∀ h : n < xss.length, p xss[n] = false)) (fun i _ => xss.length - (intOf i).toNat)
  case atStart => exact ⟨0, by omega, rfl, Lib.hid ⟨Below.refl _ _, fun n h => by omega⟩⟩
  case round =>
    obtain ⟨j, hj, rfl, HQ⟩ := hrel
    by_cases hlt : j < xss.length
    · obtain ⟨b, off, u, rfl, _, _, _, hcell, hu⟩ := (HX.out.below HQ.out.1 hh).get j hlt
      have HC := Lib.hid (HF.out j hlt u wr HQ.out.1 hu)
      clear hu
      go_wp2_with fail
      refine HC.out.mono ?_
      rintro e w1 ⟨rfl, hb⟩
      have HB := Lib.hid (HQ.out.1.trans (hb.mono HQ.out.1.size))
      clear hb HC
      cases hp : p xss[j]
      · have HN : Hid (∀ n, n < j + 1 → ∀ h : n < xss.length, p xss[n] = false) := Lib.hid fun n hn h => by
          by_cases e : n = j
          · subst e; exact hp
          · exact HQ.out.2 n (by omega) h
        clear hp
        go_wp2
        go_roundw
        case rel => exact ⟨j + 1, by omega, by go_num, Lib.hid ⟨HB.out, HN.out⟩⟩
        case measure => simp [intOf]; omega
      · have HI := Lib.hid (idxP_at p xss j hlt hp HQ.out.2)
        clear hp
        go_wp2
        go_ret
        exact ⟨ret_int HI.out.symm, HB.out⟩
    · have HI := Lib.hid (idxP_none p xss fun n h => HQ.out.2 n (by omega) h)
      go_wp2
      go_ret
      exact ⟨ret_int HI.out.symm, HQ.out.1⟩
theorem containsFuncL (lo hi : Nat) (v c : Value) (xss : List (List Int)) (p : List Int → Bool) (w : World) (hx : SlLL lo hi w v xss) (hh : hi ≤ w.heap.size) (hm : xss.length ≤ 1048576)
    (hf : ∀ i (h : i < xss.length) u w', Below w.heap.size w w' → SlI lo hi w' u xss[i] → Calls Tryd.prog 92 #[u, c] w' fun e w'' => e = .returned (.bool (p xss[i])) ∧ Below w'.heap.size w' w'') :
    Calls Tryd.prog 91 #[v, .func (.func 92) #[] #[c]] w fun e w' => e = .returned (.bool (xss.any p)) ∧ Below w.heap.size w w' := by
  have HC := Lib.hid (indexFuncL lo hi v c xss p w hx hh hm hf)
  have HI := Lib.hid (idxP_any p xss)
  clear hf hx
  go_enter Tryd.func91, Tryd.ntmps91
  go_wp2_with fail
  refine HC.out.mono ?_
  rintro e w1 ⟨rfl, hb⟩
  have HB := Lib.hid hb
  clear hb HC
  go_wp2
  go_ret
  exact ⟨ret_bool HI.out, HB.out⟩
theorem modelValid_fn (lo hi g : Nat) (M : Mo) (va u : Value) (xs : List Int) (w : World) (hk : Blk g (.cells #[.int .i64 M.n, .int .i64 M.p, .int .i64 M.q, va] 25) w) (hu : SlI lo hi w u xs) (hh : hi ≤ w.heap.size) (hm : xs.length ≤ 1048576) :
    Calls Tryd.prog 92 #[u, .pointer (some ⟨g, 0, none⟩)] w fun e w' => e = .returned (.bool (!rowsB M.n xs)) ∧ Below w.heap.size w w' := by
  have c0 := hk.cell 0
  have HC := Lib.hid (implRowsValid lo hi M.n u xs w hu hh hm)
  clear hk hu
  go_enter Tryd.func92, Tryd.ntmps92
  go_wp2_with fail
  refine HC.out.mono ?_
  rintro e w1 ⟨rfl, hb⟩
  have HB := Lib.hid hb
  clear hb HC
  go_wp2
  go_ret
  exact ⟨rfl, HB.out⟩
theorem modB_any (M : Mo) (h1 : inB M.n 1 5 = true) (h2 : isSetB M.n M.p = true) (h3 : isSetB M.n M.q = true) (h4 : M.acts.length = 3) : modB M = !M.acts.any (fun x => !rowsB M.n x) := by
  simp only [modB, h1, h2, h3, h4, Bool.true_and, decide_true, List.not_any_eq_all_not, Bool.not_not]
theorem implModelValid (lo hi : Nat) (M : Mo) (va : Value) (w : World) (hx : SlLL lo hi w va M.acts) (hh : hi ≤ w.heap.size) (hm : M.acts.length ≤ 1048576) (hm2 : ∀ x ∈ M.acts, x.length ≤ 1048576) :
    Calls Tryd.prog 66 #[aggMo M va] w fun e w' => e = .returned (.bool (modB M)) ∧ Below w.heap.size w w' := by
  obtain ⟨n, P, Q, acts⟩ := M
  have HX := Lib.hid hx
  obtain ⟨a, cap, rfl, hcap, hcm⟩ := hx.shape
  unfold maxLen at hcm
  have HM := Lib.hid hm2
  simp only at hm hcap hcm
  clear hx hm2
  have HBA := Lib.hid ((Below.refl w.heap.size w).alloc (Nat.le_refl _) (.cells #[.int .i64 n, .int .i64 P, .int .i64 Q, .slice a acts.length cap] 25))
  cases h1 : inB n 1 5
  · go_enter Tryd.func66, Tryd.ntmps66
    go_wp2_with (go_at_call 89; refine (hasStates_any _ _).mono ?_; rintro e w' ⟨rfl, rfl⟩)
    go_ret
    exact ⟨ret_bool (by simp [modB, h1]), HBA.out⟩
  · cases h2 : isSetB n P
    · go_enter Tryd.func66, Tryd.ntmps66
      go_wp2_with (first | (go_at_call 89; refine (hasStates_any _ _).mono ?_; rintro e w' ⟨rfl, rfl⟩) | (go_at_call 90; refine (isSet_any _ _ h1 _).mono ?_; rintro e w' ⟨rfl, rfl⟩))
      go_ret
      exact ⟨ret_bool (by simp [modB, h2]), HBA.out⟩
    · cases h3 : isSetB n Q
      · have hne : n = n := rfl
        go_enter Tryd.func66, Tryd.ntmps66
        go_wp2_with (first | (go_at_call 89; refine (hasStates_any _ _).mono ?_; rintro e w' ⟨rfl, rfl⟩) | (go_at_call 90; refine (isSet_any _ _ h1 _).mono ?_; rintro e w' ⟨rfl, rfl⟩))
        go_ret
        exact ⟨ret_bool (by simp [modB, h3]), HBA.out⟩
      · by_cases h4 : acts.length = 3
        · have HF := Lib.hid (modB_any ⟨n, P, Q, acts⟩ h1 h2 h3 h4)
          have HK := Lib.hid (Blk.new w (.cells #[.int .i64 n, .int .i64 P, .int .i64 Q, .slice a acts.length cap] 25))
          have hle : ((acts.length : Int) != 3) = false := by simp [h4]
          clear h4
          go_enter Tryd.func66, Tryd.ntmps66
          go_wp2_with (first | (go_at_call 89; refine (hasStates_any _ _).mono ?_; rintro e w' ⟨rfl, rfl⟩) | (go_at_call 90; refine (isSet_any _ _ h1 _).mono ?_; rintro e w' ⟨rfl, rfl⟩))
          refine (containsFuncL lo hi _ _ acts (fun x => !rowsB n x) _ (HX.out.below HBA.out hh) (by simp; omega) hm fun i h u w' hb hu => modelValid_fn lo hi w.heap.size ⟨n, P, Q, acts⟩ _ u acts[i] w' (HK.out.below hb (by simp)) hu (Nat.le_trans (Nat.le_trans hh (by simp)) hb.size) (HM.out _ (List.getElem_mem h))).mono ?_
          rintro e w2 ⟨rfl, hb⟩
          have HB := Lib.hid (HBA.out.trans (hb.mono (by simp)))
          clear hb
          go_wp2
          go_ret
          exact ⟨ret_bool HF.out.symm, HB.out⟩
        · have hle : ((acts.length : Int) != 3) = true := by simp; omega
          go_enter Tryd.func66, Tryd.ntmps66
          go_wp2_with (first | (go_at_call 89; refine (hasStates_any _ _).mono ?_; rintro e w' ⟨rfl, rfl⟩) | (go_at_call 90; refine (isSet_any _ _ h1 _).mono ?_; rintro e w' ⟨rfl, rfl⟩))
          go_ret
          exact ⟨ret_bool (by simp [modB, h4]), HBA.out⟩
end

section

theorem bit_and {set k : Nat} (hs : set < 4611686018427387904) : (bits .and .i64 ((set : Int) / 2 ^ k) 1 == 1) = set.testBit k := by
  have h1 : ((set : Int) / 2 ^ k) = ((set / 2 ^ k : Nat) : Int) := by push_cast; rfl
  have h2 : set / 2 ^ k < 4611686018427387904 := Nat.lt_of_le_of_lt (Nat.div_le_self _ _) hs
  rw [h1, show (1 : Int) = ((1 : Nat) : Int) from rfl, bits64_and _ _ h2 (by omega), Nat.testBit_eq_decide_div_mod_eq, Nat.and_one_is_mod]
  rw [Bool.eq_iff_iff]
  simp
  omega
theorem imgT_small {rows : List Int} (hr : ∀ s (h : s < rows.length), 0 ≤ rows[s] ∧ rows[s].toNat < 2 ^ 20) (set k : Nat) : imgT rows set k < 1048576 := imgT_lt (n := 20) (fun s h => (hr s h).2) set k
theorem image_any (lo hi : Nat) (v : Value) (rows : List Int) (set : Nat) (w : World) (hx : SlI lo hi w v rows) (hm : rows.length ≤ 60) (hs : set < 1099511627776) (hr : ∀ s (h : s < rows.length), 0 ≤ rows[s] ∧ rows[s].toNat < 2 ^ 20) :
    Calls Tryd.prog 110 #[v, .int .i64 (set : Nat)] w fun e w' => e = .returned (.int .i64 ((imgT rows set rows.length : Nat) : Int)) ∧ w = w' := by
  have HR := Lib.hid hr
  obtain ⟨a, cap, rfl, hcap, hcm, hc⟩ := hx.open
  clear hx hcm hcap hr
  go_enter Tryd.func110, Tryd.ntmps110
  go_wp2
  go_loop [5, 10] (fun o i => ∃ k : Nat, k ≤ rows.length ∧ i = .int .i64 k ∧ o = .int .i64 ((imgT rows set k : Nat) : Int)) (fun _ i => rows.length - (intOf i).toNat)
  case atStart => exact ⟨0, by omega, rfl, rfl⟩
  case round =>
    obtain ⟨k, hk, rfl, rfl⟩ := hrel
    by_cases hlt : k < rows.length
    · obtain ⟨b, off, rfl, _, _, _, hcell⟩ := hc k hlt
      clear hc
      obtain ⟨x, hx⟩ : ∃ x : Nat, rows[k] = x := ⟨rows[k].toNat, by have := (HR.out k hlt).1; omega⟩
      have hxs := (HR.out k hlt).2
      rw [hx, Int.toNat_natCast] at hxs
      rw [hx] at hcell
      have hg : (rows.getD k 0).toNat = x := by simp [List.getD, List.getElem?_eq_getElem hlt, hx]
      cases hb : set.testBit k
      · have hbb := (bit_and (k := k) (show set < 4611686018427387904 by omega)).trans hb
        have HN : Hid (imgT rows set (k + 1) = imgT rows set k) := Lib.hid (by rw [imgT, hb]; simp)
        clear hb hx hg
        go_wp2
        go_round
        case rel => exact ⟨k + 1, by omega, by go_num, by rw [HN.out]⟩
        case measure => simp [intOf]; omega
      · have hbb := (bit_and (k := k) (show set < 4611686018427387904 by omega)).trans hb
        have HN : Hid (imgT rows set (k + 1) = imgT rows set k ||| x) := Lib.hid (by rw [imgT, hb, hg]; simp)
        have HO := Lib.hid (bits64_or (imgT rows set k) x (by have := imgT_small HR.out set k; omega) (by omega))
        clear hb hx hg
        go_wp2
        go_round
        case rel => exact ⟨k + 1, by omega, by go_num, by rw [HN.out, HO.out]⟩
        case measure => simp [intOf]; omega
    · obtain rfl : k = rows.length := by omega
      go_wp2
      go_ret
      exact ⟨rfl, rfl⟩
/-- Valid rows are small. -/
theorem rowsB_small {n : Int} {rows : List Int} (h : rowsB n rows = true) : rows.length = n.toNat ∧ n.toNat ≤ 5 ∧ ∀ s (hs : s < rows.length), 0 ≤ rows[s] ∧ rows[s].toNat < 2 ^ 20 := by
  have h0 := h
  simp only [rowsB, Bool.and_eq_true, decide_eq_true_eq, List.all_eq_true, inB] at h
  obtain ⟨⟨⟨h1, h1'⟩, h2⟩, h3⟩ := h
  refine ⟨by omega, by omega, fun s hs => ⟨?_, Nat.lt_of_lt_of_le (rowsB_lt h0 s hs) (Nat.pow_le_pow_right (by omega) (by omega))⟩⟩
  have := h3 _ (List.getElem_mem hs)
  simp only [isSetB, Bool.and_eq_true, decide_eq_true_eq] at this
  exact this.1
/-- Rows are handed back, new. -/
abbrev RowsNew (w : World) (xs : List Int) : Ending → World → Prop := RetV fun v w' => OwnI w.heap.size w'.heap.size 3 w' v xs ∧ Below w.heap.size w w'
theorem rowsR_valid {n : Int} (hn : inB n 1 5 = true) (R : Nat → Nat → Prop) : rowsB n (rowsR n.toNat R) = true := by
  have h := hn
  simp only [inB, Bool.and_eq_true, decide_eq_true_eq] at h
  simp only [rowsB, hn, Bool.true_and, Bool.and_eq_true, decide_eq_true_eq, List.all_eq_true]
  refine ⟨by rw [rowsR_length]; omega, fun x hx => ?_⟩
  obtain ⟨s, hs, rfl⟩ := List.getElem_of_mem hx
  rw [rowsR_get]
  have := bitsN_lt (R s) n.toNat
  simp only [isSetB, Bool.and_eq_true, decide_eq_true_eq]
  refine ⟨by omega, ?_⟩
  have h2 : ((bitsN n.toNat (R s) : Nat) : Int) < ((2 ^ n.toNat : Nat) : Int) := by exact_mod_cast this
  push_cast at h2
  exact h2
end

section

set_option maxRecDepth 100000 in
set_option maxHeartbeats 1600000 in
theorem rowsThen_any (la ha lb hb : Nat) (n : Int) (va vb : Value) (xs ys : List Int) (w : World) (hx : SlI la ha w va xs) (hy : SlI lb hb w vb ys) (hha : ha ≤ w.heap.size) (hhb : hb ≤ w.heap.size) (h1 : rowsB n xs = true) (h2 : rowsB n ys = true) :
    Calls Tryd.prog 96 #[.int .i64 n, va, vb] w (RowsNew w (xs.map fun x => ((imgT ys x.toNat ys.length : Nat) : Int))) := by
  have s1 := rowsB_small h1
  have s2 := rowsB_small h2
  have H1 := Lib.hid h1
  have H2 := Lib.hid h2
  have HX := Lib.hid hx
  have HY := Lib.hid hy
  obtain ⟨l1, l5, S1⟩ := s1
  obtain ⟨l2, _, S2⟩ := s2
  have HS1 := Lib.hid S1
  have HS2 := Lib.hid S2
  have x5 : xs.length ≤ 5 := by omega
  have y5 : ys.length ≤ 5 := by omega
  have HLE : Hid (ys.length = xs.length) := Lib.hid (by omega)
  clear l1 l2 l5
  obtain ⟨xa, xc, rfl, _, _⟩ := Sl.shape hx
  obtain ⟨ya, yc, rfl, _, _⟩ := Sl.shape hy
  clear hx hy h1 h2 S1 S2
  obtain ⟨zs, hzs⟩ : ∃ zs, zs = xs.map fun x => ((imgT ys x.toNat ys.length : Nat) : Int) := ⟨_, rfl⟩
  rw [← hzs]
  have HZL : Hid (zs.length = xs.length) := Lib.hid (by rw [hzs]; simp)
  have HZ : Hid (∀ k (h : k < xs.length), zs[k]? = some (((imgT ys xs[k].toNat ys.length : Nat) : Int))) := Lib.hid (by
    intro k h
    rw [hzs]
    simp [h])
  clear hzs
  go_enter Tryd.func96, Tryd.ntmps96
  go_wp2_with fail
  refine (implRowsValid _ _ n _ xs w HX.out hha (by omega)).mono ?_
  rintro e w1 ⟨rfl, hb1⟩
  rw [H1.out]
  have hs1 := hb1.size
  replace HX := Lib.hid (HX.out.below hb1 hha)
  replace HY := Lib.hid (HY.out.below hb1 hhb)
  have HB := Lib.hid hb1
  clear hb1
  go_wp2_with fail
  refine (implRowsValid _ _ n _ ys w1 HY.out (by omega) (by omega)).mono ?_
  rintro e w2 ⟨rfl, hb2⟩
  rw [H2.out]
  have hs2 := hb2.size
  replace HX := Lib.hid (HX.out.below hb2 (by omega))
  replace HY := Lib.hid (HY.out.below hb2 (by omega))
  replace HB := Lib.hid (HB.out.trans (hb2.mono hs1))
  clear hb2
  go_wp2_with fail
  go_loopw [7, 22] (fun ov iv wr => ∃ (k : Nat) (oa : Option Addr) (oc : Nat) (os : List Int), ov = .slice oa os.length oc ∧ iv = .int .i64 k ∧ k ≤ xs.length ∧ os = zs.take k ∧ os.length ≤ 5 ∧ Hid (Below w2.heap.size w2 wr ∧ OwnI w2.heap.size wr.heap.size 3 wr (.slice oa os.length oc) os)) (fun _ i _ => xs.length - (intOf i).toNat)
  case atStart => exact ⟨0, none, 0, [], rfl, rfl, by omega, by simp, by simp, Lib.hid ⟨Below.refl _ _, Own.nil _ _ _ _ _⟩⟩
  case round =>
    obtain ⟨k, oa, oc, os, rfl, rfl, hk, hos, hol, HQ⟩ := hrel
    by_cases hlt : k < xs.length
    · have HOS := Lib.hid hos
      clear hos
      have hk5 : k < 5 := by omega
      have hol2 : os.length ≤ 4 := by rw [HOS.out, List.length_take]; omega
      have HXr := Lib.hid (HX.out.below HQ.out.1 (by omega))
      have HYr := Lib.hid (HY.out.below HQ.out.1 (by omega))
      obtain ⟨x, hxk⟩ : ∃ x : Nat, xs[k] = x := ⟨xs[k].toNat, by have := (HS1.out k hlt).1; omega⟩
      have hxs := (HS1.out k hlt).2
      rw [hxk, Int.toNat_natCast] at hxs
      obtain ⟨b, off, rfl, _, _, _, hcell⟩ := HXr.out.get k hlt
      rw [hxk] at hcell
      have HZk := Lib.hid (HZ.out k hlt)
      rw [hxk] at HZk
      clear hxk
      go_upto_region 8 with (first | (go_at_call 110; refine (image_any _ _ _ ys x _ HYr.out (by omega) (by omega) HS2.out).mono ?_; rintro e w4 ⟨rfl, rfl⟩) | (at_builtin; refine wpList_app_lit _ rfl _ _ 43 rfl 3 (.int .i64 0) 1 8 Tryd.underlying43 info_int rfl (by decide) (by decide) rfl HQ.out.2 1 (ints [((imgT ys x ys.length : Nat) : Int)]) rfl rfl (ints_one _) rfl (by omega) (by have := HQ.out.1.size; omega) ?_; intro v5 w5 hown5 hout5 _; obtain ⟨a5, c5, rfl⟩ := Own.shape hown5; (have H5 := Lib.hid (And.intro hown5 hout5)); clear hown5 hout5))
      have HT : Hid (os ++ [((imgT ys x ys.length : Nat) : Int)] = zs.take (k + 1)) := Lib.hid (by rw [HOS.out, List.take_add_one, HZk.out]; simp)
      go_wp2
      go_roundw
      case rel => exact ⟨k + 1, _, _, os ++ [((imgT ys x ys.length : Nat) : Int)], by simp, by go_num, by omega, HT.out, by rw [HT.out, List.length_take]; omega, Lib.hid ⟨Below.outside HQ.out.1 H5.out.2 (Nat.le_refl _) HQ.out.1.size, OwnI.app H5.out.1 rfl⟩⟩
      case measure => simp [intOf]; omega
    · obtain rfl : k = xs.length := by omega
      have HE : Hid (os = zs) := Lib.hid (by rw [hos, List.take_of_length_le (by have := HZL.out; omega)])
      go_wp2
      go_ret
      exact RetV.mk _ rfl ⟨by have h_ := HQ.out.2; rw [HE.out] at h_ ⊢; exact h_.lower (by omega) (Nat.le_refl _), HB.out.trans (HQ.out.1.mono (by omega))⟩

set_option maxRecDepth 100000 in
set_option maxHeartbeats 1600000 in
theorem rowsPlus_any (la ha lb hb : Nat) (n : Int) (va vb : Value) (xs ys : List Int) (w : World) (hx : SlI la ha w va xs) (hy : SlI lb hb w vb ys) (hha : ha ≤ w.heap.size) (hhb : hb ≤ w.heap.size) (h1 : rowsB n xs = true) (h2 : rowsB n ys = true) :
    Calls Tryd.prog 97 #[.int .i64 n, va, vb] w (RowsNew w ((List.range xs.length).map fun k => (((xs.getD k 0).toNat ||| (ys.getD k 0).toNat : Nat) : Int))) := by
  have s1 := rowsB_small h1
  have s2 := rowsB_small h2
  have H1 := Lib.hid h1
  have H2 := Lib.hid h2
  have HX := Lib.hid hx
  have HY := Lib.hid hy
  obtain ⟨l1, l5, S1⟩ := s1
  obtain ⟨l2, _, S2⟩ := s2
  have HS1 := Lib.hid S1
  have HS2 := Lib.hid S2
  have x5 : xs.length ≤ 5 := by omega
  have y5 : ys.length ≤ 5 := by omega
  have HLE : Hid (ys.length = xs.length) := Lib.hid (by omega)
  clear l1 l2 l5
  obtain ⟨xa, xc, rfl, _, _⟩ := Sl.shape hx
  obtain ⟨ya, yc, rfl, _, _⟩ := Sl.shape hy
  clear hx hy h1 h2 S1 S2
  obtain ⟨zs, hzs⟩ : ∃ zs, zs = (List.range xs.length).map fun k => (((xs.getD k 0).toNat ||| (ys.getD k 0).toNat : Nat) : Int) := ⟨_, rfl⟩
  rw [← hzs]
  have HZL : Hid (zs.length = xs.length) := Lib.hid (by rw [hzs]; simp)
  have HZ : Hid (∀ k (h : k < xs.length), zs[k]? = some (((xs[k].toNat ||| (ys.getD k 0).toNat : Nat) : Int))) := Lib.hid (by
    intro k h
    rw [hzs]
    simp [List.getD, h])
  clear hzs
  go_enter Tryd.func97, Tryd.ntmps97
  go_wp2_with fail
  refine (implRowsValid _ _ n _ xs w HX.out hha (by omega)).mono ?_
  rintro e w1 ⟨rfl, hb1⟩
  rw [H1.out]
  have hs1 := hb1.size
  replace HX := Lib.hid (HX.out.below hb1 hha)
  replace HY := Lib.hid (HY.out.below hb1 hhb)
  have HB := Lib.hid hb1
  clear hb1
  go_wp2_with fail
  refine (implRowsValid _ _ n _ ys w1 HY.out (by omega) (by omega)).mono ?_
  rintro e w2 ⟨rfl, hb2⟩
  rw [H2.out]
  have hs2 := hb2.size
  replace HX := Lib.hid (HX.out.below hb2 (by omega))
  replace HY := Lib.hid (HY.out.below hb2 (by omega))
  replace HB := Lib.hid (HB.out.trans (hb2.mono hs1))
  clear hb2
  go_wp2_with fail
  go_loopw [7, 22] (fun ov iv wr => ∃ (k : Nat) (oa : Option Addr) (oc : Nat) (os : List Int), ov = .slice oa os.length oc ∧ iv = .int .i64 k ∧ k ≤ xs.length ∧ os = zs.take k ∧ os.length ≤ 5 ∧ Hid (Below w2.heap.size w2 wr ∧ OwnI w2.heap.size wr.heap.size 3 wr (.slice oa os.length oc) os)) (fun _ i _ => xs.length - (intOf i).toNat)
  case atStart => exact ⟨0, none, 0, [], rfl, rfl, by omega, by simp, by simp, Lib.hid ⟨Below.refl _ _, Own.nil _ _ _ _ _⟩⟩
  case round =>
    obtain ⟨k, oa, oc, os, rfl, rfl, hk, hos, hol, HQ⟩ := hrel
    by_cases hlt : k < xs.length
    · have HOS := Lib.hid hos
      clear hos
      have hk5 : k < 5 := by omega
      have hol2 : os.length ≤ 4 := by rw [HOS.out, List.length_take]; omega
      have HXr := Lib.hid (HX.out.below HQ.out.1 (by omega))
      have HYr := Lib.hid (HY.out.below HQ.out.1 (by omega))
      obtain ⟨x, hxk⟩ : ∃ x : Nat, xs[k] = x := ⟨xs[k].toNat, by have := (HS1.out k hlt).1; omega⟩
      have hxs := (HS1.out k hlt).2
      rw [hxk, Int.toNat_natCast] at hxs
      obtain ⟨b, off, rfl, _, _, _, hcell⟩ := HXr.out.get k hlt
      rw [hxk] at hcell
      have hky : k < ys.length := by have := HLE.out; omega
      obtain ⟨y, hyk⟩ : ∃ y : Nat, ys[k] = y := ⟨ys[k].toNat, by have := (HS2.out k hky).1; omega⟩
      have hys := (HS2.out k hky).2
      rw [hyk, Int.toNat_natCast] at hys
      obtain ⟨b', off', rfl, _, _, _, hcell'⟩ := HYr.out.get k hky
      rw [hyk] at hcell'
      have hgy : (ys.getD k 0).toNat = y := by simp [List.getD, List.getElem?_eq_getElem hky, hyk]
      have HO := Lib.hid (bits64_or x y (by omega) (by omega))
      clear hyk
      have HZk := Lib.hid (HZ.out k hlt)
      rw [hxk] at HZk
      clear hxk
      rw [hgy] at HZk
      clear hgy
      go_upto_region 8 with ((at_builtin; refine wpList_app_lit _ rfl _ _ 43 rfl 3 (.int .i64 0) 1 8 Tryd.underlying43 info_int rfl (by decide) (by decide) rfl HQ.out.2 1 (ints [bits .or .i64 (x : Int) (y : Int)]) rfl rfl (ints_one _) rfl (by omega) (by have := HQ.out.1.size; omega) ?_; intro v5 w5 hown5 hout5 _; obtain ⟨a5, c5, rfl⟩ := Own.shape hown5; (have H5 := Lib.hid (And.intro hown5 hout5)); clear hown5 hout5))
      have HT : Hid (os ++ [bits .or .i64 (x : Int) (y : Int)] = zs.take (k + 1)) := Lib.hid (by rw [HOS.out, List.take_add_one, HZk.out, HO.out]; simp)
      go_wp2
      go_roundw
      case rel => exact ⟨k + 1, _, _, os ++ [bits .or .i64 (x : Int) (y : Int)], by simp, by go_num, by omega, HT.out, by rw [HT.out, List.length_take]; omega, Lib.hid ⟨Below.outside HQ.out.1 H5.out.2 (Nat.le_refl _) HQ.out.1.size, OwnI.app H5.out.1 rfl⟩⟩
      case measure => simp [intOf]; omega
    · obtain rfl : k = xs.length := by omega
      have HE : Hid (os = zs) := Lib.hid (by rw [hos, List.take_of_length_le (by have := HZL.out; omega)])
      go_wp2
      go_ret
      exact RetV.mk _ rfl ⟨by have h_ := HQ.out.2; rw [HE.out] at h_ ⊢; exact h_.lower (by omega) (Nat.le_refl _), HB.out.trans (HQ.out.1.mono (by omega))⟩
end

section

theorem pow_wrap : ∀ {k : Nat}, k < 10 → wrap64 (2 ^ k) = ((2 ^ k : Nat) : Int) := by decide +kernel

set_option maxRecDepth 100000 in
set_option maxHeartbeats 1600000 in
theorem rowsStar_any (la ha : Nat) (n : Int) (va : Value) (xs : List Int) (R : Nat → Nat → Prop) (w : World) (hx : SlI la ha w va xs) (hha : ha ≤ w.heap.size) (h1 : rowsB n xs = true) (hr : xs = rowsR n.toNat R) (hR : Closed n.toNat R) :
    Calls Tryd.prog 98 #[.int .i64 n, va] w (RowsNew w (rowsR n.toNat (Star R))) := by
  have s1 := rowsB_small h1
  have H1 := Lib.hid h1
  have HX := Lib.hid hx
  obtain ⟨l1, l5, S1⟩ := s1
  have HS1 := Lib.hid S1
  have x5 : xs.length ≤ 5 := by omega
  have HL := Lib.hid l1
  have HRr := Lib.hid hr
  have HRc := Lib.hid hR
  obtain ⟨xa, xc, rfl, _, _⟩ := Sl.shape hx
  obtain ⟨zs, hzs⟩ : ∃ zs, zs = rowsR n.toNat (Star R) := ⟨_, rfl⟩
  rw [← hzs]
  have HZL : Hid (zs.length = xs.length) := Lib.hid (by rw [hzs, rowsR_length]; omega)
  have HZ : Hid (∀ k (h : k < xs.length), zs[k]? = some ((bitsN n.toNat (Star R k) : Nat) : Int)) := Lib.hid (by
    intro k h
    have hk : k < zs.length := by rw [hzs, rowsR_length]; omega
    rw [List.getElem?_eq_getElem hk]
    congr 1
    subst hzs
    exact rowsR_get _ _ k hk)
  clear hx h1 S1 l1 l5 hr hR hzs
  go_enter Tryd.func98, Tryd.ntmps98
  go_wp2_with fail
  refine (implRowsValid _ _ n _ xs w HX.out hha (by omega)).mono ?_
  rintro e w2 ⟨rfl, hb1⟩
  rw [H1.out]
  have hs1 := hb1.size
  replace HX := Lib.hid (HX.out.below hb1 hha)
  have HB := Lib.hid hb1
  clear hb1
  go_wp2_with fail
  go_loopw [5, 15] (fun ov iv wr => ∃ (k : Nat) (oa : Option Addr) (oc : Nat) (os : List Int), ov = .slice oa os.length oc ∧ iv = .int .i64 k ∧ k ≤ xs.length ∧ os = zs.take k ∧ os.length ≤ 5 ∧ Hid (Below w2.heap.size w2 wr ∧ OwnI w2.heap.size wr.heap.size 3 wr (.slice oa os.length oc) os)) (fun _ i _ => xs.length - (intOf i).toNat)
  case atStart => exact ⟨0, none, 0, [], rfl, rfl, by omega, by simp, by simp, Lib.hid ⟨Below.refl _ _, Own.nil _ _ _ _ _⟩⟩
  case round =>
    obtain ⟨k, oa, oc, os, rfl, rfl, hk, hos, hol, HQ⟩ := hrel
    by_cases hlt : k < xs.length
    · have HOS := Lib.hid hos
      have hol2 : os.length ≤ 4 := by rw [hos, List.length_take]; omega
      clear hos
      have hk5 : k < 5 := by omega
      have HKn : Hid (k < n.toNat) := Lib.hid (by rw [← HL.out]; exact hlt)
      obtain ⟨w3, hw3⟩ : ∃ w3, w3 = wr := ⟨_, rfl⟩
      rw [← hw3] at HQ
      have HXr := Lib.hid (HX.out.below HQ.out.1 (by omega))
      have hpw := pow_wrap (k := k) (by omega)
      have HOR : Hid (∀ S : Nat, S < 32 → bits .or .i64 (S : Int) ((imgT xs S xs.length : Nat) : Int) = ((S ||| imgT xs S xs.length : Nat) : Int)) := Lib.hid fun S hS => bits64_or _ _ (by omega) (by have := imgT_small HS1.out S xs.length; omega)
      have HW0 : Hid (Way n.toNat R k (2 ^ k)) := Lib.hid (Way.start HKn.out)
      have HLT : Hid (∀ S, Way n.toNat R k S → S < 32) := Lib.hid fun S h => Nat.lt_of_lt_of_le h.lt (by rw [← HL.out]; exact Nat.pow_le_pow_right (n := 2) (by omega) x5)
      have hp5 : 2 ^ k < 32 := HLT.out _ HW0.out
      go_wp2_with fail
      simp only [hpw]
      refine (image_any _ _ _ xs (2 ^ k) wr (by rw [← hw3]; exact HXr.out) (by omega) (by omega) HS1.out).mono ?_
      rintro e _ ⟨rfl, rfl⟩
      clear hpw
      obtain ⟨S0, hS0⟩ : ∃ S0, S0 = 2 ^ k := ⟨_, rfl⟩
      rw [← hS0] at HW0 hp5 ⊢
      clear hS0
      go_wp2_with fail
      go_loop [7, 8] (fun sv nv => ∃ S : Nat, sv = .int .i64 S ∧ nv = .int .i64 ((S ||| imgT xs S xs.length : Nat) : Int) ∧ Hid (Way n.toNat R k S)) (fun sv _ => 32 - (intOf sv).toNat)
      case atStart => exact ⟨S0, rfl, by rw [HOR.out S0 hp5], Lib.hid HW0.out⟩
      case round =>
        obtain ⟨S, rfl, rfl, HWS⟩ := hrel
        have hS := HLT.out S HWS.out
        by_cases he : S ||| imgT xs S xs.length = S
        · have HD := Lib.hid (HWS.out.done HRr.out HRc.out HKn.out (by rw [← HL.out]; exact he))
          have hne : (((S ||| imgT xs S xs.length : Nat) : Int) != (S : Int)) = false := by rw [he]; simp
          clear he
          go_upto_region 13 with (at_builtin; refine wpList_app_lit _ rfl _ _ 43 rfl 3 (.int .i64 0) 1 8 Tryd.underlying43 info_int rfl (by decide) (by decide) rfl (by rw [← hw3]; exact HQ.out.2) 1 (ints [(S : Int)]) rfl rfl (ints_one _) rfl (by omega) (by have := HQ.out.1.size; rw [← hw3]; omega) ?_; intro v5 w5 hown5 hout5 _; obtain ⟨a5, c5, rfl⟩ := Own.shape hown5; (have H5 := Lib.hid (And.intro hown5 hout5)); clear hown5 hout5)
          have HT : Hid (os ++ [(S : Int)] = zs.take (k + 1)) := Lib.hid (by rw [HOS.out, List.take_add_one, HZ.out k hlt, HD.out]; simp)
          subst hw3
          go_wp2
          go_roundw
          case rel => exact ⟨k + 1, _, _, os ++ [(S : Int)], by simp, by go_num, by omega, HT.out, by rw [HT.out, List.length_take]; omega, Lib.hid ⟨Below.outside HQ.out.1 H5.out.2 (Nat.le_refl _) HQ.out.1.size, OwnI.app H5.out.1 rfl⟩⟩
          case measure => simp [intOf]; omega
        · have HN := Lib.hid (HWS.out.next HRr.out)
          have hN5 := HLT.out _ HN.out
          rw [← HL.out] at hN5 HN
          have hgr := or_grows he
          have hne : (((S ||| imgT xs S xs.length : Nat) : Int) != (S : Int)) = true := by simp; omega
          clear he
          obtain ⟨T, hT⟩ : ∃ T, T = S ||| imgT xs S xs.length := ⟨_, rfl⟩
          rw [← hT] at HN hN5 hgr hne ⊢
          clear hT
          go_wp2_with fail
          refine (image_any _ _ _ xs T wr (by rw [← hw3]; exact HXr.out) (by omega) (by omega) HS1.out).mono ?_
          rintro e _ ⟨rfl, rfl⟩
          have HOT := Lib.hid (HOR.out T hN5)
          go_wp2
          go_round
          case rel => exact ⟨T, rfl, by rw [HOT.out], Lib.hid (by rw [HL.out] at HN; exact HN.out)⟩
          case measure => simp [intOf]; omega
    · obtain rfl : k = xs.length := by omega
      have HE : Hid (os = zs) := Lib.hid (by rw [hos, List.take_of_length_le (by have := HZL.out; omega)])
      go_wp2
      go_ret
      exact RetV.mk _ rfl ⟨by have h_ := HQ.out.2; rw [HE.out] at h_ ⊢; exact h_.lower (by omega) (Nat.le_refl _), HB.out.trans (HQ.out.1.mono (by omega))⟩
end

section

theorem box_facts3 {w w0 : World} {o : Obj} (h : w0 = w.alloc o) : Below w.heap.size w w0 ∧ Blk w.heap.size o w0 ∧ w.heap.size + 1 ≤ w0.heap.size := by
  subst h
  exact ⟨(Below.refl _ _).alloc (Nat.le_refl _) _, Blk.new w o, by simp⟩
theorem bit_val {set k : Nat} (hs : set < 4611686018427387904) : bits .and .i64 ((set : Int) / 2 ^ k) 1 = if set.testBit k then 1 else 0 := by
  have h1 : ((set : Int) / 2 ^ k) = ((set / 2 ^ k : Nat) : Int) := by push_cast; rfl
  have h2 : set / 2 ^ k < 4611686018427387904 := Nat.lt_of_le_of_lt (Nat.div_le_self _ _) hs
  rw [h1, show (1 : Int) = ((1 : Nat) : Int) from rfl, bits64_and _ _ h2 (by omega), Nat.testBit_eq_decide_div_mod_eq, Nat.and_one_is_mod]
  have := Nat.mod_two_eq_zero_or_one (set / 2 ^ k)
  rcases this with h | h <;> simp [h]
theorem atomN_val (M : Mo) (s : Nat) : atomN M s = (if M.p.toNat.testBit s then 1 else 0) + 2 * (if M.q.toNat.testBit s then 1 else 0) := by
  unfold atomN
  rw [Nat.shiftRight_eq_div_pow, Nat.shiftRight_eq_div_pow, Nat.testBit_eq_decide_div_mod_eq, Nat.testBit_eq_decide_div_mod_eq]
  have h1 := Nat.mod_two_eq_zero_or_one (M.p.toNat / 2 ^ s)
  have h2 := Nat.mod_two_eq_zero_or_one (M.q.toNat / 2 ^ s)
  rcases h1 with h1 | h1 <;> rcases h2 with h2 | h2 <;> simp [h1, h2]
theorem atom_any (M : Mo) (va : Value) (s p q : Nat) (w : World) (hp : M.p = p) (hq : M.q = q) (hp2 : p < 1099511627776) (hq2 : q < 1099511627776) (hs : s ≤ 60) :
    Calls Tryd.prog 43 #[aggMo M va, .int .i64 s] w fun e w' => e = .returned (.int .i64 ((atomN M s : Nat) : Int)) ∧ Below w.heap.size w w' := by
  obtain ⟨n, P, Q, acts⟩ := M
  simp only at hp hq
  subst hp hq
  have HBA := Lib.hid ((Below.refl w.heap.size w).alloc (Nat.le_refl _) (.cells #[.int .i64 n, .int .i64 (p : Int), .int .i64 (q : Int), va] 25))
  have HV := Lib.hid (atomN_val ⟨n, (p : Int), (q : Int), acts⟩ s)
  have b1 := bit_val (set := p) (k := s) (by omega)
  have b2 := bit_val (set := q) (k := s) (by omega)
  have o1 : bits .or .i64 1 2 = 3 := by decide +kernel
  have o2 : bits .or .i64 0 2 = 2 := by decide +kernel
  have o3 : bits .or .i64 1 0 = 1 := by decide +kernel
  have o4 : bits .or .i64 0 0 = 0 := by decide +kernel
  cases h1 : p.testBit s <;> cases h2 : q.testBit s
  all_goals
    rw [h1] at b1
    rw [h2] at b2
    simp only [Bool.false_eq_true, if_false, if_true] at b1 b2
    have HE := HV.out
    simp only [Int.toNat_natCast, h1, h2, Bool.false_eq_true, if_false, if_true] at HE
    replace HE := Lib.hid HE
    clear h1 h2
    go_enter Tryd.func43, Tryd.ntmps43
    go_wp2
    go_region_held3 (fun w' => w'.cell? ⟨w.heap.size, 1, none⟩ = some (.int .i64 (p : Int)) ∧ w'.cell? ⟨w.heap.size, 2, none⟩ = some (.int .i64 (q : Int))) (go_keep) (fail)
    go_wp2
    go_ret
    exact ⟨ret_int (by rw [HE.out]; decide +kernel), Below.drew HBA.out⟩

theorem testBit_hb (t k : Nat) : hb t k = t.testBit k := by
  unfold hb
  rw [Nat.shiftRight_eq_div_pow, Nat.testBit_eq_decide_div_mod_eq]
  rw [Bool.eq_iff_iff]
  simp
/-- The states below k in which a test holds. -/
def tstT (M : Mo) (t : Nat) : Nat → Nat
  | 0 => 0
  | k + 1 => if t.testBit (atomN M k) then tstT M t k ||| 2 ^ k else tstT M t k
theorem tstT_bit (M : Mo) (t j : Nat) : ∀ k, (tstT M t k).testBit j = true ↔ j < k ∧ t.testBit (atomN M j) = true
  | 0 => by simp [tstT]
  | k + 1 => by
    have ih := tstT_bit M t j k
    rw [tstT]
    split
    · rename_i hb
      rw [Nat.testBit_or, Bool.or_eq_true, ih, Nat.testBit_two_pow, decide_eq_true_eq]
      constructor
      · rintro (⟨h1, h2⟩ | rfl)
        · exact ⟨by omega, h2⟩
        · exact ⟨by omega, hb⟩
      · rintro ⟨h1, h2⟩
        by_cases hj : j = k
        · exact .inr hj.symm
        · exact .inl ⟨by omega, h2⟩
    · rename_i hb
      rw [ih]
      constructor
      · rintro ⟨h1, h2⟩; exact ⟨by omega, h2⟩
      · rintro ⟨h1, h2⟩
        by_cases hj : j = k
        · subst hj; exact absurd h2 hb
        · exact ⟨by omega, h2⟩
theorem tstT_lt (M : Mo) (t : Nat) : ∀ k, tstT M t k < 2 ^ k
  | 0 => by simp [tstT]
  | k + 1 => by
    have ih := tstT_lt M t k
    have h2 : 2 ^ k < 2 ^ (k + 1) := Nat.pow_lt_pow_right (by omega) (by omega)
    rw [tstT]
    split
    · exact Nat.or_lt_two_pow (by omega) h2
    · omega
set_option maxHeartbeats 1600000 in
theorem testStates_any (M : Mo) (va : Value) (t n p q : Nat) (w : World) (hn : M.n = n) (hn5 : n ≤ 5) (hp : M.p = p) (hq : M.q = q) (hp2 : p < 1099511627776) (hq2 : q < 1099511627776) (ht : t < 16) :
    Calls Tryd.prog 111 #[aggMo M va, .int .i64 t] w fun e w' => e = .returned (.int .i64 ((tstT M t n : Nat) : Int)) ∧ Below w.heap.size w w' := by
  obtain ⟨n', P, Q, acts⟩ := M
  simp only at hn hp hq
  subst hn hp hq
  obtain ⟨w0, hw0⟩ : ∃ w0, w0 = w.alloc (.cells #[.int .i64 n, .int .i64 (p : Int), .int .i64 (q : Int), va] 25) := ⟨_, rfl⟩
  obtain ⟨hb0, KB_, hs0⟩ := box_facts3 hw0
  have KB := Lib.hid KB_
  have HB := Lib.hid hb0
  have HW := Lib.hid hw0
  clear hb0 KB_ hw0
  have k0 := KB.out.cell 0
  go_enter Tryd.func111, Tryd.ntmps111
  go_upto_region 3 with (rw [← HW.out])
  try rw [← HW.out]
  go_loopw [5, 9] (fun ov iv wr => ∃ k : Nat, iv = .int .i64 k ∧ k ≤ n ∧ ov = .int .i64 ((tstT (⟨(n : Int), (p : Int), (q : Int), acts⟩ : Mo) t k : Nat) : Int) ∧ Hid (Below w0.heap.size w0 wr)) (fun _ i _ => n - (intOf i).toNat)
  case atStart => exact ⟨0, rfl, by omega, rfl, Lib.hid (Below.refl _ _)⟩
  case round =>
    clear k0
    obtain ⟨k, rfl, hk, rfl, HQ⟩ := hrel
    have KR := Lib.hid (KB.out.below HQ.out KB.out.lt)
    have hsr := HQ.out.size
    have k0 := KR.out.cell 0
    have k1 := KR.out.cell 1
    have k2 := KR.out.cell 2
    have k3 := KR.out.cell 3
    by_cases hlt : k < n
    · have hpw := pow_wrap (k := k) (by omega)
      have HLT := Lib.hid (Nat.lt_of_lt_of_le (tstT_lt (⟨(n : Int), (p : Int), (q : Int), acts⟩ : Mo) t k) (Nat.pow_le_pow_right (n := 2) (by omega) (show k ≤ 5 by omega)))
      have HPL := Lib.hid (Nat.pow_lt_pow_right (a := 2) (by omega) (show k < 6 by omega))
      have HOR := Lib.hid (bits64_or (tstT (⟨(n : Int), (p : Int), (q : Int), acts⟩ : Mo) t k) (2 ^ k) (by have := HLT.out; omega) (by have := HPL.out; omega))
      go_wp2_with fail
      refine (atom_any (⟨(n : Int), (p : Int), (q : Int), acts⟩ : Mo) va k p q wr rfl rfl hp2 hq2 (by omega)).mono ?_
      rintro e w2 ⟨rfl, hb2⟩
      have HB2 := Lib.hid (HQ.out.trans (hb2.mono hsr))
      clear hb2
      go_wp2_with fail
      refine (holds_any t (atomN (⟨(n : Int), (p : Int), (q : Int), acts⟩ : Mo) k) ht (atomN_lt (⟨(n : Int), (p : Int), (q : Int), acts⟩ : Mo) k) w2).mono ?_
      rintro e _ ⟨rfl, rfl⟩
      rw [testBit_hb]
      cases hb : t.testBit (atomN (⟨(n : Int), (p : Int), (q : Int), acts⟩ : Mo) k)
      · have HN : Hid (tstT (⟨(n : Int), (p : Int), (q : Int), acts⟩ : Mo) t (k + 1) = tstT (⟨(n : Int), (p : Int), (q : Int), acts⟩ : Mo) t k) := Lib.hid (by rw [tstT, hb]; simp)
        go_wp2
        go_roundw
        case rel => exact ⟨k + 1, by go_num, by omega, by rw [HN.out], Lib.hid HB2.out⟩
        case measure => simp [intOf]; omega
      · have HN : Hid (tstT (⟨(n : Int), (p : Int), (q : Int), acts⟩ : Mo) t (k + 1) = tstT (⟨(n : Int), (p : Int), (q : Int), acts⟩ : Mo) t k ||| 2 ^ k) := Lib.hid (by rw [tstT, hb]; simp)
        go_wp2
        go_roundw
        case rel => exact ⟨k + 1, by go_num, by omega, by rw [HN.out, ← HOR.out]; push_cast; rfl, Lib.hid HB2.out⟩
        case measure => simp [intOf]; omega
    · obtain rfl : k = n := by omega
      go_wp2
      go_ret
      exact ⟨rfl, HB.out.trans (HQ.out.mono (by omega))⟩
end

section

theorem Blk.dr {g : Nat} {o : Obj} {w : World} (h : Blk g o w) : Blk g o w.drew := h
def testR (M : Mo) (t n : Nat) : List Int := (List.range n).map fun k => ((tstT M t n &&& 2 ^ k : Nat) : Int)
theorem testR_rows (M : Mo) (t n : Nat) (ht : t < 16) : testR M t n = rowsR n (leafM M (t : Int)) := by
  unfold testR rowsR
  apply List.map_congr_left
  intro s hs
  have hs : s < n := by simpa using hs
  congr 1
  refine bitsN_eq (Nat.lt_of_le_of_lt Nat.and_le_left (tstT_lt M t n)) fun k hk => ?_
  rw [Nat.testBit_and, Bool.and_eq_true, tstT_bit, Nat.testBit_two_pow, decide_eq_true_eq, leafM_test (by omega), Int.toNat_natCast]
  constructor
  · rintro ⟨⟨_, h⟩, rfl⟩; exact ⟨rfl, h⟩
  · rintro ⟨rfl, h⟩; exact ⟨⟨hs, h⟩, rfl⟩
set_option maxRecDepth 100000 in
set_option maxHeartbeats 3200000 in
theorem testRows_any (M : Mo) (va : Value) (t n p q : Nat) (w : World) (hn : M.n = n) (hn5 : n ≤ 5) (hp : M.p = p) (hq : M.q = q) (hp2 : p < 1099511627776) (hq2 : q < 1099511627776) (ht : t < 16) (hva : ∃ a m c, va = .slice a m c) :
    Calls Tryd.prog 99 #[aggMo M va, .int .i64 t] w (RowsNew w (testR M t n)) := by
  obtain ⟨n', P, Q, acts⟩ := M
  obtain ⟨sa, sm, sc, rfl⟩ := hva
  simp only at hn hp hq
  subst hn hp hq
  obtain ⟨i0, hi, hz0, hz1, hz2⟩ := info_parts info_int
  obtain ⟨T, hT⟩ : ∃ T, T = tstT (⟨(n : Int), (p : Int), (q : Int), acts⟩ : Mo) t n := ⟨_, rfl⟩
  have hT5 : T < 32 := by rw [hT]; exact Nat.lt_of_lt_of_le (tstT_lt _ t n) (Nat.pow_le_pow_right (n := 2) (by omega) hn5)
  obtain ⟨zs, hzs⟩ : ∃ zs, zs = testR (⟨(n : Int), (p : Int), (q : Int), acts⟩ : Mo) t n := ⟨_, rfl⟩
  have HZL : Hid (zs.length = n) := Lib.hid (by rw [hzs]; simp [testR])
  have HZ : Hid (∀ k (h : k < n), zs[k]? = some ((T &&& 2 ^ k : Nat) : Int)) := Lib.hid (by
    intro k h
    rw [hzs, hT]
    simp [testR, h])
  rw [← hzs]
  have HT := Lib.hid hT
  clear hzs hT
  obtain ⟨w0, hw0⟩ : ∃ w0, w0 = w.alloc (.cells #[.int .i64 n, .int .i64 (p : Int), .int .i64 (q : Int), .slice sa sm sc] 25) := ⟨_, rfl⟩
  obtain ⟨hb0, KB_, hs0⟩ := box_facts3 hw0
  have KB := Lib.hid KB_
  have HB := Lib.hid hb0
  have HW := Lib.hid hw0
  clear hb0 KB_ hw0
  have k0 := KB.out.cell 0
  have hn0 : (0 : Int) ≤ (n : Int) := by omega
  go_enter Tryd.func99, Tryd.ntmps99
  go_upto_region 1 with (rw [← HW.out])
  try rw [← HW.out]
  go_wp2_with ((at_make; refine wpList_make_full _ rfl _ _ 43 rfl w0.heap.size 3 i0 (.int .i64 0) 1 Tryd.underlying43 hi hz0 hz1 .i64 .i64 n n n rfl rfl rfl rfl ?c1 ?c2 ?c3 ?c4))
  case c1 => rw [hz2]; omega
  case c2 => simp [maxLen]; omega
  case c3 => exact Nat.le_refl _
  case c4 =>
    intro w1 hown hg
    have hb1 : Below w0.heap.size w0 w1 := (Below.refl _ _).grown hg (Nat.le_refl _) (by simp)
    rw [toList_madeCells_one] at hown
    have hs1 := hb1.size
    have k0 := (KB.out.below hb1 KB.out.lt).cell 0
    have HOWN := Lib.hid hown
    have HB1 := Lib.hid hb1
    clear hg hi hz0 hz1 hz2 hown hb1
    go_wp2
    go_loopw [12] (fun i wr => ∃ k, k ≤ n ∧ i = .int .i64 k ∧ Hid (Own 1 w0.heap.size w1.heap.size 3 wr (.slice (some ⟨w0.heap.size, 0, none⟩) n n) n (fill (ints zs) (.int .i64 0) k) ∧ Below w0.heap.size w0 wr ∧ w1.heap.size ≤ wr.heap.size)) (fun i _ => n - (intOf i).toNat)
    case atStart => exact ⟨0, by omega, rfl, Lib.hid ⟨⟨by rw [fill_zero, ints_length, HZL.out]; exact HOWN.out, fun g hg => (HOWN.out.lt g hg).2⟩, HB1.out, Nat.le_refl _⟩⟩
    case round =>
      clear k0 HOWN HB1
      obtain ⟨k, hk, rfl, HQ⟩ := hrel
      have hsr := HQ.out.2.2
      by_cases hlt : k < n
      · have KR := Lib.hid (KB.out.below HQ.out.2.1 KB.out.lt)
        have hpw := pow_wrap (k := k) (by omega)
        have hk0 : (0 : Int) ≤ (k : Int) := by omega
        have hkn : (k : Int) < (n : Int) := by omega
        have hk5 : k ≤ 5 := by omega
        have HPL := Lib.hid (Nat.pow_lt_pow_right (a := 2) (by omega) (show k < 6 by omega))
        have HAND := Lib.hid (bits64_and T (2 ^ k) (by omega) (by have := HPL.out; omega))
        have HZk := Lib.hid (HZ.out k hlt)
        have d0 := (KR.out.dr).cell 0
        have d1 := (KR.out.dr).cell 1
        have d2 := (KR.out.dr).cell 2
        have d3 := (KR.out.dr).cell 3
        go_wp2
        go_region_with (go_at_call 111; refine (testStates_any (⟨(n : Int), (p : Int), (q : Int), acts⟩ : Mo) _ t n p q wr.drew rfl hn5 rfl rfl hp2 hq2 ht).mono ?_; rintro e w2 ⟨rfl, hb2⟩; rw [← HT.out]; (have hs2 : wr.heap.size ≤ w2.heap.size := hb2.size); (have ho2 := Own.below (w := wr.drew) ⟨HQ.out.1.1.drew, HQ.out.1.2⟩ hb2 hsr); (have c2 := ho2.1.cellAt k (by omega)); (have f2 := ho2.1.frozenAt k); obtain ⟨x2, c3⟩ : ∃ x, w2.cell? ⟨w0.heap.size, k, none⟩ = some x := ⟨.int .i64 0, by rw [c2]; exact fill_get _ _ _ (by rw [ints_length, HZL.out]; exact hlt)⟩; (have kb2 := Blk.below KR.out.dr hb2 KR.out.lt); (have e0 := kb2.cell 0); (have e1 := kb2.cell 1); (have e2 := kb2.cell 2); (have e3 := kb2.cell 3); (have O2 := Lib.hid ho2); (have HB2 := Lib.hid (HQ.out.2.1.drew.trans (hb2.mono (show w0.heap.size ≤ wr.drew.heap.size from Nat.le_trans hs1 hsr)))); clear ho2 hb2 kb2 c2)
        all_goals (
          have HS := Lib.hid (O2.out.1.stored k (.int .i64 ((T &&& 2 ^ k : Nat) : Int)))
          have HL2 := Lib.hid O2.out.2
          have HBS := Lib.hid (HB2.out.setCell (p := ⟨w0.heap.size, k, none⟩) (Nat.le_refl _) (.int .i64 ((T &&& 2 ^ k : Nat) : Int)))
          have hss : w1.heap.size ≤ (w2.setCell ⟨w0.heap.size, k, none⟩ (.int .i64 ((T &&& 2 ^ k : Nat) : Int))).heap.size := by simp; omega
          go_wp2
          go_roundw
          case rel =>
            refine ⟨k + 1, by omega, by go_num, ?_⟩
            rw [show bits .and .i64 ((T : Nat) : Int) (wrap64 (2 ^ k)) = ((T &&& 2 ^ k : Nat) : Int) by rw [hpw, HAND.out]]
            exact Lib.hid ⟨⟨by rw [← fill_set _ _ k (by rw [ints_length, HZL.out]; exact hlt) (.int .i64 ((T &&& 2 ^ k : Nat) : Int)) (by rw [ints, List.getElem?_map, HZk.out]; rfl)]; exact HS.out.1, HL2.out⟩, HBS.out, hss⟩
          case measure => simp [intOf]; omega)
      · obtain rfl : k = n := by omega
        have HOQ : Hid (OwnI w0.heap.size w1.heap.size 3 wr (.slice (some ⟨w0.heap.size, 0, none⟩) zs.length zs.length) zs) := Lib.hid (by
          have h_ := HQ.out.1
          rw [fill_all _ _ _ (by rw [ints_length, HZL.out]; exact Nat.le_refl _)] at h_
          rw [HZL.out]
          exact oi zs _ HZL.out.symm h_)
        have HV : Hid ((.slice (some ⟨w0.heap.size, 0, none⟩) k k : Value) = .slice (some ⟨w0.heap.size, 0, none⟩) zs.length zs.length) := Lib.hid (by rw [HZL.out])
        go_wp2
        go_ret
        exact RetV.mk _ rfl ⟨by rw [HV.out]; exact HOQ.out.lower (by omega) hsr, HB.out.trans (HQ.out.2.1.mono (by omega))⟩
end

section

/-- What is known of a valid model in memory. -/
structure MoOk (n p q : Nat) (acts : List (List Int)) : Prop where
  n1 : 1 ≤ n
  n5 : n ≤ 5
  p2 : p < 2 ^ n
  q2 : q < 2 ^ n
  len : acts.length = 3
  rows : ∀ k (h : k < acts.length), rowsB (n : Int) acts[k] = true
theorem MoOk.mod {n p q : Nat} {acts : List (List Int)} (h : MoOk n p q acts) : modB (⟨(n : Int), (p : Int), (q : Int), acts⟩ : Mo) = true := by
  have h1 : ((p : Nat) : Int) < 2 ^ n := by exact_mod_cast h.p2
  have h2 : ((q : Nat) : Int) < 2 ^ n := by exact_mod_cast h.q2
  simp only [modB, Bool.and_eq_true, decide_eq_true_eq, List.all_eq_true, inB, isSetB, Int.toNat_natCast]
  refine ⟨⟨⟨⟨⟨?_, ?_⟩, ?_, h1⟩, ?_, h2⟩, h.len⟩, fun x hx => ?_⟩
  · have := h.n1; omega
  · have := h.n5; omega
  · omega
  · omega
  · obtain ⟨k, hk, rfl⟩ := List.getElem_of_mem hx
    exact h.rows k hk
theorem MoOk.small {n p q : Nat} {acts : List (List Int)} (h : MoOk n p q acts) : p < 1099511627776 ∧ q < 1099511627776 := by
  have h5 : 2 ^ n ≤ 2 ^ 5 := Nat.pow_le_pow_right (by omega) h.n5
  have := h.p2
  have := h.q2
  omega
theorem modB_open {M : Mo} (h : modB M = true) : ∃ n p q : Nat, M.n = n ∧ M.p = p ∧ M.q = q ∧ MoOk n p q M.acts := by
  obtain ⟨n, p, q, acts⟩ := M
  simp only [modB, Bool.and_eq_true, decide_eq_true_eq, List.all_eq_true, inB, isSetB] at h
  obtain ⟨⟨⟨⟨h1, h2⟩, h3⟩, h4⟩, h5⟩ := h
  obtain ⟨n', rfl⟩ : ∃ k : Nat, n = k := ⟨n.toNat, by omega⟩
  obtain ⟨p', rfl⟩ : ∃ k : Nat, p = k := ⟨p.toNat, by omega⟩
  obtain ⟨q', rfl⟩ : ∃ k : Nat, q = k := ⟨q.toNat, by omega⟩
  rw [Int.toNat_natCast] at h2 h3
  refine ⟨n', p', q', rfl, rfl, rfl, ⟨by omega, by omega, by exact_mod_cast h2.2, by exact_mod_cast h3.2, h4, fun k hk => h5 _ (List.getElem_mem hk)⟩⟩
theorem then_rows {n : Nat} {R S : Nat → Nat → Prop} (hR : Closed n R) : ((rowsR n R).map fun x => ((imgT (rowsR n S) x.toNat (rowsR n S).length : Nat) : Int)) = rowsR n (fun s t => ∃ u, R s u ∧ S u t) := by
  rw [rowsR_length]
  unfold rowsR
  rw [List.map_map]
  apply List.map_congr_left
  intro s hs
  have hs : s < n := by simpa using hs
  simp only [Function.comp_apply, Int.toNat_natCast]
  congr 1
  exact img_seq hR rfl hs
theorem plus_rows (n : Nat) (R S : Nat → Nat → Prop) : ((List.range (rowsR n R).length).map fun k => ((((rowsR n R).getD k 0).toNat ||| ((rowsR n S).getD k 0).toNat : Nat) : Int)) = rowsR n (fun s t => R s t ∨ S s t) := by
  rw [rowsR_length]
  conv => rhs; unfold rowsR
  apply List.map_congr_left
  intro s hs
  have hs : s < n := by simpa using hs
  have h1 : ∀ R : Nat → Nat → Prop, ((rowsR n R).getD s 0).toNat = bitsN n (R s) := fun R => by
    have h : s < (rowsR n R).length := by rw [rowsR_length]; exact hs
    simp only [List.getD, List.getElem?_eq_getElem h, Option.getD_some, rowsR_get, Int.toNat_natCast]
  rw [h1, h1, or_rows]
def RowsC (t : KT) : Prop := ∀ (lo la ha n p q : Nat) (acts : List (List Int)) (ptr va : Value) (w : World), MoOk n p q acts → SlLL la ha w va acts → ha ≤ w.heap.size → RT lo none w t ptr → t.ok 0 = true →
  Calls Tryd.prog 68 #[aggMo (⟨(n : Int), (p : Int), (q : Int), acts⟩ : Mo) va, ptr] w (RowsNew w (rowsR n (den (leafM (⟨(n : Int), (p : Int), (q : Int), acts⟩ : Mo)) t)))


set_option maxRecDepth 100000 in
set_option maxHeartbeats 6400000 in
theorem rows_seq {a' b' : KT} (iha : RowsC a') (ihb : RowsC b') : RowsC (.bin false a' b') := by
  intro lo la ha n p q acts ptr va w hM hA hha hp hok
  obtain ⟨ps, ⟨b, kv, rfl, _, _, hblk, a, cap, rfl, hpc, hcm, hkid⟩, hstk⟩ := hp.node
  have hpl := hstk.length
  obtain ⟨sa, sc, rfl, _, _⟩ := hA.shape
  have HM := Lib.hid hM
  have HS := Lib.hid hM.small
  have hn5 := hM.n5
  obtain ⟨w0, hw0⟩ : ∃ w0, w0 = w.alloc (.cells #[.int .i64 (n : Int), .int .i64 (p : Int), .int .i64 (q : Int), .slice sa acts.length sc] 25) := ⟨_, rfl⟩
  obtain ⟨hb0, KB_, hs0⟩ := box_facts3 hw0
  have KB := Lib.hid KB_
  have HB := Lib.hid hb0
  have HA := Lib.hid (hA.below hb0 hha)
  have KN := Lib.hid (hblk.below hb0 hblk.lt)
  have HSTK := Lib.hid (hstk.mono (Keeps.below hb0))
  have hbs := hblk.lt
  have HW := Lib.hid hw0
  simp only [KT.kids, List.length_cons, List.length_nil] at hpl
  obtain ⟨u0, u1, rfl⟩ : ∃ u0 u1, ps = [u0, u1] := by
    match ps, hpl with
    | [x, y], _ => exact ⟨x, y, rfl⟩
  obtain ⟨gk, ok, rfl, _, _, hgk, kc0⟩ := hkid 0 (by simp)
  obtain ⟨gk', ok', e1, _, _, _, kc1⟩ := hkid 1 (by simp)
  injection e1 with e1
  injection e1 with e1 e2
  subst e1 e2
  have KC0 := Lib.hid ((hb0.cell (p := ⟨gk, ok + 0, none⟩) hgk).trans kc0)
  have KC1 := Lib.hid ((hb0.cell (p := ⟨gk, ok + 1, none⟩) hgk).trans kc1)
  have HLN := Lib.hid hgk
  have HIHa : Hid (∀ w', Below w0.heap.size w0 w' → Calls Tryd.prog 68 #[.agg #[.int .i64 (n : Int), .int .i64 (p : Int), .int .i64 (q : Int), .slice sa acts.length sc], u0] w' (RowsNew w' (rowsR n (den (leafM (⟨(n : Int), (p : Int), (q : Int), acts⟩ : Mo)) a')))) := Lib.hid fun w' hb => iha lo la ha n p q acts u0 _ w' HM.out (HA.out.below hb (by omega)) (Nat.le_trans hha (Nat.le_trans (by omega) hb.size)) (RT.below HSTK.out.1 hb) (by simp only [KT.ok, Bool.and_eq_true] at hok; exact hok.1)
  have HIHb : Hid (∀ w', Below w0.heap.size w0 w' → Calls Tryd.prog 68 #[.agg #[.int .i64 (n : Int), .int .i64 (p : Int), .int .i64 (q : Int), .slice sa acts.length sc], u1] w' (RowsNew w' (rowsR n (den (leafM (⟨(n : Int), (p : Int), (q : Int), acts⟩ : Mo)) b')))) := Lib.hid fun w' hb => ihb lo la ha n p q acts u1 _ w' HM.out (HA.out.below hb (by omega)) (Nat.le_trans hha (Nat.le_trans (by omega) hb.size)) (RT.below HSTK.out.2.1 hb) (by simp only [KT.ok, Bool.and_eq_true] at hok; exact hok.2)
  have HGS : Hid (∀ w' : World, Below w0.heap.size w0 w' → w'.cell? ⟨w.heap.size, 0, none⟩ = some (.int .i64 (n : Int)) ∧ w'.cell? ⟨w.heap.size, 1, none⟩ = some (.int .i64 (p : Int)) ∧ w'.cell? ⟨w.heap.size, 2, none⟩ = some (.int .i64 (q : Int)) ∧ w'.cell? ⟨w.heap.size, 3, none⟩ = some (.slice sa acts.length sc) ∧ w'.cell? ⟨b, 0, none⟩ = some (.int .i64 19) ∧ w'.cell? ⟨b, 1, none⟩ = some (.slice (some ⟨gk, ok, none⟩) 2 cap) ∧ w'.cell? ⟨gk, ok, none⟩ = some u0 ∧ w'.cell? ⟨gk, ok + 1, none⟩ = some u1) := Lib.hid fun w' hb => ⟨(KB.out.below hb KB.out.lt).cell 0, (KB.out.below hb KB.out.lt).cell 1, (KB.out.below hb KB.out.lt).cell 2, (KB.out.below hb KB.out.lt).cell 3, (KN.out.below hb KN.out.lt).cell 0, (KN.out.below hb KN.out.lt).cell 1, (hb.cell (p := ⟨gk, ok + 0, none⟩) (Nat.lt_of_lt_of_le HLN.out HB.out.size)).trans KC0.out, (hb.cell (p := ⟨gk, ok + 1, none⟩) (Nat.lt_of_lt_of_le HLN.out HB.out.size)).trans KC1.out⟩
  have HCl : Hid (Closed n (den (leafM (⟨(n : Int), (p : Int), (q : Int), acts⟩ : Mo)) a') ∧ Closed n (den (leafM (⟨(n : Int), (p : Int), (q : Int), acts⟩ : Mo)) b')) := Lib.hid (by have := HM.out.mod; simp only [KT.ok, Bool.and_eq_true] at hok; exact ⟨den_closed this _ hok.1, den_closed this _ hok.2⟩)
  have HI5 : inB (n : Int) 1 5 = true := by have := HM.out.n1; simp [inB]; omega
  have HV1 := Lib.hid (rowsR_valid HI5 (den (leafM (⟨(n : Int), (p : Int), (q : Int), acts⟩ : Mo)) a'))
  have HV2 := Lib.hid (rowsR_valid HI5 (den (leafM (⟨(n : Int), (p : Int), (q : Int), acts⟩ : Mo)) b'))
  rw [Int.toNat_natCast] at HV1 HV2
  have HI := Lib.hid HI5
  have S0 := HGS.out w0 (Below.refl _ _)
  have SD := HGS.out w0.drew (Below.drew (Below.refl _ _))
  have hdz : w0.drew.heap.size = w0.heap.size := rfl
  clear hM hA hp hok hblk hkid hstk hpl hb0 KB_ hw0 hcm hpc HI5 kc0 kc1
  go_enter Tryd.func68, Tryd.ntmps68
  go_upto_region 4 with (first | rw [← HW.out] | (go_at_call 53; refine (isAct_any _ _).mono ?_; rintro e _ ⟨rfl, rfl⟩))
  try rw [← HW.out]
  go_region_held3 (fun w' => w'.cell? ⟨w.heap.size, 0, none⟩ = some (.int .i64 (n : Int)) ∧ w'.cell? ⟨w.heap.size, 1, none⟩ = some (.int .i64 (p : Int)) ∧ w'.cell? ⟨w.heap.size, 2, none⟩ = some (.int .i64 (q : Int)) ∧ w'.cell? ⟨w.heap.size, 3, none⟩ = some (.slice sa acts.length sc) ∧ w'.cell? ⟨b, 0, none⟩ = some (.int .i64 19) ∧ w'.cell? ⟨b, 1, none⟩ = some (.slice (some ⟨gk, ok, none⟩) 2 cap) ∧ w'.cell? ⟨gk, ok, none⟩ = some u0 ∧ w'.cell? ⟨gk, ok + 1, none⟩ = some u1) (first | with_reducible assumption | go_keep) (first
    | (go_at_call_of 68 u0; refine (HIHa.out w0.drew (Below.drew (Below.refl _ _))).mono ?_; rintro e1 w1 ⟨v1, rfl, o1_, hb1_⟩; (have hz1 := hb1_.size); (have hb1 : Below w0.heap.size w0 w1 := (Below.drew (Below.refl _ _)).trans (hb1_.mono (Nat.le_refl _))); (have S1 := HGS.out _ hb1); obtain ⟨x1a, x1c, rfl⟩ := Own.shape o1_; (have O1 := Lib.hid o1_.sl); (have HB1 := Lib.hid hb1); clear o1_ hb1_ hb1)
    | (go_at_call_of 68 u1; refine (HIHb.out w1 HB1.out).mono ?_; rintro e2 w2 ⟨v2, rfl, o2_, hb2_⟩; (have hz2 := hb2_.size); (have hb2 : Below w0.heap.size w0 w2 := HB1.out.trans (hb2_.mono (by omega))); (have S2 := HGS.out _ hb2); (replace O1 := Lib.hid (O1.out.below hb2_ (Nat.le_refl _))); obtain ⟨x2a, x2c, rfl⟩ := Own.shape o2_; (have O2 := Lib.hid o2_.sl); (have HB2 := Lib.hid hb2); clear o2_ hb2_ hb2)
    | (go_at_call 96; refine (rowsThen_any _ _ _ _ _ _ _ _ _ w2 O1.out O2.out (by omega) (Nat.le_refl _) HV1.out HV2.out).mono ?_; rintro e3 w3 ⟨v3, rfl, o3_, hb3_⟩; rw [then_rows HCl.out.1] at o3_; (have hz3 := hb3_.size); (have hbf : Below w0.heap.size w0 w3 := HB2.out.trans (hb3_.mono (by omega))); (have S3 := HGS.out _ hbf); obtain ⟨x3a, x3c, rfl⟩ := Own.shape o3_; (have OF := Lib.hid o3_); (have HBF := Lib.hid hbf); clear o3_ hb3_ hbf))
  go_wp2
  go_ret
  exact RetV.mk _ rfl ⟨OF.out.lower (by omega) (Nat.le_refl _), HB.out.trans (HBF.out.mono (by omega))⟩


set_option maxRecDepth 100000 in
set_option maxHeartbeats 6400000 in
theorem rows_or {a' b' : KT} (iha : RowsC a') (ihb : RowsC b') : RowsC (.bin true a' b') := by
  intro lo la ha n p q acts ptr va w hM hA hha hp hok
  obtain ⟨ps, ⟨b, kv, rfl, _, _, hblk, a, cap, rfl, hpc, hcm, hkid⟩, hstk⟩ := hp.node
  have hpl := hstk.length
  obtain ⟨sa, sc, rfl, _, _⟩ := hA.shape
  have HM := Lib.hid hM
  have HS := Lib.hid hM.small
  have hn5 := hM.n5
  obtain ⟨w0, hw0⟩ : ∃ w0, w0 = w.alloc (.cells #[.int .i64 (n : Int), .int .i64 (p : Int), .int .i64 (q : Int), .slice sa acts.length sc] 25) := ⟨_, rfl⟩
  obtain ⟨hb0, KB_, hs0⟩ := box_facts3 hw0
  have KB := Lib.hid KB_
  have HB := Lib.hid hb0
  have HA := Lib.hid (hA.below hb0 hha)
  have KN := Lib.hid (hblk.below hb0 hblk.lt)
  have HSTK := Lib.hid (hstk.mono (Keeps.below hb0))
  have hbs := hblk.lt
  have HW := Lib.hid hw0
  simp only [KT.kids, List.length_cons, List.length_nil] at hpl
  obtain ⟨u0, u1, rfl⟩ : ∃ u0 u1, ps = [u0, u1] := by
    match ps, hpl with
    | [x, y], _ => exact ⟨x, y, rfl⟩
  obtain ⟨gk, ok, rfl, _, _, hgk, kc0⟩ := hkid 0 (by simp)
  obtain ⟨gk', ok', e1, _, _, _, kc1⟩ := hkid 1 (by simp)
  injection e1 with e1
  injection e1 with e1 e2
  subst e1 e2
  have KC0 := Lib.hid ((hb0.cell (p := ⟨gk, ok + 0, none⟩) hgk).trans kc0)
  have KC1 := Lib.hid ((hb0.cell (p := ⟨gk, ok + 1, none⟩) hgk).trans kc1)
  have HLN := Lib.hid hgk
  have HIHa : Hid (∀ w', Below w0.heap.size w0 w' → Calls Tryd.prog 68 #[.agg #[.int .i64 (n : Int), .int .i64 (p : Int), .int .i64 (q : Int), .slice sa acts.length sc], u0] w' (RowsNew w' (rowsR n (den (leafM (⟨(n : Int), (p : Int), (q : Int), acts⟩ : Mo)) a')))) := Lib.hid fun w' hb => iha lo la ha n p q acts u0 _ w' HM.out (HA.out.below hb (by omega)) (Nat.le_trans hha (Nat.le_trans (by omega) hb.size)) (RT.below HSTK.out.1 hb) (by simp only [KT.ok, Bool.and_eq_true] at hok; exact hok.1)
  have HIHb : Hid (∀ w', Below w0.heap.size w0 w' → Calls Tryd.prog 68 #[.agg #[.int .i64 (n : Int), .int .i64 (p : Int), .int .i64 (q : Int), .slice sa acts.length sc], u1] w' (RowsNew w' (rowsR n (den (leafM (⟨(n : Int), (p : Int), (q : Int), acts⟩ : Mo)) b')))) := Lib.hid fun w' hb => ihb lo la ha n p q acts u1 _ w' HM.out (HA.out.below hb (by omega)) (Nat.le_trans hha (Nat.le_trans (by omega) hb.size)) (RT.below HSTK.out.2.1 hb) (by simp only [KT.ok, Bool.and_eq_true] at hok; exact hok.2)
  have HGS : Hid (∀ w' : World, Below w0.heap.size w0 w' → w'.cell? ⟨w.heap.size, 0, none⟩ = some (.int .i64 (n : Int)) ∧ w'.cell? ⟨w.heap.size, 1, none⟩ = some (.int .i64 (p : Int)) ∧ w'.cell? ⟨w.heap.size, 2, none⟩ = some (.int .i64 (q : Int)) ∧ w'.cell? ⟨w.heap.size, 3, none⟩ = some (.slice sa acts.length sc) ∧ w'.cell? ⟨b, 0, none⟩ = some (.int .i64 20) ∧ w'.cell? ⟨b, 1, none⟩ = some (.slice (some ⟨gk, ok, none⟩) 2 cap) ∧ w'.cell? ⟨gk, ok, none⟩ = some u0 ∧ w'.cell? ⟨gk, ok + 1, none⟩ = some u1) := Lib.hid fun w' hb => ⟨(KB.out.below hb KB.out.lt).cell 0, (KB.out.below hb KB.out.lt).cell 1, (KB.out.below hb KB.out.lt).cell 2, (KB.out.below hb KB.out.lt).cell 3, (KN.out.below hb KN.out.lt).cell 0, (KN.out.below hb KN.out.lt).cell 1, (hb.cell (p := ⟨gk, ok + 0, none⟩) (Nat.lt_of_lt_of_le HLN.out HB.out.size)).trans KC0.out, (hb.cell (p := ⟨gk, ok + 1, none⟩) (Nat.lt_of_lt_of_le HLN.out HB.out.size)).trans KC1.out⟩
  have HCl : Hid (Closed n (den (leafM (⟨(n : Int), (p : Int), (q : Int), acts⟩ : Mo)) a') ∧ Closed n (den (leafM (⟨(n : Int), (p : Int), (q : Int), acts⟩ : Mo)) b')) := Lib.hid (by have := HM.out.mod; simp only [KT.ok, Bool.and_eq_true] at hok; exact ⟨den_closed this _ hok.1, den_closed this _ hok.2⟩)
  have HI5 : inB (n : Int) 1 5 = true := by have := HM.out.n1; simp [inB]; omega
  have HV1 := Lib.hid (rowsR_valid HI5 (den (leafM (⟨(n : Int), (p : Int), (q : Int), acts⟩ : Mo)) a'))
  have HV2 := Lib.hid (rowsR_valid HI5 (den (leafM (⟨(n : Int), (p : Int), (q : Int), acts⟩ : Mo)) b'))
  rw [Int.toNat_natCast] at HV1 HV2
  have HI := Lib.hid HI5
  have S0 := HGS.out w0 (Below.refl _ _)
  have SD := HGS.out w0.drew (Below.drew (Below.refl _ _))
  have hdz : w0.drew.heap.size = w0.heap.size := rfl
  clear hM hA hp hok hblk hkid hstk hpl hb0 KB_ hw0 hcm hpc HI5 kc0 kc1
  go_enter Tryd.func68, Tryd.ntmps68
  go_upto_region 6 with (first | rw [← HW.out] | (go_at_call 53; refine (isAct_any _ _).mono ?_; rintro e _ ⟨rfl, rfl⟩))
  try rw [← HW.out]
  go_region_held3 (fun w' => w'.cell? ⟨w.heap.size, 0, none⟩ = some (.int .i64 (n : Int)) ∧ w'.cell? ⟨w.heap.size, 1, none⟩ = some (.int .i64 (p : Int)) ∧ w'.cell? ⟨w.heap.size, 2, none⟩ = some (.int .i64 (q : Int)) ∧ w'.cell? ⟨w.heap.size, 3, none⟩ = some (.slice sa acts.length sc) ∧ w'.cell? ⟨b, 0, none⟩ = some (.int .i64 20) ∧ w'.cell? ⟨b, 1, none⟩ = some (.slice (some ⟨gk, ok, none⟩) 2 cap) ∧ w'.cell? ⟨gk, ok, none⟩ = some u0 ∧ w'.cell? ⟨gk, ok + 1, none⟩ = some u1) (first | with_reducible assumption | go_keep) (first
    | (go_at_call_of 68 u0; refine (HIHa.out w0.drew (Below.drew (Below.refl _ _))).mono ?_; rintro e1 w1 ⟨v1, rfl, o1_, hb1_⟩; (have hz1 := hb1_.size); (have hb1 : Below w0.heap.size w0 w1 := (Below.drew (Below.refl _ _)).trans (hb1_.mono (Nat.le_refl _))); (have S1 := HGS.out _ hb1); obtain ⟨x1a, x1c, rfl⟩ := Own.shape o1_; (have O1 := Lib.hid o1_.sl); (have HB1 := Lib.hid hb1); clear o1_ hb1_ hb1)
    | (go_at_call_of 68 u1; refine (HIHb.out w1 HB1.out).mono ?_; rintro e2 w2 ⟨v2, rfl, o2_, hb2_⟩; (have hz2 := hb2_.size); (have hb2 : Below w0.heap.size w0 w2 := HB1.out.trans (hb2_.mono (by omega))); (have S2 := HGS.out _ hb2); (replace O1 := Lib.hid (O1.out.below hb2_ (Nat.le_refl _))); obtain ⟨x2a, x2c, rfl⟩ := Own.shape o2_; (have O2 := Lib.hid o2_.sl); (have HB2 := Lib.hid hb2); clear o2_ hb2_ hb2)
    | (go_at_call 97; refine (rowsPlus_any _ _ _ _ _ _ _ _ _ w2 O1.out O2.out (by omega) (Nat.le_refl _) HV1.out HV2.out).mono ?_; rintro e3 w3 ⟨v3, rfl, o3_, hb3_⟩; rw [plus_rows] at o3_; (have hz3 := hb3_.size); (have hbf : Below w0.heap.size w0 w3 := HB2.out.trans (hb3_.mono (by omega))); (have S3 := HGS.out _ hbf); obtain ⟨x3a, x3c, rfl⟩ := Own.shape o3_; (have OF := Lib.hid o3_); (have HBF := Lib.hid hbf); clear o3_ hb3_ hbf))
  go_wp2
  go_ret
  exact RetV.mk _ rfl ⟨OF.out.lower (by omega) (Nat.le_refl _), HB.out.trans (HBF.out.mono (by omega))⟩


set_option maxRecDepth 100000 in
set_option maxHeartbeats 6400000 in
theorem rows_star {a' : KT} (iha : RowsC a') : RowsC (.star a') := by
  intro lo la ha n p q acts ptr va w hM hA hha hp hok
  obtain ⟨ps, ⟨b, kv, rfl, _, _, hblk, a, cap, rfl, hpc, hcm, hkid⟩, hstk⟩ := hp.node
  have hpl := hstk.length
  obtain ⟨sa, sc, rfl, _, _⟩ := hA.shape
  have HM := Lib.hid hM
  have HS := Lib.hid hM.small
  have hn5 := hM.n5
  obtain ⟨w0, hw0⟩ : ∃ w0, w0 = w.alloc (.cells #[.int .i64 (n : Int), .int .i64 (p : Int), .int .i64 (q : Int), .slice sa acts.length sc] 25) := ⟨_, rfl⟩
  obtain ⟨hb0, KB_, hs0⟩ := box_facts3 hw0
  have KB := Lib.hid KB_
  have HB := Lib.hid hb0
  have HA := Lib.hid (hA.below hb0 hha)
  have KN := Lib.hid (hblk.below hb0 hblk.lt)
  have HSTK := Lib.hid (hstk.mono (Keeps.below hb0))
  have hbs := hblk.lt
  have HW := Lib.hid hw0
  simp only [KT.kids, List.length_cons, List.length_nil] at hpl
  obtain ⟨u0, rfl⟩ : ∃ u0, ps = [u0] := by
    match ps, hpl with
    | [x], _ => exact ⟨x, rfl⟩
  obtain ⟨gk, ok, rfl, _, _, hgk, kc0⟩ := hkid 0 (by simp)
  have KC0 := Lib.hid ((hb0.cell (p := ⟨gk, ok + 0, none⟩) hgk).trans kc0)
  have HLN := Lib.hid hgk
  have HIHa : Hid (∀ w', Below w0.heap.size w0 w' → Calls Tryd.prog 68 #[.agg #[.int .i64 (n : Int), .int .i64 (p : Int), .int .i64 (q : Int), .slice sa acts.length sc], u0] w' (RowsNew w' (rowsR n (den (leafM (⟨(n : Int), (p : Int), (q : Int), acts⟩ : Mo)) a')))) := Lib.hid fun w' hb => iha lo la ha n p q acts u0 _ w' HM.out (HA.out.below hb (by omega)) (Nat.le_trans hha (Nat.le_trans (by omega) hb.size)) (RT.below HSTK.out.1 hb) hok
  have HGS : Hid (∀ w' : World, Below w0.heap.size w0 w' → w'.cell? ⟨w.heap.size, 0, none⟩ = some (.int .i64 (n : Int)) ∧ w'.cell? ⟨w.heap.size, 1, none⟩ = some (.int .i64 (p : Int)) ∧ w'.cell? ⟨w.heap.size, 2, none⟩ = some (.int .i64 (q : Int)) ∧ w'.cell? ⟨w.heap.size, 3, none⟩ = some (.slice sa acts.length sc) ∧ w'.cell? ⟨b, 0, none⟩ = some (.int .i64 21) ∧ w'.cell? ⟨b, 1, none⟩ = some (.slice (some ⟨gk, ok, none⟩) 1 cap) ∧ w'.cell? ⟨gk, ok, none⟩ = some u0) := Lib.hid fun w' hb => ⟨(KB.out.below hb KB.out.lt).cell 0, (KB.out.below hb KB.out.lt).cell 1, (KB.out.below hb KB.out.lt).cell 2, (KB.out.below hb KB.out.lt).cell 3, (KN.out.below hb KN.out.lt).cell 0, (KN.out.below hb KN.out.lt).cell 1, (hb.cell (p := ⟨gk, ok + 0, none⟩) (Nat.lt_of_lt_of_le HLN.out HB.out.size)).trans KC0.out⟩
  have HCl : Hid (Closed n (den (leafM (⟨(n : Int), (p : Int), (q : Int), acts⟩ : Mo)) a')) := Lib.hid (by have := HM.out.mod; exact den_closed this _ hok)
  have HI5 : inB (n : Int) 1 5 = true := by have := HM.out.n1; simp [inB]; omega
  have HV1 := Lib.hid (rowsR_valid HI5 (den (leafM (⟨(n : Int), (p : Int), (q : Int), acts⟩ : Mo)) a'))
  rw [Int.toNat_natCast] at HV1
  have HI := Lib.hid HI5
  have S0 := HGS.out w0 (Below.refl _ _)
  have SD := HGS.out w0.drew (Below.drew (Below.refl _ _))
  have hdz : w0.drew.heap.size = w0.heap.size := rfl
  clear hM hA hp hok hblk hkid hstk hpl hb0 KB_ hw0 hcm hpc HI5 kc0 
  go_enter Tryd.func68, Tryd.ntmps68
  go_upto_region 8 with (first | rw [← HW.out] | (go_at_call 53; refine (isAct_any _ _).mono ?_; rintro e _ ⟨rfl, rfl⟩))
  try rw [← HW.out]
  go_region_held3 (fun w' => w'.cell? ⟨w.heap.size, 0, none⟩ = some (.int .i64 (n : Int)) ∧ w'.cell? ⟨w.heap.size, 1, none⟩ = some (.int .i64 (p : Int)) ∧ w'.cell? ⟨w.heap.size, 2, none⟩ = some (.int .i64 (q : Int)) ∧ w'.cell? ⟨w.heap.size, 3, none⟩ = some (.slice sa acts.length sc) ∧ w'.cell? ⟨b, 0, none⟩ = some (.int .i64 21) ∧ w'.cell? ⟨b, 1, none⟩ = some (.slice (some ⟨gk, ok, none⟩) 1 cap) ∧ w'.cell? ⟨gk, ok, none⟩ = some u0) (first | with_reducible assumption | go_keep) (first
    | (go_at_call_of 68 u0; refine (HIHa.out w0.drew (Below.drew (Below.refl _ _))).mono ?_; rintro e1 w1 ⟨v1, rfl, o1_, hb1_⟩; (have hz1 := hb1_.size); (have hb1 : Below w0.heap.size w0 w1 := (Below.drew (Below.refl _ _)).trans (hb1_.mono (Nat.le_refl _))); (have S1 := HGS.out _ hb1); obtain ⟨x1a, x1c, rfl⟩ := Own.shape o1_; (have O1 := Lib.hid o1_.sl); (have HB1 := Lib.hid hb1); clear o1_ hb1_ hb1)
    | (go_at_call 98; refine (rowsStar_any _ _ _ _ _ _ w1 O1.out (Nat.le_refl _) HV1.out (by rw [Int.toNat_natCast]) (by rw [Int.toNat_natCast]; exact HCl.out)).mono ?_; rintro e3 w3 ⟨v3, rfl, o3_, hb3_⟩; rw [Int.toNat_natCast] at o3_; (have hz3 := hb3_.size); (have hbf : Below w0.heap.size w0 w3 := HB1.out.trans (hb3_.mono (by omega))); (have S3 := HGS.out _ hbf); obtain ⟨x3a, x3c, rfl⟩ := Own.shape o3_; (have OF := Lib.hid o3_); (have HBF := Lib.hid hbf); clear o3_ hb3_ hbf))
  go_wp2
  go_ret
  exact RetV.mk _ rfl ⟨OF.out.lower (by omega) (Nat.le_refl _), HB.out.trans (HBF.out.mono (by omega))⟩
end

section


set_option maxRecDepth 100000 in
set_option maxHeartbeats 6400000 in
theorem rows_act0 : RowsC (.leaf 16) := by
  intro lo la ha n p q acts ptr va w hM hA hha hp hok
  obtain ⟨ps, ⟨b, kv, rfl, _, _, hblk, a, cap, rfl, hpc, hcm, hkid⟩, hstk⟩ := hp.node
  have hpl := hstk.length
  obtain ⟨sa, sc, rfl, _, _⟩ := hA.shape
  rw [hM.len] at hA ⊢
  have HM := Lib.hid hM
  have HS := Lib.hid hM.small
  have hn5 := hM.n5
  obtain ⟨w0, hw0⟩ : ∃ w0, w0 = w.alloc (.cells #[.int .i64 (n : Int), .int .i64 (p : Int), .int .i64 (q : Int), .slice sa 3 sc] 25) := ⟨_, rfl⟩
  obtain ⟨hb0, KB_, hs0⟩ := box_facts3 hw0
  have KB := Lib.hid KB_
  have HB := Lib.hid hb0
  have HA := Lib.hid (hA.below hb0 hha)
  have KN := Lib.hid (hblk.below hb0 hblk.lt)
  have HSTK := Lib.hid (hstk.mono (Keeps.below hb0))
  have hbs := hblk.lt
  have HW := Lib.hid hw0
  have hlen : 3 ≤ acts.length := by have := hM.len; omega
  obtain ⟨b2, off2, u, rfl, _, hb2, hb2s, hcu, hu⟩ := hA.get 0 (by omega)
  have HU := Lib.hid (hu.below hb0 hha)
  have HCU := Lib.hid ((hb0.cell (p := ⟨b2, off2 + 0, none⟩) hb2s).trans hcu)
  have HL2 := Lib.hid hb2s
  have HR := Lib.hid (rows_rel (hM.rows 0 (by omega)))
  have HRL := Lib.hid (rowsB_small (hM.rows 0 (by omega)))
  have HGS : Hid (∀ w' : World, Below w0.heap.size w0 w' → w'.cell? ⟨w.heap.size, 0, none⟩ = some (.int .i64 (n : Int)) ∧ w'.cell? ⟨w.heap.size, 1, none⟩ = some (.int .i64 (p : Int)) ∧ w'.cell? ⟨w.heap.size, 2, none⟩ = some (.int .i64 (q : Int)) ∧ w'.cell? ⟨w.heap.size, 3, none⟩ = some (.slice (some ⟨b2, off2, none⟩) 3 sc) ∧ w'.cell? ⟨b, 0, none⟩ = some (.int .i64 16) ∧ w'.cell? ⟨b2, off2, none⟩ = some u) := Lib.hid fun w' hb => ⟨(KB.out.below hb KB.out.lt).cell 0, (KB.out.below hb KB.out.lt).cell 1, (KB.out.below hb KB.out.lt).cell 2, (KB.out.below hb KB.out.lt).cell 3, (KN.out.below hb KN.out.lt).cell 0, (hb.cell (p := ⟨b2, off2 + 0, none⟩) (Nat.lt_of_lt_of_le HL2.out HB.out.size)).trans HCU.out⟩
  have HD : Hid (rowsR n (den (leafM (⟨(n : Int), (p : Int), (q : Int), acts⟩ : Mo)) (.leaf 16)) = acts[0]'(by omega)) := Lib.hid (by
    rw [HR.out, Int.toNat_natCast]
    refine rowsR_congr fun s t _ _ => ?_
    rw [den_leaf, leafM_act (by omega)]
    simp only [show ((16 : Int) - 16).toNat = 0 from rfl, List.getD]
    rw [List.getElem?_eq_getElem (by omega)]
    simp)
  have S0 := HGS.out w0 (Below.refl _ _)
  have SD := HGS.out w0.drew (Below.drew (Below.refl _ _))
  have HUD := Lib.hid (HU.out.below (Below.drew (Below.refl w0.heap.size w0)) (by omega))
  have hdz : w0.drew.heap.size = w0.heap.size := rfl
  rw [HD.out]
  clear hM hA hp hok hblk hkid hstk hpl hb0 KB_ hw0 hcm hpc hcu hu HD
  go_enter Tryd.func68, Tryd.ntmps68
  go_upto_region 2 with (first | rw [← HW.out] | (go_at_call 53; refine (isAct_any _ _).mono ?_; rintro e _ ⟨rfl, rfl⟩))
  try rw [← HW.out]
  go_region_with ((go_at_call 95; refine (cloneI_any _ _ u _ w0.drew HUD.out (by have := HRL.out; omega)).mono ?_; rintro e3 w3 ⟨v3, rfl, hb3_, o3_⟩; (have hz3 := hb3_.size); (have hbf : Below w0.heap.size w0 w3 := (Below.drew (Below.refl _ _)).trans (hb3_.mono (Nat.le_refl _))); (have S3 := HGS.out _ hbf); obtain ⟨x3a, x3c, rfl⟩ := Own.shape o3_; (have OF := Lib.hid o3_); (have HBF := Lib.hid hbf); clear o3_ hb3_ hbf))
  all_goals (
    go_wp2
    go_ret
    exact RetV.mk _ rfl ⟨OF.out.lower (by show w.heap.size ≤ w0.heap.size; omega) (Nat.le_refl _), HB.out.trans (HBF.out.mono (by omega))⟩)


set_option maxRecDepth 100000 in
set_option maxHeartbeats 6400000 in
theorem rows_act1 : RowsC (.leaf 17) := by
  intro lo la ha n p q acts ptr va w hM hA hha hp hok
  obtain ⟨ps, ⟨b, kv, rfl, _, _, hblk, a, cap, rfl, hpc, hcm, hkid⟩, hstk⟩ := hp.node
  have hpl := hstk.length
  obtain ⟨sa, sc, rfl, _, _⟩ := hA.shape
  rw [hM.len] at hA ⊢
  have HM := Lib.hid hM
  have HS := Lib.hid hM.small
  have hn5 := hM.n5
  obtain ⟨w0, hw0⟩ : ∃ w0, w0 = w.alloc (.cells #[.int .i64 (n : Int), .int .i64 (p : Int), .int .i64 (q : Int), .slice sa 3 sc] 25) := ⟨_, rfl⟩
  obtain ⟨hb0, KB_, hs0⟩ := box_facts3 hw0
  have KB := Lib.hid KB_
  have HB := Lib.hid hb0
  have HA := Lib.hid (hA.below hb0 hha)
  have KN := Lib.hid (hblk.below hb0 hblk.lt)
  have HSTK := Lib.hid (hstk.mono (Keeps.below hb0))
  have hbs := hblk.lt
  have HW := Lib.hid hw0
  have hlen : 3 ≤ acts.length := by have := hM.len; omega
  obtain ⟨b2, off2, u, rfl, _, hb2, hb2s, hcu, hu⟩ := hA.get 1 (by omega)
  have HU := Lib.hid (hu.below hb0 hha)
  have HCU := Lib.hid ((hb0.cell (p := ⟨b2, off2 + 1, none⟩) hb2s).trans hcu)
  have HL2 := Lib.hid hb2s
  have HR := Lib.hid (rows_rel (hM.rows 1 (by omega)))
  have HRL := Lib.hid (rowsB_small (hM.rows 1 (by omega)))
  have HGS : Hid (∀ w' : World, Below w0.heap.size w0 w' → w'.cell? ⟨w.heap.size, 0, none⟩ = some (.int .i64 (n : Int)) ∧ w'.cell? ⟨w.heap.size, 1, none⟩ = some (.int .i64 (p : Int)) ∧ w'.cell? ⟨w.heap.size, 2, none⟩ = some (.int .i64 (q : Int)) ∧ w'.cell? ⟨w.heap.size, 3, none⟩ = some (.slice (some ⟨b2, off2, none⟩) 3 sc) ∧ w'.cell? ⟨b, 0, none⟩ = some (.int .i64 17) ∧ w'.cell? ⟨b2, off2 + 1, none⟩ = some u) := Lib.hid fun w' hb => ⟨(KB.out.below hb KB.out.lt).cell 0, (KB.out.below hb KB.out.lt).cell 1, (KB.out.below hb KB.out.lt).cell 2, (KB.out.below hb KB.out.lt).cell 3, (KN.out.below hb KN.out.lt).cell 0, (hb.cell (p := ⟨b2, off2 + 1, none⟩) (Nat.lt_of_lt_of_le HL2.out HB.out.size)).trans HCU.out⟩
  have HD : Hid (rowsR n (den (leafM (⟨(n : Int), (p : Int), (q : Int), acts⟩ : Mo)) (.leaf 17)) = acts[1]'(by omega)) := Lib.hid (by
    rw [HR.out, Int.toNat_natCast]
    refine rowsR_congr fun s t _ _ => ?_
    rw [den_leaf, leafM_act (by omega)]
    simp only [show ((17 : Int) - 16).toNat = 1 from rfl, List.getD]
    rw [List.getElem?_eq_getElem (by omega)]
    simp)
  have S0 := HGS.out w0 (Below.refl _ _)
  have SD := HGS.out w0.drew (Below.drew (Below.refl _ _))
  have HUD := Lib.hid (HU.out.below (Below.drew (Below.refl w0.heap.size w0)) (by omega))
  have hdz : w0.drew.heap.size = w0.heap.size := rfl
  rw [HD.out]
  clear hM hA hp hok hblk hkid hstk hpl hb0 KB_ hw0 hcm hpc hcu hu HD
  go_enter Tryd.func68, Tryd.ntmps68
  go_upto_region 2 with (first | rw [← HW.out] | (go_at_call 53; refine (isAct_any _ _).mono ?_; rintro e _ ⟨rfl, rfl⟩))
  try rw [← HW.out]
  go_region_with ((go_at_call 95; refine (cloneI_any _ _ u _ w0.drew HUD.out (by have := HRL.out; omega)).mono ?_; rintro e3 w3 ⟨v3, rfl, hb3_, o3_⟩; (have hz3 := hb3_.size); (have hbf : Below w0.heap.size w0 w3 := (Below.drew (Below.refl _ _)).trans (hb3_.mono (Nat.le_refl _))); (have S3 := HGS.out _ hbf); obtain ⟨x3a, x3c, rfl⟩ := Own.shape o3_; (have OF := Lib.hid o3_); (have HBF := Lib.hid hbf); clear o3_ hb3_ hbf))
  all_goals (
    go_wp2
    go_ret
    exact RetV.mk _ rfl ⟨OF.out.lower (by show w.heap.size ≤ w0.heap.size; omega) (Nat.le_refl _), HB.out.trans (HBF.out.mono (by omega))⟩)


set_option maxRecDepth 100000 in
set_option maxHeartbeats 6400000 in
theorem rows_act2 : RowsC (.leaf 18) := by
  intro lo la ha n p q acts ptr va w hM hA hha hp hok
  obtain ⟨ps, ⟨b, kv, rfl, _, _, hblk, a, cap, rfl, hpc, hcm, hkid⟩, hstk⟩ := hp.node
  have hpl := hstk.length
  obtain ⟨sa, sc, rfl, _, _⟩ := hA.shape
  rw [hM.len] at hA ⊢
  have HM := Lib.hid hM
  have HS := Lib.hid hM.small
  have hn5 := hM.n5
  obtain ⟨w0, hw0⟩ : ∃ w0, w0 = w.alloc (.cells #[.int .i64 (n : Int), .int .i64 (p : Int), .int .i64 (q : Int), .slice sa 3 sc] 25) := ⟨_, rfl⟩
  obtain ⟨hb0, KB_, hs0⟩ := box_facts3 hw0
  have KB := Lib.hid KB_
  have HB := Lib.hid hb0
  have HA := Lib.hid (hA.below hb0 hha)
  have KN := Lib.hid (hblk.below hb0 hblk.lt)
  have HSTK := Lib.hid (hstk.mono (Keeps.below hb0))
  have hbs := hblk.lt
  have HW := Lib.hid hw0
  have hlen : 3 ≤ acts.length := by have := hM.len; omega
  obtain ⟨b2, off2, u, rfl, _, hb2, hb2s, hcu, hu⟩ := hA.get 2 (by omega)
  have HU := Lib.hid (hu.below hb0 hha)
  have HCU := Lib.hid ((hb0.cell (p := ⟨b2, off2 + 2, none⟩) hb2s).trans hcu)
  have HL2 := Lib.hid hb2s
  have HR := Lib.hid (rows_rel (hM.rows 2 (by omega)))
  have HRL := Lib.hid (rowsB_small (hM.rows 2 (by omega)))
  have HGS : Hid (∀ w' : World, Below w0.heap.size w0 w' → w'.cell? ⟨w.heap.size, 0, none⟩ = some (.int .i64 (n : Int)) ∧ w'.cell? ⟨w.heap.size, 1, none⟩ = some (.int .i64 (p : Int)) ∧ w'.cell? ⟨w.heap.size, 2, none⟩ = some (.int .i64 (q : Int)) ∧ w'.cell? ⟨w.heap.size, 3, none⟩ = some (.slice (some ⟨b2, off2, none⟩) 3 sc) ∧ w'.cell? ⟨b, 0, none⟩ = some (.int .i64 18) ∧ w'.cell? ⟨b2, off2 + 2, none⟩ = some u) := Lib.hid fun w' hb => ⟨(KB.out.below hb KB.out.lt).cell 0, (KB.out.below hb KB.out.lt).cell 1, (KB.out.below hb KB.out.lt).cell 2, (KB.out.below hb KB.out.lt).cell 3, (KN.out.below hb KN.out.lt).cell 0, (hb.cell (p := ⟨b2, off2 + 2, none⟩) (Nat.lt_of_lt_of_le HL2.out HB.out.size)).trans HCU.out⟩
  have HD : Hid (rowsR n (den (leafM (⟨(n : Int), (p : Int), (q : Int), acts⟩ : Mo)) (.leaf 18)) = acts[2]'(by omega)) := Lib.hid (by
    rw [HR.out, Int.toNat_natCast]
    refine rowsR_congr fun s t _ _ => ?_
    rw [den_leaf, leafM_act (by omega)]
    simp only [show ((18 : Int) - 16).toNat = 2 from rfl, List.getD]
    rw [List.getElem?_eq_getElem (by omega)]
    simp)
  have S0 := HGS.out w0 (Below.refl _ _)
  have SD := HGS.out w0.drew (Below.drew (Below.refl _ _))
  have HUD := Lib.hid (HU.out.below (Below.drew (Below.refl w0.heap.size w0)) (by omega))
  have hdz : w0.drew.heap.size = w0.heap.size := rfl
  rw [HD.out]
  clear hM hA hp hok hblk hkid hstk hpl hb0 KB_ hw0 hcm hpc hcu hu HD
  go_enter Tryd.func68, Tryd.ntmps68
  go_upto_region 2 with (first | rw [← HW.out] | (go_at_call 53; refine (isAct_any _ _).mono ?_; rintro e _ ⟨rfl, rfl⟩))
  try rw [← HW.out]
  go_region_with ((go_at_call 95; refine (cloneI_any _ _ u _ w0.drew HUD.out (by have := HRL.out; omega)).mono ?_; rintro e3 w3 ⟨v3, rfl, hb3_, o3_⟩; (have hz3 := hb3_.size); (have hbf : Below w0.heap.size w0 w3 := (Below.drew (Below.refl _ _)).trans (hb3_.mono (Nat.le_refl _))); (have S3 := HGS.out _ hbf); obtain ⟨x3a, x3c, rfl⟩ := Own.shape o3_; (have OF := Lib.hid o3_); (have HBF := Lib.hid hbf); clear o3_ hb3_ hbf))
  all_goals (
    go_wp2
    go_ret
    exact RetV.mk _ rfl ⟨OF.out.lower (by show w.heap.size ≤ w0.heap.size; omega) (Nat.le_refl _), HB.out.trans (HBF.out.mono (by omega))⟩)


set_option maxRecDepth 100000 in
set_option maxHeartbeats 6400000 in
theorem rows_test {t : Nat} (ht : t < 16) : RowsC (.leaf (t : Nat)) := by
  intro lo la ha n p q acts ptr va w hM hA hha hp hok
  obtain ⟨ps, ⟨b, kv, rfl, _, _, hblk, a, cap, rfl, hpc, hcm, hkid⟩, hstk⟩ := hp.node
  have hpl := hstk.length
  obtain ⟨sa, sc, rfl, _, _⟩ := hA.shape
  have HM := Lib.hid hM
  have HS := Lib.hid hM.small
  have hn5 := hM.n5
  obtain ⟨w0, hw0⟩ : ∃ w0, w0 = w.alloc (.cells #[.int .i64 (n : Int), .int .i64 (p : Int), .int .i64 (q : Int), .slice sa acts.length sc] 25) := ⟨_, rfl⟩
  obtain ⟨hb0, KB_, hs0⟩ := box_facts3 hw0
  have KB := Lib.hid KB_
  have HB := Lib.hid hb0
  have HA := Lib.hid (hA.below hb0 hha)
  have KN := Lib.hid (hblk.below hb0 hblk.lt)
  have HSTK := Lib.hid (hstk.mono (Keeps.below hb0))
  have hbs := hblk.lt
  have HW := Lib.hid hw0
  have HGS : Hid (∀ w' : World, Below w0.heap.size w0 w' → w'.cell? ⟨w.heap.size, 0, none⟩ = some (.int .i64 (n : Int)) ∧ w'.cell? ⟨w.heap.size, 1, none⟩ = some (.int .i64 (p : Int)) ∧ w'.cell? ⟨w.heap.size, 2, none⟩ = some (.int .i64 (q : Int)) ∧ w'.cell? ⟨w.heap.size, 3, none⟩ = some (.slice sa acts.length sc) ∧ w'.cell? ⟨b, 0, none⟩ = some (.int .i64 (t : Nat))) := Lib.hid fun w' hb => ⟨(KB.out.below hb KB.out.lt).cell 0, (KB.out.below hb KB.out.lt).cell 1, (KB.out.below hb KB.out.lt).cell 2, (KB.out.below hb KB.out.lt).cell 3, (KN.out.below hb KN.out.lt).cell 0⟩
  have HD : Hid (rowsR n (den (leafM (⟨(n : Int), (p : Int), (q : Int), acts⟩ : Mo)) (.leaf (t : Nat))) = testR (⟨(n : Int), (p : Int), (q : Int), acts⟩ : Mo) t n) := Lib.hid (by rw [testR_rows _ _ _ ht]; rfl)
  have hia : isActB (t : Int) = false := by simp [isActB]; omega
  have h19 : ((t : Int) == 19) = false := by simp; omega
  have h20 : ((t : Int) == 20) = false := by simp; omega
  have h21 : ((t : Int) == 21) = false := by simp; omega
  have S0 := HGS.out w0 (Below.refl _ _)
  have SD := HGS.out w0.drew (Below.drew (Below.refl _ _))
  have hdz : w0.drew.heap.size = w0.heap.size := rfl
  rw [HD.out]
  clear hM hA hp hok hblk hkid hstk hpl hb0 KB_ hw0 hcm hpc HD
  go_enter Tryd.func68, Tryd.ntmps68
  go_upto_region 9 with (first | rw [← HW.out] | (go_at_call 53; refine (isAct_any _ _).mono ?_; rintro e _ ⟨rfl, rfl⟩))
  try rw [← HW.out]
  go_region_held3 (fun w' => w'.cell? ⟨w.heap.size, 0, none⟩ = some (.int .i64 (n : Int)) ∧ w'.cell? ⟨w.heap.size, 1, none⟩ = some (.int .i64 (p : Int)) ∧ w'.cell? ⟨w.heap.size, 2, none⟩ = some (.int .i64 (q : Int)) ∧ w'.cell? ⟨w.heap.size, 3, none⟩ = some (.slice sa acts.length sc) ∧ w'.cell? ⟨b, 0, none⟩ = some (.int .i64 (t : Nat))) (first | with_reducible assumption | go_keep) ((go_at_call 99; refine (testRows_any (⟨(n : Int), (p : Int), (q : Int), acts⟩ : Mo) _ t n p q w0.drew rfl hn5 rfl rfl HS.out.1 HS.out.2 ht ⟨_, _, _, rfl⟩).mono ?_; rintro e3 w3 ⟨v3, rfl, o3_, hb3_⟩; (have hz3 := hb3_.size); (have hbf : Below w0.heap.size w0 w3 := (Below.drew (Below.refl _ _)).trans (hb3_.mono (Nat.le_refl _))); (have S3 := HGS.out _ hbf); obtain ⟨x3a, x3c, rfl⟩ := Own.shape o3_; (have OF := Lib.hid o3_); (have HBF := Lib.hid hbf); clear o3_ hb3_ hbf))
  go_wp2
  go_ret
  exact RetV.mk _ rfl ⟨OF.out.lower (by omega) (Nat.le_refl _), HB.out.trans (HBF.out.mono (by omega))⟩
theorem rows_any : ∀ {t : KT}, t.ok 0 = true → RowsC t
  | .leaf a, h => by
    simp only [KT.ok, Bool.and_eq_true, decide_eq_true_eq] at h
    by_cases ha : a ≤ 15
    · obtain ⟨k, rfl⟩ : ∃ k : Nat, a = k := ⟨a.toNat, by omega⟩
      exact rows_test (by omega)
    · have : a = 16 ∨ a = 17 ∨ a = 18 := by omega
      rcases this with rfl | rfl | rfl
      · exact rows_act0
      · exact rows_act1
      · exact rows_act2
  | .star a, h => rows_star (rows_any (t := a) h)
  | .bin true a b, h => by
    simp only [KT.ok, Bool.and_eq_true] at h
    exact rows_or (rows_any h.1) (rows_any h.2)
  | .bin false a b, h => by
    simp only [KT.ok, Bool.and_eq_true] at h
    exact rows_seq (rows_any h.1) (rows_any h.2)
end

section

set_option maxRecDepth 100000 in
set_option maxHeartbeats 6400000 in
theorem impl_RowsOf (la ha lo hi : Nat) (M : Mo) (va ve : Value) (e : List Int) (w : World) (hA : SlLL la ha w va M.acts) (hha : ha ≤ w.heap.size) (hm : M.acts.length ≤ 1048576) (hm2 : ∀ x ∈ M.acts, x.length ≤ 1048576) (hx : SlI lo hi w ve e) (hhi : hi ≤ w.heap.size) (hme : e.length ≤ 1048576) :
    Calls Tryd.prog 32 #[aggMo M va, ve] w (RowsNew w (rowsV M e)) := by
  obtain ⟨n, P, Q, acts⟩ := M
  obtain ⟨sa, sc, rfl, _, _⟩ := hA.shape
  obtain ⟨xa, xc, rfl, _, _⟩ := Sl.shape hx
  simp only at hA hm hm2 ⊢
  have HV1 : Hid (modB ⟨n, P, Q, acts⟩ = false → rowsV ⟨n, P, Q, acts⟩ e = []) := Lib.hid fun h => by simp [rowsV, h]
  have HV2 : Hid (katV e = false → rowsV ⟨n, P, Q, acts⟩ e = []) := Lib.hid fun h => by simp [rowsV, h]
  obtain ⟨w0, hw0⟩ : ∃ w0, w0 = w.alloc (.cells #[.int .i64 n, .int .i64 P, .int .i64 Q, .slice sa acts.length sc] 25) := ⟨_, rfl⟩
  obtain ⟨hb0, KB_, hs0⟩ := box_facts3 hw0
  have KB := Lib.hid KB_
  have HB := Lib.hid hb0
  have HA := Lib.hid (hA.below hb0 hha)
  have HX := Lib.hid (hx.below hb0 hhi)
  have HM2 := Lib.hid hm2
  have HW := Lib.hid hw0
  have k0 := KB.out.cell 0
  have k1 := KB.out.cell 1
  have k2 := KB.out.cell 2
  have k3 := KB.out.cell 3
  clear hA hx hm2 hb0 KB_ hw0
  go_enter Tryd.func32, Tryd.ntmps32
  go_upto_region 1 with (rw [← HW.out])
  try rw [← HW.out]
  go_wp2_with fail
  refine (implModelValid la ha ⟨n, P, Q, acts⟩ _ w0 HA.out (by omega) hm HM2.out).mono ?_
  rintro e1 w1 ⟨rfl, hb1⟩
  clear k0 k1 k2 k3
  have hs1 := hb1.size
  replace KB := Lib.hid (KB.out.below hb1 KB.out.lt)
  replace HA := Lib.hid (HA.out.below hb1 (by omega))
  replace HX := Lib.hid (HX.out.below hb1 (by omega))
  replace HB := Lib.hid (HB.out.trans (hb1.mono (by omega)))
  clear hb1
  cases h1 : modB ⟨n, P, Q, acts⟩
  · have HE := Lib.hid (HV1.out h1)
    clear h1
    go_wp2
    go_ret
    exact RetV.mk _ rfl ⟨by rw [HE.out]; exact Own.nil _ _ _ _ _, HB.out⟩
  · go_wp2_with fail
    refine (impl_KatValid _ _ _ e w1 HX.out hme).mono ?_
    rintro e2 _ ⟨rfl, rfl⟩
    cases h2 : katV e
    · have HE := Lib.hid (HV2.out h2)
      clear h2
      go_wp2
      go_ret
      exact RetV.mk _ rfl ⟨by rw [HE.out]; exact Own.nil _ _ _ _ _, HB.out⟩
    · obtain ⟨n', p', q', e1, e2, e3, hok⟩ := modB_open h1
      simp only at e1 e2 e3 hok
      subst e1 e2 e3
      obtain ⟨T, t1, t2, t3, t4⟩ := katV_tree h2
      have hrv : rowsV ⟨(n' : Int), (p' : Int), (q' : Int), acts⟩ e = rowsR n' (den (leafM ⟨(n' : Int), (p' : Int), (q' : Int), acts⟩) T) := by
        rw [rowsV, h1, h2, ← t2, treeOf_post t1]
        rfl
      have HRV := Lib.hid hrv
      have HT := Lib.hid t3
      have HOK := Lib.hid t1
      have HMO := Lib.hid hok
      have hl40 := (kat_len h2).2
      clear hrv t1 t2 t3 t4 hok h1 h2 HV1 HV2
      have k0 := (KB.out.dr).cell 0
      have k1 := (KB.out.dr).cell 1
      have k2 := (KB.out.dr).cell 2
      have k3 := (KB.out.dr).cell 3
      have HBD : Hid (Below w1.heap.size w1 w1.drew) := Lib.hid (Below.drew (Below.refl _ _))
      have hdz : w1.drew.heap.size = w1.heap.size := rfl
      go_upto_region 3 with fail
      go_region_held3 (fun w' => w'.cell? ⟨w.heap.size, 0, none⟩ = some (.int .i64 (n' : Int)) ∧ w'.cell? ⟨w.heap.size, 1, none⟩ = some (.int .i64 (p' : Int)) ∧ w'.cell? ⟨w.heap.size, 2, none⟩ = some (.int .i64 (q' : Int)) ∧ w'.cell? ⟨w.heap.size, 3, none⟩ = some (.slice sa acts.length sc)) (first | with_reducible assumption | go_keep) (first
        | (go_at_call 69; refine (implBuild _ e T w1.drew (SlI.rd (HX.out.below HBD.out (by omega)) (by omega)) (by omega) HT.out).mono ?_; rintro e3 w3 ⟨v3, rfl, hb3, hrt⟩; (have hs3 := hb3.size); (have kb3 := Blk.below KB.out.dr hb3 KB.out.lt); (have m0 := kb3.cell 0); (have m1 := kb3.cell 1); (have m2 := kb3.cell 2); (have m3 := kb3.cell 3); (have K3 := Lib.hid kb3); (have HB3 := Lib.hid (HB.out.drew.trans (hb3.mono (by show w.heap.size ≤ w1.heap.size; omega)))); (have HA3 := Lib.hid ((HA.out.below HBD.out (by omega)).below hb3 (by omega))); (have HRT := Lib.hid hrt); clear kb3 hb3 hrt)
        | (go_at_call 68; refine (rows_any HOK.out _ la ha n' p' q' acts _ _ w3 HMO.out HA3.out (by omega) HRT.out HOK.out).mono ?_; rintro e4 w4 ⟨v4, rfl, o4_, hb4⟩; (have hs4 := hb4.size); (have kb4 := Blk.below K3.out hb4 K3.out.lt); (have m0 := kb4.cell 0); (have m1 := kb4.cell 1); (have m2 := kb4.cell 2); (have m3 := kb4.cell 3); obtain ⟨x4a, x4c, rfl⟩ := Own.shape o4_; (have O4 := Lib.hid o4_); (have HB4 := Lib.hid (HB3.out.trans (hb4.mono (by omega)))); clear kb4 hb4 o4_))
      go_wp2
      go_ret
      exact RetV.mk _ rfl ⟨by rw [HRV.out]; exact O4.out.lower (by omega) (Nat.le_refl _), HB4.out⟩
end
end Go.Proofs.YtoondakdjhhehaaDoor
