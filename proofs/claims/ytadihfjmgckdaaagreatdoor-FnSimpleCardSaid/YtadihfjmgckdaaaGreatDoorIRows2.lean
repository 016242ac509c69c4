/-
  Texts of walks and plain lemmas for this seat; no condition.
-/
import Derived.Test.YtadihfjmgckdaaaGreatDoorIRows
import Derived.Test.YtadihfjmgckdaaaGreatDoorGA
namespace Go.Proofs.YtadihfjmgckdaaaGreatDoor
open Go.RowKit
def idxP {α : Type} (p : α → Bool) (xs : List α) : Int := match xs.findIdx? p with | some i => (i : Nat) | none => -1

theorem idxP_at {α : Type} (p : α → Bool) (xs : List α) (j : Nat) (h : j < xs.length) (hp : p xs[j] = true) (hn : ∀ n, n < j → ∀ h : n < xs.length, p xs[n] = false) : idxP p xs = (j : Nat) := by
  have : xs.findIdx? p = some j := by
    rw [List.findIdx?_eq_some_iff_getElem]
    exact ⟨h, hp, fun n hn' => by have := hn n hn' (by omega); simp [this]⟩
  rw [idxP, this]
theorem idxP_none {α : Type} (p : α → Bool) (xs : List α) (hn : ∀ n (h : n < xs.length), p xs[n] = false) : idxP p xs = -1 := by
  have : xs.findIdx? p = none := by
    rw [List.findIdx?_eq_none_iff]
    intro x hx
    obtain ⟨n, h, rfl⟩ := List.getElem_of_mem hx
    exact hn n h
  rw [idxP, this]
theorem idxP_any {α : Type} (p : α → Bool) (xs : List α) : decide (idxP p xs ≥ 0) = xs.any p := by
  unfold idxP
  cases h : xs.findIdx? p with
  | none =>
    rw [List.findIdx?_eq_none_iff] at h
    simp only [ge_iff_le]
    rw [eq_comm]
    simpa using h
  | some i =>
    rw [List.findIdx?_eq_some_iff_getElem] at h
    obtain ⟨h1, h2, _⟩ := h
    simp only [ge_iff_le]
    rw [eq_comm]
    simp
    exact ⟨xs[i], List.getElem_mem h1, h2⟩

theorem indexFuncI (lo hi : Nat) (v c : Value) (xs : List Int) (p : Int → Bool) (w : World) (hx : SlI lo hi w v xs) (hh : hi ≤ w.heap.size) (hm : xs.length ≤ 1048576)
    (hf : ∀ x w', x ∈ xs → Below w.heap.size w w' → Calls Tryz.prog 141 #[.int .i64 x, c] w' fun e w'' => e = .returned (.bool (p x)) ∧ Below w'.heap.size w' w'') :
    Calls Tryz.prog 166 #[v, .func (.func 141) #[] #[c]] w fun e w' => e = .returned (.int .i64 (idxP p xs)) ∧ Below w.heap.size w w' := by
  have HF := Lib.hid hf
  have HX := Lib.hid hx
  obtain ⟨a, cap, rfl, hcap, hcm, _⟩ := hx.open
  clear hx hcm hcap hf
  go_enter Tryz.func166, Tryz.ntmps166
  go_wp2
  go_loopw [8] (fun i wr => ∃ j : Nat, j ≤ xs.length ∧ i = .int .i64 j ∧ Hid (Below w.heap.size w wr ∧ ∀ n, n < j → ∀ h : n < xs.length, p xs[n] = false)) (fun i _ => xs.length - (intOf i).toNat)
  case atStart => exact ⟨0, by omega, rfl, Lib.hid ⟨Below.refl _ _, fun n h => by omega⟩⟩
  case round =>
    obtain ⟨j, hj, rfl, HQ⟩ := hrel
    by_cases hlt : j < xs.length
    · obtain ⟨b, off, rfl, _, _, _, hcell⟩ := (HX.out.below HQ.out.1 hh).get j hlt
      have HC := Lib.hid (HF.out xs[j] wr (List.getElem_mem hlt) HQ.out.1)
      go_wp2_with fail
      refine HC.out.mono ?_
      rintro e w1 ⟨rfl, hb⟩
      have HB := Lib.hid (HQ.out.1.trans (hb.mono HQ.out.1.size))
      clear hb HC
      cases hp : p xs[j]
      · have HN : Hid (∀ n, n < j + 1 → ∀ h : n < xs.length, p xs[n] = false) := Lib.hid fun n hn h => by
          by_cases e : n = j
          · subst e; exact hp
          · exact HQ.out.2 n (by omega) h
        clear hp
        go_wp2
        go_roundw
        case rel => exact ⟨j + 1, by omega, by go_num, Lib.hid ⟨HB.out, HN.out⟩⟩
        case measure => simp [intOf]; omega
      · have HI := Lib.hid (idxP_at p xs j hlt hp HQ.out.2)
        clear hp
        go_wp2
        go_ret
        exact ⟨ret_int HI.out.symm, HB.out⟩
    · have HI := Lib.hid (idxP_none p xs fun n h => HQ.out.2 n (by omega) h)
      go_wp2
      go_ret
      exact ⟨ret_int HI.out.symm, HQ.out.1⟩

theorem containsFuncI (lo hi : Nat) (v c : Value) (xs : List Int) (p : Int → Bool) (w : World) (hx : SlI lo hi w v xs) (hh : hi ≤ w.heap.size) (hm : xs.length ≤ 1048576)
    (hf : ∀ x w', x ∈ xs → Below w.heap.size w w' → Calls Tryz.prog 141 #[.int .i64 x, c] w' fun e w'' => e = .returned (.bool (p x)) ∧ Below w'.heap.size w' w'') :
    Calls Tryz.prog 140 #[v, .func (.func 141) #[] #[c]] w fun e w' => e = .returned (.bool (xs.any p)) ∧ Below w.heap.size w w' := by
  have HC := Lib.hid (indexFuncI lo hi v c xs p w hx hh hm hf)
  have HI := Lib.hid (idxP_any p xs)
  clear hf
  go_enter Tryz.func140, Tryz.ntmps140
  go_wp2_with fail
  refine HC.out.mono ?_
  rintro e w1 ⟨rfl, hb⟩
  have HB := Lib.hid hb
  clear hb HC
  go_wp2
  go_ret
  exact ⟨ret_bool HI.out, HB.out⟩
theorem rowsValid_fn (g : Nat) (n x : Int) (hn : inB n 1 5 = true) (w : World) (hk : w.cell? ⟨g, 0, none⟩ = some (.int .i64 n)) :
    Calls Tryz.prog 141 #[.int .i64 x, .pointer (some ⟨g, 0, none⟩)] w fun e w' => e = .returned (.bool (!isSetB n x)) ∧ w = w' := by
  go_enter Tryz.func141, Tryz.ntmps141
  go_wp2_with (go_at_call 94; refine (isSet_any n x hn _).mono ?_; rintro e w' ⟨rfl, rfl⟩)
  go_ret
  exact ⟨rfl, rfl⟩
theorem rowsB_any (n : Int) (xs : List Int) (hn : inB n 1 5 = true) (hl : (xs.length : Int) = n) : rowsB n xs = !xs.any (fun x => !isSetB n x) := by
  simp only [rowsB, hn, hl, Bool.true_and, decide_true, List.not_any_eq_all_not, Bool.not_not]
theorem implRowsValid (lo hi : Nat) (n : Int) (v : Value) (xs : List Int) (w : World) (hx : SlI lo hi w v xs) (hh : hi ≤ w.heap.size) (hm : xs.length ≤ 1048576) :
    Calls Tryz.prog 96 #[.int .i64 n, v] w fun e w' => e = .returned (.bool (rowsB n xs)) ∧ Below w.heap.size w w' := by
  have HX := Lib.hid hx
  obtain ⟨a, cap, rfl, hcap, hcm, _⟩ := hx.open
  clear hx hcm hcap
  have HBA := Lib.hid ((Below.refl w.heap.size w).alloc (Nat.le_refl _) (.cells #[.int .i64 n] 3))
  cases hn : inB n 1 5
  · go_enter Tryz.func96, Tryz.ntmps96
    go_wp2_with (go_at_call 93; refine (hasStates_any _ _).mono ?_; rintro e w' ⟨rfl, rfl⟩)
    go_ret
    exact ⟨ret_bool (by simp [rowsB, hn]), HBA.out⟩
  · by_cases hl : (xs.length : Int) = n
    · have HF := Lib.hid (rowsB_any n xs hn hl)
      have HK := Lib.hid (Blk.new w (.cells #[.int .i64 n] 3))
      have HN := Lib.hid hn
      have hle : ((xs.length : Int) != n) = false := by simp [hl]
      clear hl
      go_enter Tryz.func96, Tryz.ntmps96
      go_wp2_with (go_at_call 93; refine (hasStates_any _ _).mono ?_; rintro e w' ⟨rfl, rfl⟩)
      refine (containsFuncI lo hi _ _ xs (fun x => !isSetB n x) _ (HX.out.below HBA.out hh) (by simp; omega) hm fun x w' _ hb => (rowsValid_fn w.heap.size n x HN.out w' (by rw [(HK.out.below hb (by simp)).cell 0]; rfl)).mono ?_).mono ?_
      · rintro e w2 ⟨rfl, rfl⟩
        exact ⟨rfl, Below.refl _ _⟩
      · rintro e w2 ⟨rfl, hb⟩
        have HB := Lib.hid (HBA.out.trans (hb.mono (by simp)))
        clear hb
        go_wp2
        go_ret
        exact ⟨ret_bool HF.out.symm, HB.out⟩
    · have hle : ((xs.length : Int) != n) = true := by simpa using hl
      go_enter Tryz.func96, Tryz.ntmps96
      go_wp2_with (go_at_call 93; refine (hasStates_any _ _).mono ?_; rintro e w' ⟨rfl, rfl⟩)
      go_ret
      exact ⟨ret_bool (by simp [rowsB, hl]), HBA.out⟩

/-- A slice of slices of ints. -/
def SlLL (lo hi : Nat) (w : World) (v : Value) (xss : List (List Int)) : Prop :=
  ∃ a cap, v = .slice a xss.length cap ∧ xss.length ≤ cap ∧ cap ≤ maxLen ∧ ∀ i (h : i < xss.length), ∃ b off u, a = some ⟨b, off, none⟩ ∧ lo ≤ b ∧ b < hi ∧ b < w.heap.size ∧ w.cell? ⟨b, off + i, none⟩ = some u ∧ SlI lo hi w u xss[i]
theorem SlLL.below {lo hi B : Nat} {w w' : World} {v : Value} {xss : List (List Int)} (h : SlLL lo hi w v xss) (hb : Below B w w') (hB : hi ≤ B) : SlLL lo hi w' v xss := by
  obtain ⟨a, cap, e, h1, h2, h3⟩ := h
  refine ⟨a, cap, e, h1, h2, fun i hi' => ?_⟩
  obtain ⟨b, off, u, e1, e2, e3, e4, e5, e6⟩ := h3 i hi'
  exact ⟨b, off, u, e1, e2, e3, Nat.lt_of_lt_of_le e4 hb.size, (hb.cell (p := ⟨b, off + i, none⟩) (Nat.lt_of_lt_of_le e3 hB)).trans e5, e6.below hb hB⟩
theorem SlLL.outside {lo hi lo' hi' : Nat} {w w' : World} {v : Value} {xss : List (List Int)} (h : SlLL lo hi w v xss) (hb : Outside lo' hi' w w') (hd : hi ≤ lo' ∨ hi' ≤ lo) : SlLL lo hi w' v xss := by
  obtain ⟨a, cap, e, h1, h2, h3⟩ := h
  refine ⟨a, cap, e, h1, h2, fun i hi' => ?_⟩
  obtain ⟨b, off, u, e1, e2, e3, e4, e5, e6⟩ := h3 i hi'
  exact ⟨b, off, u, e1, e2, e3, Nat.lt_of_lt_of_le e4 hb.size, by rw [World.cell?_of_block (w := w) (a := ⟨b, off + i, none⟩) (hb.block b e4 (by omega))]; exact e5, e6.outside hb hd⟩
theorem SlLL.wide {lo hi lo' hi' : Nat} {w : World} {v : Value} {xss : List (List Int)} (h : SlLL lo hi w v xss) (h1 : lo' ≤ lo) (h2 : hi ≤ hi') : SlLL lo' hi' w v xss := by
  obtain ⟨a, cap, e, k1, k2, h3⟩ := h
  refine ⟨a, cap, e, k1, k2, fun i hi' => ?_⟩
  obtain ⟨b, off, u, e1, e2, e3, e4, e5, e6⟩ := h3 i hi'
  exact ⟨b, off, u, e1, by omega, by omega, e4, e5, e6.wide h1 h2⟩
theorem SlLL.get {lo hi n cap : Nat} {w : World} {a : Option Addr} {xss : List (List Int)} (h : SlLL lo hi w (.slice a n cap) xss) (i : Nat) (hi' : i < xss.length) :
    ∃ b off u, a = some ⟨b, off, none⟩ ∧ lo ≤ b ∧ b < hi ∧ b < w.heap.size ∧ w.cell? ⟨b, off + i, none⟩ = some u ∧ SlI lo hi w u xss[i] := by
  obtain ⟨a', cap', e, _, _, h3⟩ := h
  injection e with e1 _ _
  subst e1
  exact h3 i hi'
theorem SlLL.shape {lo hi : Nat} {w : World} {v : Value} {xss : List (List Int)} (h : SlLL lo hi w v xss) : ∃ a cap, v = .slice a xss.length cap ∧ xss.length ≤ cap ∧ cap ≤ maxLen := by
  obtain ⟨a, cap, e, h1, h2, _⟩ := h
  exact ⟨a, cap, e, h1, h2⟩
/-- The values of a model. -/
abbrev aggMo (M : Mo) (va : Value) : Value := .agg #[.int .i64 M.n, .int .i64 M.p, .int .i64 M.q, va]
end Go.Proofs.YtadihfjmgckdaaaGreatDoor
