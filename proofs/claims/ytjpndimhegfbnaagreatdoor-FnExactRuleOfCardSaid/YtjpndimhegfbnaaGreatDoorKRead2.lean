/-
  Texts of walks and plain lemmas for this seat; no condition.
-/
import Derived.Test.YtjpndimhegfbnaaGreatDoorKRead
import Derived.Test.YtjpndimhegfbnaaGreatDoorOwnM
import Derived.Test.YtjpndimhegfbnaaGreatDoorShelf
namespace Go.Proofs.YtjpndimhegfbnaaGreatDoor
open Go.RowKit

/-- No more steps come out than signs went in. -/
def Short (p : PR) : Prop := ∀ s e r, p s = some (e, r) → e.length + r.length ≤ s.length
theorem single_short {sum : PR} (h : Short sum) : Short (singleP sum) := by
  intro s e r hs
  cases s with
  | nil => simp [singleP] at hs
  | cons c t =>
    simp only [singleP] at hs
    split at hs
    · split at hs
      · rename_i e' d r2 he
        split at hs
        · injection hs with hs
          injection hs with h1 h2
          subst h1 h2
          have := h _ _ _ he
          simp at this ⊢
          omega
        · cases hs
      · cases hs
    · split at hs
      · cases hs
      · split at hs
        · injection hs with hs
          injection hs with h1 h2
          subst h1 h2
          simp; omega
        · split at hs
          · injection hs with hs
            injection hs with h1 h2
            subst h1 h2
            simp; omega
          · cases hs
theorem star_short : ∀ (s : List UInt8) (e e' : List Int) (r : List UInt8), starP e s = (e', r) → e'.length + r.length ≤ e.length + s.length
  | [], e, e', r, h => by simp [starP] at h; simp [h.1, h.2]
  | c :: t, e, e', r, h => by
    simp only [starP] at h
    split at h
    · have := star_short t _ _ _ h
      simp at this ⊢
      omega
    · injection h with h1 h2
      subst h1 h2
      exact Nat.le_refl _
theorem starred_short {single : PR} (h : Short single) : Short (starredP single) := by
  intro s e r hs
  simp only [starredP, Option.map_eq_some_iff] at hs
  obtain ⟨⟨e1, r1⟩, h1, h2⟩ := hs
  have := h _ _ _ h1
  have h3 : e.length + r.length ≤ e1.length + r1.length := star_short _ _ _ _ h2
  omega
theorem loop_short {sign : Nat} {op : Int} {part : PR} (h : Short part) : ∀ (n : Nat) (s : List UInt8) (e e' : List Int) (r : List UInt8), loopP sign op part n e s = some (e', r) → e'.length + r.length ≤ e.length + s.length
  | n, [], e, e', r, hs => by cases n <;> (simp [loopP] at hs; simp [hs.1, hs.2])
  | 0, c :: t, e, e', r, hs => by
    simp only [loopP] at hs
    split at hs
    · cases hs
    · injection hs with hs
      injection hs with h1 h2
      subst h1 h2
      exact Nat.le_refl _
  | n + 1, c :: t, e, e', r, hs => by
    simp only [loopP] at hs
    split at hs
    · simp only [Option.bind_eq_some_iff] at hs
      obtain ⟨⟨e1, r1⟩, h1, h2⟩ := hs
      have h3 := h _ _ _ h1
      have h4 : e'.length + r.length ≤ (e ++ e1 ++ [op]).length + r1.length := loop_short h n _ _ _ _ h2
      simp at h4 ⊢
      omega
    · injection hs with hs
      injection hs with h1 h2
      subst h1 h2
      exact Nat.le_refl _
theorem chain_short {sign : Nat} {op : Int} {part : PR} (h : Short part) : Short (chainP sign op part) := by
  intro s e r hs
  simp only [chainP, Option.bind_eq_some_iff] at hs
  obtain ⟨⟨e1, r1⟩, h1, h2⟩ := hs
  have h3 := h _ _ _ h1
  have h4 : e.length + r.length ≤ e1.length + r1.length := loop_short h _ _ _ _ _ h2
  omega
theorem sum_short : ∀ n, Short (sumP n)
  | 0 => by intro s e r h; cases h
  | n + 1 => chain_short (chain_short (starred_short (single_short (sum_short n))))

/-- What a part of the reader's hands back: the steps, in new memory; the reader stands behind them. -/
def ReadR (g : Nat) (w : World) (txt : List UInt8) (e : List Int) (r : List UInt8) : Ending → World → Prop :=
  RetV fun v w' => OwnI w.heap.size w'.heap.size 3 w' v e ∧ KR g w' txt r ∧ Outside g (g + 1) w w'
/-- A function of the reader's reads as the plain one, on what is no longer than n. -/
def Reads (f : FuncId) (p : PR) (n : Nat) : Prop := ∀ (B g : Nat) (w : World) (txt s : List UInt8) (e : List Int) (r : List UInt8), KR g w txt s → s.length ≤ n → B ≤ g → MapB B w → p s = some (e, r) →
  Calls Tryz.prog f #[.pointer (some ⟨g, 0, none⟩)] w (ReadR g w txt e r)

theorem single_open {sum : PR} {c : UInt8} {t : List UInt8} {e : List Int} {r : List UInt8} (h : singleP sum (c :: t) = some (e, r)) :
    (c.toNat = 40 ∧ ∃ d, d.toNat = 41 ∧ sum t = some (e, d :: r)) ∨
    (c.toNat ≠ 40 ∧ c.toNat ≠ 33 ∧ c.toNat ≠ 91 ∧ r = t ∧ ((97 ≤ c.toNat ∧ c.toNat ≤ 99 ∧ e = [16 + ((c.toNat : Int) - 97)]) ∨ (¬ (97 ≤ c.toNat ∧ c.toNat ≤ 99) ∧ ∃ k : Nat, readT [c] = some k ∧ e = [(k : Int)]))) := by
  simp only [singleP] at h
  split at h
  · rename_i hc
    split at h
    · rename_i e' d r2 he
      split at h
      · rename_i hd
        injection h with h
        injection h with h1 h2
        subst h1 h2
        exact .inl ⟨hc, d, hd, he⟩
      · cases h
    · cases h
  · rename_i hc
    split at h
    · cases h
    · rename_i hc2
      split at h
      · rename_i hc3
        injection h with h
        injection h with h1 h2
        exact .inr ⟨hc, by omega, by omega, h2.symm, .inl ⟨hc3.1, hc3.2, h1.symm⟩⟩
      · rename_i hc3
        split at h
        · rename_i k hk
          injection h with h
          injection h with h1 h2
          exact .inr ⟨hc, by omega, by omega, h2.symm, .inr ⟨hc3, k, hk, h1.symm⟩⟩
        · cases h

theorem pre1 (c d : UInt8) (t : List UInt8) (h : d.toNat ≠ c.toNat) : Lib.hasPrefix (ByteArray.mk (d :: t).toArray).data.toList (ByteArray.mk #[c]).data.toList = false := by
  have hne : (c == d) = false := by
    rw [beq_eq_false_iff_ne]
    intro e
    exact h (by rw [e])
  show List.isPrefixOf [c] (d :: t) = false
  simp [List.isPrefixOf, hne]
theorem ext01 (c : UInt8) (t : List UInt8) : (ByteArray.mk (c :: t).toArray).extract 0 1 = ⟨#[c]⟩ := by
  apply ByteArray.ext
  simp [ByteArray.data_extract]
theorem extN (txt : List UInt8) (n : Nat) : (ByteArray.mk txt.toArray).extract n txt.length = ⟨(txt.drop n).toArray⟩ := by
  apply ByteArray.ext
  simp [ByteArray.data_extract]
  rw [List.take_of_length_le (by simp)]

set_option maxRecDepth 100000 in
set_option maxHeartbeats 3200000 in
theorem single_reads (sum : PR) (n : Nat) (hsum : Reads 130 sum n) : Reads 156 (singleP sum) (n + 1) := by
  intro B g w txt s e r hk hn hB hM hp
  have HM := Lib.hid hM
  have HK := Lib.hid hk
  have hg := hk.lt
  cases s with
  | nil => simp [singleP] at hp
  | cons c t =>
    have hnt : t.length ≤ n := by simpa using hn
    have HS := Lib.hid hsum
    clear hsum hM hk hn
    rcases single_open hp with ⟨hc, d, hd, hs⟩ | ⟨hc, h33, h91, rfl, hrest⟩
    · have HP := Lib.hid hs
      have q1 : isHead 40 (c :: t) = true := by simp [isHead]; omega
      have q2 : isHead 41 (d :: r) = true := by simp [isHead]; omega
      clear hp hs hc hd
      go_enter Tryz.func156, Tryz.ntmps156
      go_wp2_with fail
      refine (take_any g _ txt (c :: t) 40 HK.out).mono ?_
      rintro e1 w1 ⟨b, rfl, rfl, hk, ho⟩
      rw [q1] at hk ⊢
      replace HK := Lib.hid (show KR g w1 txt t from hk)
      have HO := Lib.hid ho
      replace HM := Lib.hid (HM.out.outside ho hB)
      clear hk ho
      go_wp2_with fail
      refine (HS.out B g _ txt t e (d :: r) HK.out hnt hB HM.out HP.out).mono ?_
      rintro e1 w2 ⟨v2, rfl, hown, hk, ho⟩
      replace HK := Lib.hid hk
      have HV := Lib.hid hown
      have hs1 := HO.out.size
      replace HO := Lib.hid (HO.out.trans ho)
      clear hk ho hown
      go_wp2_with fail
      refine (take_any g _ txt (d :: r) 41 HK.out).mono ?_
      rintro e1 w3 ⟨b, rfl, rfl, hk, ho⟩
      rw [q2] at hk ⊢
      replace HV := Lib.hid ((HV.out.outside ho (.inr (by omega))).wide2' ho.size)
      replace HK := Lib.hid (show KR g w3 txt r from hk)
      replace HO := Lib.hid (HO.out.trans ho)
      clear hk ho
      go_wp2
      go_ret
      exact RetV.mk _ rfl ⟨HV.out.wide2 hs1 (Nat.le_refl _), HK.out, HO.out⟩
    · have q1 : isHead 40 (c :: r) = false := by simp [isHead]; omega
      have P1 := Lib.hid (pre1 33 c r (by simpa using h33))
      have P2 := Lib.hid (pre1 91 c r (by simpa using h91))
      clear hp h33 h91 hc
      go_enter Tryz.func156, Tryz.ntmps156
      go_wp2_with fail
      refine (take_any g _ txt (c :: r) 40 HK.out).mono ?_
      rintro e1 w1 ⟨b, rfl, rfl, hk, ho⟩
      rw [q1] at hk ⊢
      replace HK := Lib.hid (show KR g w1 txt (c :: r) from hk)
      have HO := Lib.hid ho
      replace HM := Lib.hid (HM.out.outside ho hB)
      have hs1 := ho.size
      clear hk ho q1
      obtain ⟨k1, k2, k3, k4⟩ := HK.out
      obtain ⟨m, hm⟩ : ∃ m, m = txt.length - (c :: r).length := ⟨_, rfl⟩
      have hex := extN txt m
      rw [hm, ← k2, ← hm] at hex
      have c0 : w1.cell? ⟨g, 0, none⟩ = some (.string ⟨txt.toArray⟩) := by rw [Lib.cell_of_heap k1]; rfl
      have c1 : w1.cell? ⟨g, 1, none⟩ = some (.int .i64 ((txt.length - (c :: r).length : Nat) : Int)) := by rw [Lib.cell_of_heap k1]; rfl
      have f1 : w1.frozen? ⟨g, 1, none⟩ = false := Lib.frozen_of_heap k1 1
      rw [← hm] at c1
      have HMM := Lib.hid hm
      have hm1 : m ≤ txt.length := by omega
      have hm2 : (m : Int) ≤ txt.length := by omega
      have hx1 := ext01 c r
      clear k1 k2 k3 hm
      go_wp2_with fail
      go_quiet (fail)
      go_wp2_with fail
      refine (Tryz.strings_HasPrefix _ _ _).mono ?_
      rintro e1 w2 ⟨rfl, rfl⟩
      rw [P1.out]
      go_wp2_with fail
      refine (Tryz.strings_HasPrefix _ _ _).mono ?_
      rintro e1 w2 ⟨rfl, rfl⟩
      rw [P2.out]
      have hget : ∀ hh : 0 < (ByteArray.mk #[c]).size, (ByteArray.mk #[c])[0]'hh = c := fun _ => rfl
      have hstep : ∀ q, KR g ((w1.drewN q).setCell ⟨g, 1, none⟩ (.int .i64 ((m : Int) + 1))) txt r := fun q => by rw [HMM.out]; exact HK.out.step q
      have hout : ∀ q, Outside g (g + 1) w ((w1.drewN q).setCell ⟨g, 1, none⟩ (.int .i64 ((m : Int) + 1))) := fun q => (HO.out.trans (Outside.drawn _ _ _ q)).setCell (p := ⟨g, 1, none⟩) (Nat.le_refl _) (Nat.lt_succ_self _) _
      have HST := Lib.hid (And.intro hstep hout)
      clear hstep hout
      rcases hrest with ⟨h97, h99, rfl⟩ | ⟨hno, k, hk, rfl⟩
      · have i97 : (97 : Int) ≤ c.toNat := by omega
        have i99 : (c.toNat : Int) ≤ 99 := by omega
        go_wp2
        go_ret
        obtain ⟨wx, hwx⟩ : ∃ wx, wx = ((w1.drewN nq).setCell ⟨g, 1, none⟩ (.int .i64 ((m : Int) + 1))) := ⟨_, rfl⟩
        have hws : wx.heap.size = w1.heap.size := by rw [hwx]; simp [World.setCell]
        have h1 := HST.out.1 nq
        have h2 := HST.out.2 nq
        rw [← hwx] at h1 h2
        simp only [← hwx]
        have h3 := one_own (16 + ((c.toNat : Int) - 97)) wx
        rw [hws] at h3
        have hs2 := h2.size
        exact RetV.mk _ rfl ⟨h3.wide2 hs1 (Nat.le_refl _), h1.below ((Below.refl _ _).alloc (Nat.le_refl _) _) (by omega), h2.below ((Below.refl _ _).alloc (Nat.le_refl _) _) (by omega)⟩
      · have HRT := Lib.hid hk
        have hcmp : (97 ≤ c.toNat) ∧ ¬ (c.toNat ≤ 99) ∨ ¬ (97 ≤ c.toNat) := by omega
        clear hno hk
        obtain ⟨wx, hwx⟩ : ∃ wx, wx = ((w1.drewN nq).setCell ⟨g, 1, none⟩ (.int .i64 ((m : Int) + 1))) := ⟨_, rfl⟩
        have HWX := Lib.hid hwx
        have HKX := Lib.hid (HST.out.1 nq)
        have HOX := Lib.hid (HST.out.2 nq)
        have HMX := Lib.hid (HM.out.outside ((Outside.drawn g (g + 1) w1 nq).setCell (p := ⟨g, 1, none⟩) (Nat.le_refl _) (Nat.lt_succ_self _) (.int .i64 ((m : Int) + 1))) hB)
        rw [← hwx] at HKX HOX HMX
        have hs2 := HOX.out.size
        clear hwx HST
        rcases hcmp with ⟨h1, h2⟩ | h1
        · have i97 : (97 : Int) ≤ c.toNat := by omega
          have i99 : ¬ (c.toNat : Int) ≤ 99 := by omega
          go_wp2_with fail
          simp only [← HWX.out]
          refine (impl_ReadTest [c] _ rfl _ HMX.out.mapT).mono ?_
          rintro e1 w2 ⟨rfl, rfl⟩
          rw [HRT.out, show rdT (some k) = .tuple #[.int .i64 k, .bool true] from rfl]
          go_wp2
          go_ret
          exact RetV.mk _ rfl ⟨(one_own _ _).wide2 hs2 (Nat.le_refl _), HKX.out.below ((Below.refl _ _).alloc (Nat.le_refl _) _) (by omega), HOX.out.below ((Below.refl _ _).alloc (Nat.le_refl _) _) (by omega)⟩
        · have i97 : ¬ (97 : Int) ≤ c.toNat := by omega
          go_wp2_with fail
          simp only [← HWX.out]
          refine (impl_ReadTest [c] _ rfl _ HMX.out.mapT).mono ?_
          rintro e1 w2 ⟨rfl, rfl⟩
          rw [HRT.out, show rdT (some k) = .tuple #[.int .i64 k, .bool true] from rfl]
          go_wp2
          go_ret
          exact RetV.mk _ rfl ⟨(one_own _ _).wide2 hs2 (Nat.le_refl _), HKX.out.below ((Below.refl _ _).alloc (Nat.le_refl _) _) (by omega), HOX.out.below ((Below.refl _ _).alloc (Nat.le_refl _) _) (by omega)⟩
end Go.Proofs.YtjpndimhegfbnaaGreatDoor
