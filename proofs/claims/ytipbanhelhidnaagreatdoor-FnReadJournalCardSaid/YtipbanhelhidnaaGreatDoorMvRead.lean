/-
  Texts of walks and plain lemmas for this seat; no condition.
-/
import Derived.Test.YtipbanhelhidnaaGreatDoorMText
namespace Go.Proofs.YtipbanhelhidnaaGreatDoor
open Go.RowKit

/-- The number that two digits or one tell. -/
def undig : List UInt8 → Option Nat
  | [a] => if 48 ≤ a.toNat ∧ a.toNat ≤ 57 then some (a.toNat - 48) else none
  | [a, b] => if 48 ≤ a.toNat ∧ a.toNat ≤ 57 ∧ 48 ≤ b.toNat ∧ b.toNat ≤ 57 then some ((a.toNat - 48) * 10 + (b.toNat - 48)) else none
  | _ => none
theorem undig_dig : ∀ n, n < 100 → undig (dig2 n) = some n := by decide +kernel
/-- A sign, a number, '@', a number. -/
def deMv : List UInt8 → Option Mv
  | [] => none
  | c :: r =>
    match undig (r.takeWhile (· != 64)), undig ((r.dropWhile (· != 64)).drop 1) with
    | some p, some q => some ⟨p, c == 45, q⟩
    | _, _ => none
/-- The move of a text. -/
def readMv (s : List UInt8) : Option Mv := (deMv s).filter fun m => mvOk m && mvText m == s
theorem mvOk_nat {m : Mv} (h : mvOk m = true) : ∃ p q : Nat, p ≤ 20 ∧ q ≤ 39 ∧ m = ⟨p, m.back, q⟩ := by
  obtain ⟨p, b, q⟩ := m
  simp [mvOk] at h
  exact ⟨p.toNat, q.toNat, by omega, by omega, by simp; omega⟩
theorem deMv_all : ∀ p, p < 21 → ∀ q, q < 40 → ∀ b : Bool, deMv (mvText ⟨(p : Nat), b, (q : Nat)⟩) = some ⟨(p : Nat), b, (q : Nat)⟩ := by decide +kernel
theorem deMv_text {m : Mv} (h : mvOk m = true) : deMv (mvText m) = some m := by
  obtain ⟨p, q, hp, hq, e⟩ := mvOk_nat h
  rw [e]
  exact deMv_all p (by omega) q (by omega) _
theorem readMv_iff (s : List UInt8) (m : Mv) : readMv s = some m ↔ mvOk m = true ∧ mvText m = s := by
  unfold readMv
  rw [Option.filter_eq_some_iff]
  constructor
  · rintro ⟨_, h⟩
    simpa using h
  · rintro ⟨h1, h2⟩
    subst h2
    exact ⟨deMv_text h1, by simp [h1]⟩
theorem readMv_none {s : List UInt8} (h : ∀ m, mvOk m = true → mvText m ≠ s) : readMv s = none := by
  cases he : readMv s with
  | none => rfl
  | some m => exact absurd ((readMv_iff s m).1 he).2 (h m ((readMv_iff s m).1 he).1)
theorem mvText_pos {m : Mv} (h : mvText m ≠ []) : mvOk m = true := by
  cases hk : mvOk m
  · simp [mvText, hk] at h
  · rfl
theorem mvText_of {m : Mv} (h : mvOk m = true) : mvText m ≠ [] := by
  simp [mvText, h]
end Go.Proofs.YtipbanhelhidnaaGreatDoor
