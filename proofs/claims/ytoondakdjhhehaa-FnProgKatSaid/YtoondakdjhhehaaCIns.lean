/-
  Texts of walks and plain lemmas for this seat; no condition.
-/
import Derived.Test.YtoondakdjhhehaaGA
import Derived.Test.YtoondakdjhhehaaGS
namespace Go.Proofs.Ytoondakdjhhehaa
open Go.RowKit

/-! Codes in memory: rows of three numbers. -/
def encI (x : In3) : List Value := [.int .i64 x.kind, .int .i64 x.arg, .int .i64 x.to]
def inss (l : List In3) : List Value := l.flatMap encI
theorem inss_length (l : List In3) : (inss l).length = l.length * 3 := by
  induction l with
  | nil => rfl
  | cons m r ih => simp only [inss, List.flatMap_cons, List.length_append] at *; rw [ih]; simp [encI]; omega
theorem inss_get (l : List In3) : ∀ (i : Nat) (h : i < l.length), (inss l)[i * 3]? = some (.int .i64 l[i].kind) ∧ (inss l)[i * 3 + 1]? = some (.int .i64 l[i].arg) ∧ (inss l)[i * 3 + 2]? = some (.int .i64 l[i].to) := by
  induction l with
  | nil => intro i h; simp at h
  | cons m r ih =>
    intro i h
    cases i with
    | zero => simp [inss, encI]
    | succ i =>
      have hi : i < r.length := by simpa using h
      obtain ⟨h1, h2, h3⟩ := ih i hi
      have e : ∀ j, (inss (m :: r))[(i + 1) * 3 + j]? = (inss r)[i * 3 + j]? := by
        intro j
        have : (inss (m :: r)) = encI m ++ inss r := by simp [inss]
        rw [this, List.getElem?_append_right (by simp [encI]; omega)]
        congr 1
        simp [encI]; omega
      refine ⟨?_, ?_, ?_⟩
      · rw [show (i + 1) * 3 = (i + 1) * 3 + 0 by omega, e 0]; simpa using h1
      · rw [e 1]; simpa using h2
      · rw [e 2]; simpa using h3
theorem inss_one (l : List In3) : ∀ u ∈ inss l, u.oneCell' = true := by
  intro u hu
  simp only [inss, List.mem_flatMap] at hu
  obtain ⟨m, _, hm⟩ := hu
  simp [encI] at hm
  rcases hm with rfl | rfl | rfl <;> rfl

def SlC (lo hi : Nat) (w : World) (v : Value) (l : List In3) : Prop := Sl 3 lo hi w v l.length (inss l)
def OwnC (lo hi e : Nat) (w : World) (v : Value) (l : List In3) : Prop := Own 3 lo hi e w v l.length (inss l)
theorem OwnC.sl {lo hi e : Nat} {w : World} {v : Value} {l : List In3} (h : OwnC lo hi e w v l) : SlC lo hi w v l := Own.sl h
theorem OwnC.below {lo hi e B : Nat} {w w' : World} {v : Value} {xs : List In3} (h : OwnC lo hi e w v xs) (hb : Below B w w') (hB : hi ≤ B) : OwnC lo hi e w' v xs := Own.below h hb hB
theorem OwnC.outside {lo hi lo' hi' e : Nat} {w w' : World} {v : Value} {xs : List In3} (h : OwnC lo hi e w v xs) (hb : Outside lo' hi' w w') (hd : hi ≤ lo' ∨ hi' ≤ lo) : OwnC lo hi e w' v xs := Own.outside h hb hd
theorem SlC.below {lo hi B : Nat} {w w' : World} {v : Value} {xs : List In3} (h : SlC lo hi w v xs) (hb : Below B w w') (hB : hi ≤ B) : SlC lo hi w' v xs := Sl.below h hb hB
theorem SlC.outside {lo hi lo' hi' : Nat} {w w' : World} {v : Value} {xs : List In3} (h : SlC lo hi w v xs) (hb : Outside lo' hi' w w') (hd : hi ≤ lo' ∨ hi' ≤ lo) : SlC lo hi w' v xs := Sl.outside h hb hd
theorem SlC.wide {lo hi lo' hi' : Nat} {w : World} {v : Value} {xs : List In3} (h : SlC lo hi w v xs) (h1 : lo' ≤ lo) (h2 : hi ≤ hi') : SlC lo' hi' w v xs := Sl.wide h h1 h2
theorem SlC.shape {lo hi : Nat} {w : World} {v : Value} {xs : List In3} (h : SlC lo hi w v xs) : ∃ a cap, v = .slice a xs.length cap ∧ xs.length ≤ cap ∧ cap ≤ maxLen := Sl.shape h
theorem SlC.get {lo hi cap n : Nat} {w : World} {a : Option Addr} {l : List In3} (h : SlC lo hi w (.slice a n cap) l) (i : Nat) (hi' : i < l.length) :
    ∃ b off, a = some ⟨b, off, none⟩ ∧ lo ≤ b ∧ b < hi ∧ b < w.heap.size ∧ w.cell? ⟨b, off + i * 3, none⟩ = some (.int .i64 l[i].kind) ∧ w.cell? ⟨b, off + i * 3 + 1, none⟩ = some (.int .i64 l[i].arg) ∧
      w.cell? ⟨b, off + i * 3 + 2, none⟩ = some (.int .i64 l[i].to) := by
  obtain ⟨a', cap', e, _, _, _, _, hc⟩ := h
  injection e with e1 _ _
  subst e1
  obtain ⟨g1, g2, g3⟩ := inss_get l i hi'
  have hl := inss_length l
  obtain ⟨b, off, e, h1, h2, h3, h4⟩ := hc (i * 3) (by omega)
  obtain ⟨b', off', e', _, _, _, h5⟩ := hc (i * 3 + 1) (by omega)
  obtain ⟨b'', off'', e'', _, _, _, h6⟩ := hc (i * 3 + 2) (by omega)
  rw [e] at e' e''
  injection e' with e'; injection e' with e1 e2; subst e1 e2
  injection e'' with e''; injection e'' with e1 e2; subst e1 e2
  exact ⟨b, off, e, h1, h2, h3, by rw [h4, g1], by rw [Nat.add_assoc, h5, g2], by rw [Nat.add_assoc, h6, g3]⟩
end Go.Proofs.Ytoondakdjhhehaa
