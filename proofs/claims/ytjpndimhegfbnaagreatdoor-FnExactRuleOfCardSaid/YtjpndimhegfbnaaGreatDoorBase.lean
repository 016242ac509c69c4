/-
  Texts of walks and plain lemmas for this seat; no condition.
-/
import Derived.WalkKit
import Derived.WalkSpells
import Derived.WalkLawsBesides
import Derived.Lib.Hide
namespace Go.Proofs.YtjpndimhegfbnaaGreatDoor
open Go.RowKit

/-- Blocks outside lo..hi-1 hold what they held. -/
structure Outside (lo hi : Nat) (w w' : World) : Prop where
  os : w'.os = w.os
  tape : w'.tape = w.tape
  output : w'.output = w.output
  size : w.heap.size ≤ w'.heap.size
  block : ∀ k, k < w.heap.size → (k < lo ∨ hi ≤ k) → w'.heap[k]? = w.heap[k]?

/-- The slice value v reads as the cells xs, n elements of sz cells each, in a block of lo..hi-1. -/
def Sl (sz lo hi : Nat) (w : World) (v : Value) (n : Nat) (xs : List Value) : Prop :=
  ∃ a cap, v = .slice a n cap ∧ n ≤ cap ∧ cap ≤ maxLen ∧ xs.length = n * sz ∧ (a = none → cap = 0) ∧
    ∀ i, i < xs.length → ∃ b off, a = some ⟨b, off, none⟩ ∧ lo ≤ b ∧ b < hi ∧ b < w.heap.size ∧ w.cell? ⟨b, off + i, none⟩ = xs[i]?

def ints (xs : List Int) : List Value := xs.map (Value.int .i64)

/-- A slice of ints. -/
def SlI (lo hi : Nat) (w : World) (v : Value) (xs : List Int) : Prop := Sl 1 lo hi w v xs.length (ints xs)

theorem ints_length (xs : List Int) : (ints xs).length = xs.length := by simp [ints]
theorem ints_get (xs : List Int) (i : Nat) (h : i < xs.length) : (ints xs)[i]? = some (.int .i64 xs[i]) := by simp [ints, h]

theorem Sl.below {sz lo hi B n : Nat} {w w' : World} {v : Value} {xs : List Value} (h : Sl sz lo hi w v n xs) (hb : Below B w w') (hB : hi ≤ B) : Sl sz lo hi w' v n xs := by
  obtain ⟨a, cap, h1, h2, h3, h4, h5, h6⟩ := h
  refine ⟨a, cap, h1, h2, h3, h4, h5, fun i hi' => ?_⟩
  obtain ⟨b, off, e, e1, e2, e3, e4⟩ := h6 i hi'
  exact ⟨b, off, e, e1, e2, Nat.lt_of_lt_of_le e3 hb.size, by rw [hb.cell (p := ⟨b, _, none⟩) (Nat.lt_of_lt_of_le e2 hB)]; exact e4⟩

theorem Sl.wide {sz lo hi lo' hi' n : Nat} {w : World} {v : Value} {xs : List Value} (h : Sl sz lo hi w v n xs) (h1 : lo' ≤ lo) (h2 : hi ≤ hi') : Sl sz lo' hi' w v n xs := by
  obtain ⟨a, cap, h1', h2', h3, h4, h5, h6⟩ := h
  refine ⟨a, cap, h1', h2', h3, h4, h5, fun i hi' => ?_⟩
  obtain ⟨b, off, e, e1, e2, e3, e4⟩ := h6 i hi'
  exact ⟨b, off, e, by omega, by omega, e3, e4⟩

theorem Sl.outside {sz lo hi lo' hi' n : Nat} {w w' : World} {v : Value} {xs : List Value} (h : Sl sz lo hi w v n xs) (hb : Outside lo' hi' w w') (hd : hi ≤ lo' ∨ hi' ≤ lo) : Sl sz lo hi w' v n xs := by
  obtain ⟨a, cap, h1, h2, h3, h4, h5, h6⟩ := h
  refine ⟨a, cap, h1, h2, h3, h4, h5, fun i hi' => ?_⟩
  obtain ⟨b, off, e, e1, e2, e3, e4⟩ := h6 i hi'
  refine ⟨b, off, e, e1, e2, Nat.lt_of_lt_of_le e3 hb.size, ?_⟩
  rw [World.cell?_of_block (w := w) (a := ⟨b, off + i, none⟩) (hb.block b e3 (by omega))]
  exact e4

theorem Below.outside {B lo hi : Nat} {a b c : World} (h : Below B a b) (k : Outside lo hi b c) (hB : B ≤ lo) (hs : B ≤ b.heap.size) : Below B a c :=
  ⟨k.os.trans h.os, k.tape.trans h.tape, k.output.trans h.output, Nat.le_trans h.size k.size, fun i hi => (k.block i (by omega) (by omega)).trans (h.block i hi)⟩

/-- An owned row: writable, and it may be appended to. -/
def Own (sz lo hi e : Nat) (w : World) (v : Value) (n : Nat) (xs : List Value) : Prop :=
  w.ownsRow lo e sz v n xs ∧ ∀ g, v.ownBlock = some g → g < hi

theorem Own.sl {sz lo hi e n : Nat} {w : World} {v : Value} {xs : List Value} (h : Own sz lo hi e w v n xs) : Sl sz lo hi w v n xs := by
  obtain ⟨⟨hlen, h⟩, hlt⟩ := h
  rcases h with ⟨rfl, rfl⟩ | ⟨g, cap, cur, rfl, hb, hg, hnc, hcm, hcs, htake⟩
  · refine ⟨none, 0, rfl, Nat.le_refl _, by simp [maxLen], hlen, fun _ => rfl, fun i hi => ?_⟩
    simp [hlen] at hi
  · refine ⟨_, cap, rfl, hnc, hcm, hlen, (by intro h; cases h), fun i hi => ?_⟩
    have hgs := (Array.getElem?_eq_some_iff.1 hg).1
    refine ⟨g, 0, rfl, hb, hlt g rfl, hgs, ?_⟩
    rw [Nat.zero_add, cell_of_row w g i cur e (0, 0) hg, ← htake, List.getElem?_take, if_pos (by omega)]
    simp

theorem Own.below {sz lo hi e B n : Nat} {w w' : World} {v : Value} {xs : List Value} (h : Own sz lo hi e w v n xs) (hb : Below B w w') (hB : hi ≤ B) : Own sz lo hi e w' v n xs := by
  obtain ⟨⟨hlen, h⟩, hlt⟩ := h
  refine ⟨⟨hlen, ?_⟩, hlt⟩
  rcases h with h | ⟨g, cap, cur, rfl, h1, hg, rest⟩
  · exact .inl h
  · exact .inr ⟨g, cap, cur, rfl, h1, by rw [hb.block g (Nat.lt_of_lt_of_le (hlt g rfl) hB)]; exact hg, rest⟩

theorem Own.outside {sz lo hi lo' hi' e n : Nat} {w w' : World} {v : Value} {xs : List Value} (h : Own sz lo hi e w v n xs) (hb : Outside lo' hi' w w') (hd : hi ≤ lo' ∨ hi' ≤ lo) : Own sz lo hi e w' v n xs := by
  obtain ⟨⟨hlen, h⟩, hlt⟩ := h
  refine ⟨⟨hlen, ?_⟩, hlt⟩
  rcases h with h | ⟨g, cap, cur, rfl, h1, hg, rest⟩
  · exact .inl h
  · have hgs := (Array.getElem?_eq_some_iff.1 hg).1
    have := hlt g rfl
    exact .inr ⟨g, cap, cur, rfl, h1, by rw [hb.block g hgs (by omega)]; exact hg, rest⟩

def OwnI (lo hi e : Nat) (w : World) (v : Value) (xs : List Int) : Prop := Own 1 lo hi e w v xs.length (ints xs)

theorem OwnI.sl {lo hi e : Nat} {w : World} {v : Value} {xs : List Int} (h : OwnI lo hi e w v xs) : SlI lo hi w v xs := Own.sl h
theorem OwnI.below {lo hi e B : Nat} {w w' : World} {v : Value} {xs : List Int} (h : OwnI lo hi e w v xs) (hb : Below B w w') (hB : hi ≤ B) : OwnI lo hi e w' v xs := Own.below h hb hB
theorem OwnI.outside {lo hi lo' hi' e : Nat} {w w' : World} {v : Value} {xs : List Int} (h : OwnI lo hi e w v xs) (hb : Outside lo' hi' w w') (hd : hi ≤ lo' ∨ hi' ≤ lo) : OwnI lo hi e w' v xs := Own.outside h hb hd
theorem SlI.below {lo hi B : Nat} {w w' : World} {v : Value} {xs : List Int} (h : SlI lo hi w v xs) (hb : Below B w w') (hB : hi ≤ B) : SlI lo hi w' v xs := Sl.below h hb hB
theorem SlI.outside {lo hi lo' hi' : Nat} {w w' : World} {v : Value} {xs : List Int} (h : SlI lo hi w v xs) (hb : Outside lo' hi' w w') (hd : hi ≤ lo' ∨ hi' ≤ lo) : SlI lo hi w' v xs := Sl.outside h hb hd
theorem SlI.wide {lo hi lo' hi' : Nat} {w : World} {v : Value} {xs : List Int} (h : SlI lo hi w v xs) (h1 : lo' ≤ lo) (h2 : hi ≤ hi') : SlI lo' hi' w v xs := Sl.wide h h1 h2

/-- Opened for a walk: the value, and element i. -/
theorem SlI.open {lo hi : Nat} {w : World} {v : Value} {xs : List Int} (h : SlI lo hi w v xs) :
    ∃ a cap, v = .slice a xs.length cap ∧ xs.length ≤ cap ∧ cap ≤ maxLen ∧
      ∀ i, (h : i < xs.length) → ∃ b off, a = some ⟨b, off, none⟩ ∧ lo ≤ b ∧ b < hi ∧ b < w.heap.size ∧ w.cell? ⟨b, off + i, none⟩ = some (.int .i64 xs[i]) := by
  obtain ⟨a, cap, h1, h2, h3, h4, h5, h6⟩ := h
  refine ⟨a, cap, h1, h2, h3, fun i hi' => ?_⟩
  obtain ⟨b, off, e, e1, e2, e3, e4⟩ := h6 i (by simpa [ints] using hi')
  exact ⟨b, off, e, e1, e2, e3, by rw [e4, ints_get xs i hi']⟩

/-- A row that is filled from the left. -/
def fill (xs : List Value) (z : Value) (k : Nat) : List Value := xs.take k ++ List.replicate (xs.length - k) z

theorem fill_zero (xs : List Value) (z : Value) : fill xs z 0 = List.replicate xs.length z := by simp [fill]
theorem fill_all (xs : List Value) (z : Value) (k : Nat) (h : xs.length ≤ k) : fill xs z k = xs := by
  simp [fill, List.take_of_length_le h, show xs.length - k = 0 by omega]
theorem fill_get (xs : List Value) (z : Value) (k : Nat) (h : k < xs.length) : (fill xs z k)[k]? = some z := by
  have h1 : (xs.take k).length = k := by simp; omega
  rw [fill, List.getElem?_append_right (by omega), h1, Nat.sub_self, List.getElem?_replicate, if_pos (by omega)]
theorem fill_set (xs : List Value) (z : Value) (k : Nat) (h : k < xs.length) (u : Value) (hu : xs[k]? = some u) : (fill xs z k).set k u = fill xs z (k + 1) := by
  have h1 : (xs.take k).length = k := by simp; omega
  unfold fill
  rw [List.set_append_right _ _ (by omega), h1, Nat.sub_self, show xs.length - k = (xs.length - (k + 1)) + 1 by omega, List.replicate_succ, List.set_cons_zero,
    List.take_add_one, hu]
  simp

/-- k, k + 1, .. -/
def seqI (k : Int) (n : Nat) : List Int := (List.range n).map (fun i => k + (i : Nat))
theorem seqI_length (k : Int) (n : Nat) : (seqI k n).length = n := by simp [seqI]
theorem seqI_get (k : Int) (n i : Nat) (h : i < n) : (ints (seqI k n))[i]? = some (.int .i64 (k + i)) := by simp [ints, seqI, h]

/-- A row whose first k cells are written over. -/
def over (ys xs : List Value) (k : Nat) : List Value := ys.take k ++ xs.drop k
theorem over_zero (ys xs : List Value) : over ys xs 0 = xs := by simp [over]
theorem over_all (ys xs : List Value) (k : Nat) (h : xs.length ≤ k) (h2 : ys.length ≤ k) : over ys xs k = ys := by
  simp [over, List.take_of_length_le h2, h]
theorem over_length (ys xs : List Value) (k : Nat) (h : ys.length = xs.length) : (over ys xs k).length = xs.length := by
  simp [over]; omega
theorem over_set (ys xs : List Value) (k : Nat) (h : ys.length = xs.length) (hk : k < xs.length) (u : Value) (hu : ys[k]? = some u) : (over ys xs k).set k u = over ys xs (k + 1) := by
  have h1 : (ys.take k).length = k := by simp; omega
  unfold over
  rw [List.set_append_right _ _ (by omega), h1, Nat.sub_self, List.drop_eq_getElem_cons hk, List.set_cons_zero, List.take_add_one, hu]
  simp
theorem over_get (ys xs : List Value) (k : Nat) (h : ys.length = xs.length) (hk : k < xs.length) : (over ys xs k)[k]? = xs[k]? := by
  have h1 : (ys.take k).length = k := by simp; omega
  rw [over, List.getElem?_append_right (by omega), h1, Nat.sub_self, List.getElem?_drop]
  simp

theorem Outside.refl (lo hi : Nat) (w : World) : Outside lo hi w w := ⟨rfl, rfl, rfl, Nat.le_refl _, fun _ _ _ => rfl⟩
theorem Outside.trans {lo hi : Nat} {a b c : World} (h : Outside lo hi a b) (k : Outside lo hi b c) : Outside lo hi a c :=
  ⟨k.os.trans h.os, k.tape.trans h.tape, k.output.trans h.output, Nat.le_trans h.size k.size, fun i hi h2 => (k.block i (Nat.lt_of_lt_of_le hi h.size) h2).trans (h.block i hi h2)⟩
theorem Outside.setCell {lo hi : Nat} {a w : World} (h : Outside lo hi a w) {p : Addr} (h1 : lo ≤ p.block) (h2 : p.block < hi) (u : Value) : Outside lo hi a (w.setCell p u) :=
  h.trans ⟨rfl, rfl, rfl, by simp [World.setCell], fun k _ hk => Below.heap_setCell _ _ _ _ (by omega)⟩
theorem Outside.of_below {lo hi B : Nat} {w w' : World} (h : Below B w w') (hB : w.heap.size ≤ B) : Outside lo hi w w' :=
  ⟨h.os, h.tape, h.output, h.size, fun k hk _ => h.block k (by omega)⟩
theorem Outside.wide {lo hi lo' hi' : Nat} {w w' : World} (h : Outside lo hi w w') (h1 : lo' ≤ lo) (h2 : hi ≤ hi') : Outside lo' hi' w w' :=
  ⟨h.os, h.tape, h.output, h.size, fun k hk hd => h.block k hk (by omega)⟩

theorem Outside.fresh {lo hi lo' hi' : Nat} {a b c : World} (h : Outside lo hi a b) (k : Outside lo' hi' b c) (hlo : a.heap.size ≤ lo') : Outside lo hi a c :=
  ⟨k.os.trans h.os, k.tape.trans h.tape, k.output.trans h.output, Nat.le_trans h.size k.size, fun i hi h2 => (k.block i (Nat.lt_of_lt_of_le hi h.size) (.inl (by omega))).trans (h.block i hi h2)⟩
theorem Outside.below {lo hi B : Nat} {a b c : World} (h : Outside lo hi a b) (k : Below B b c) (hB : a.heap.size ≤ B) : Outside lo hi a c :=
  ⟨k.os.trans h.os, k.tape.trans h.tape, k.output.trans h.output, Nat.le_trans h.size k.size, fun i hi h2 => (k.block i (by omega)).trans (h.block i hi h2)⟩

/-- Opened for a walk that writes. -/
theorem Own.open {sz lo hi e n : Nat} {w : World} {v : Value} {xs : List Value} (h : Own sz lo hi e w v n xs) :
    ∃ a cap, v = .slice a n cap ∧ n ≤ cap ∧ cap ≤ maxLen ∧ xs.length = n * sz ∧ (0 < n → ∃ g, a = some ⟨g, 0, none⟩ ∧ lo ≤ g ∧ g < hi) := by
  obtain ⟨⟨hlen, h⟩, hlt⟩ := h
  rcases h with ⟨rfl, rfl⟩ | ⟨g, cap, cur, rfl, h1, hg, hnc, hcm, _⟩
  · exact ⟨none, 0, rfl, Nat.le_refl _, by simp [maxLen], hlen, by omega⟩
  · exact ⟨_, cap, rfl, hnc, hcm, hlen, fun _ => ⟨g, rfl, h1, hlt g rfl⟩⟩

/-- Element i, where the value is written out. -/
theorem SlI.get {lo hi n cap : Nat} {w : World} {a : Option Addr} {xs : List Int} (h : SlI lo hi w (.slice a n cap) xs) (i : Nat) (hi' : i < xs.length) :
    ∃ b off, a = some ⟨b, off, none⟩ ∧ lo ≤ b ∧ b < hi ∧ b < w.heap.size ∧ w.cell? ⟨b, off + i, none⟩ = some (.int .i64 xs[i]) := by
  obtain ⟨a', cap', e, _, _, hc⟩ := h.open
  injection e with e1 _ _
  subst e1
  exact hc i hi'

/-- Posts behind a name, so that the walk's simplifier leaves them alone. -/
def RetB (P : Bool → World → Prop) (e : Ending) (w' : World) : Prop := ∃ x, e = .returned (.bool x) ∧ P x w'
def RetI (P : Int → World → Prop) (e : Ending) (w' : World) : Prop := ∃ x, e = .returned (.int .i64 x) ∧ P x w'
def RetV (P : Value → World → Prop) (e : Ending) (w' : World) : Prop := ∃ x, e = .returned x ∧ P x w'
theorem RetB.mk {P : Bool → World → Prop} {e : Ending} {w' : World} (x : Bool) (h : e = .returned (.bool x)) (hp : P x w') : RetB P e w' := ⟨x, h, hp⟩
theorem RetI.mk {P : Int → World → Prop} {e : Ending} {w' : World} (x : Int) (h : e = .returned (.int .i64 x)) (hp : P x w') : RetI P e w' := ⟨x, h, hp⟩
theorem RetV.mk {P : Value → World → Prop} {e : Ending} {w' : World} (x : Value) (h : e = .returned x) (hp : P x w') : RetV P e w' := ⟨x, h, hp⟩

def slLen : Value → Nat | .slice _ n _ => n | _ => 0
theorem Sl.shape {sz lo hi n : Nat} {w : World} {v : Value} {xs : List Value} (h : Sl sz lo hi w v n xs) : ∃ a cap, v = .slice a n cap ∧ n ≤ cap ∧ cap ≤ maxLen := by
  obtain ⟨a, cap, h1, h2, h3, _⟩ := h
  exact ⟨a, cap, h1, h2, h3⟩
end Go.Proofs.YtjpndimhegfbnaaGreatDoor
