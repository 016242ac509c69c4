/-
  Texts of walks and plain lemmas for this seat; no condition.
-/
import Derived.Test.YtjpndimhegfbnaaGreatDoorParse
import Derived.Test.YtjpndimhegfbnaaGreatDoorJoin
import Derived.Test.YtjpndimhegfbnaaGreatDoorDrawnI
import Derived.Deep.QuietTactic
import Derived.BigQuiet
import Derived.Lib.FrozenHead2
namespace Go.Proofs.YtjpndimhegfbnaaGreatDoor
open Go.RowKit

/-- The reader of an expression, at block g: s is what is left of its text. -/
def KR (g : Nat) (w : World) (txt s : List UInt8) : Prop :=
  w.heap[g]? = some (.cells #[.string ⟨txt.toArray⟩, .int .i64 ((txt.length - s.length : Nat) : Int)] 175 (0, 0)) ∧ s = txt.drop (txt.length - s.length) ∧ s.length ≤ txt.length ∧ txt.length ≤ 199
theorem KR.lt {g : Nat} {w : World} {txt s : List UInt8} (h : KR g w txt s) : g < w.heap.size := (Array.getElem?_eq_some_iff.1 h.1).1
theorem KR.below {g B : Nat} {w w' : World} {txt s : List UInt8} (h : KR g w txt s) (hb : Below B w w') (hB : g < B) : KR g w' txt s := ⟨by rw [hb.block g hB]; exact h.1, h.2⟩
theorem KR.outside {g lo hi : Nat} {w w' : World} {txt s : List UInt8} (h : KR g w txt s) (hb : Outside lo hi w w') (hB : g < lo) : KR g w' txt s := ⟨by rw [hb.block g h.lt (.inl hB)]; exact h.1, h.2⟩

/-- The laid table, in blocks below B. -/
def MapB (B : Nat) (w : World) : Prop := 3 < B ∧ ∃ bm, bm < B ∧ B ≤ w.heap.size ∧ w.cell? ⟨3, 0, none⟩ = some (.map (some bm)) ∧
  ∀ w' : World, w'.heap[bm]? = w.heap[bm]? → ∀ t : Nat, t < 16 →
    (Instr.lookup 246 (.map (some bm)) (.int .i64 t) true).run Tryz.prog w' = .ok (match namedT t with | some s => .tuple #[.string ⟨s.toArray⟩, .bool true] | none => .tuple #[.string ⟨#[]⟩, .bool false]) w'
theorem MapB.mapT {B : Nat} {w : World} (h : MapB B w) : MapT w := by
  obtain ⟨_, bm, h1, h2, h3, h4⟩ := h
  exact ⟨bm, h3, by omega, h4⟩
theorem MapT.mapB {w : World} (h : MapT w) : MapB w.heap.size w := by
  obtain ⟨bm, h1, h2, h3⟩ := h
  exact ⟨World.block_lt_of_cell? w _ h1, bm, h2, Nat.le_refl _, h1, h3⟩
theorem MapB.keep {B : Nat} {w w' : World} (h : MapB B w) (hs : w.heap.size ≤ w'.heap.size) (hb : ∀ k, k < B → w'.heap[k]? = w.heap[k]?) : MapB B w' := by
  obtain ⟨hg, bm, h1, h2, h3, h4⟩ := h
  refine ⟨hg, bm, h1, by omega, ?_, fun w2 h => h4 w2 (h.trans (hb bm h1))⟩
  rw [World.cell?_of_block (w := w) (a := ⟨3, 0, none⟩) (hb _ hg)]
  exact h3
theorem MapB.below {B C : Nat} {w w' : World} (h : MapB B w) (hb : Below C w w') (hC : B ≤ C) : MapB B w' := h.keep hb.size fun k hk => hb.block k (by omega)
theorem MapB.outside {B lo hi : Nat} {w w' : World} (h : MapB B w) (hb : Outside lo hi w w') (hC : B ≤ lo) : MapB B w' := h.keep hb.size fun k hk => by
  obtain ⟨_, _, _, h2, _⟩ := h
  exact hb.block k (by omega) (.inl (by omega))

theorem Outside.drawn (lo hi : Nat) (w : World) (n : Nat) : Outside lo hi w (w.drewN n) := ⟨rfl, rfl, rfl, Nat.le_refl _, fun _ _ _ => rfl⟩
def isHead (c : Int) : List UInt8 → Bool
  | [] => false
  | d :: _ => (d.toNat : Int) == c

theorem KR.step {g : Nat} {w : World} {txt r : List UInt8} {d : UInt8} (h : KR g w txt (d :: r)) (m : Nat) : KR g ((w.drewN m).setCell ⟨g, 1, none⟩ (.int .i64 (((txt.length - (d :: r).length : Nat) : Int) + 1))) txt r := by
  obtain ⟨h1, h2, h3, h4⟩ := h
  simp only [List.length_cons] at h3
  have e1 : txt.length - r.length = txt.length - (r.length + 1) + 1 := by omega
  refine ⟨?_, ?_, by omega, h4⟩
  · have h' : (w.drewN m).heap[g]? = _ := h1
    show ((w.drewN m).setCell ⟨g, 1, none⟩ _).heap[g]? = _
    simp only [World.setCell, Array.getElem?_modify, h', if_true]
    simp only [List.length_cons]
    rw [e1]
    simp
  · have hlt : txt.length - (r.length + 1) < txt.length := by omega
    simp only [List.length_cons] at h2
    rw [List.drop_eq_getElem_cons hlt] at h2
    injection h2 with _ h2
    rw [e1]
    exact h2

set_option maxRecDepth 100000 in
set_option maxHeartbeats 1600000 in
theorem take_any (g : Nat) (w : World) (txt s : List UInt8) (c : Int) (h : KR g w txt s) :
    Calls Tryz.prog 139 #[.pointer (some ⟨g, 0, none⟩), .int .u8 c] w (RetB fun b w' => b = isHead c s ∧ KR g w' txt (if b then s.tail else s) ∧ Outside g (g + 1) w w') := by
  have HK := Lib.hid h
  obtain ⟨h1, h2, h3, h4⟩ := h
  have c0 : w.cell? ⟨g, 0, none⟩ = some (.string ⟨txt.toArray⟩) := by rw [Lib.cell_of_heap h1]; rfl
  have c1 : w.cell? ⟨g, 1, none⟩ = some (.int .i64 ((txt.length - s.length : Nat) : Int)) := by rw [Lib.cell_of_heap h1]; rfl
  have f1 : w.frozen? ⟨g, 1, none⟩ = false := Lib.frozen_of_heap h1 1
  clear h1
  cases s with
  | nil =>
    obtain ⟨n, hn⟩ : ∃ n, n = txt.length := ⟨_, rfl⟩
    simp only [List.length_nil, Nat.sub_zero] at c1
    clear h2 h3 hn
    go_enter Tryz.func139, Tryz.ntmps139
    go_wp2
    go_quiet (fail)
    go_wp2
    go_ret
    exact RetB.mk _ rfl ⟨rfl, HK.out, Outside.drawn _ _ _ _⟩
  | cons d r =>
    obtain ⟨n, hn⟩ : ∃ n, n = txt.length - (d :: r).length := ⟨_, rfl⟩
    have hlt : n < txt.length := by simp at h3; simp at hn; omega
    have hd : txt[n] = d := by
      rw [← hn, List.drop_eq_getElem_cons hlt] at h2
      injection h2 with h2 _
      exact h2.symm
    rw [← hn] at c1
    have HN := Lib.hid hn
    clear h2 h3 hn
    have hget : ∀ hh : n < (ByteArray.mk txt.toArray).size, (ByteArray.mk txt.toArray)[n]'hh = d := fun _ => hd
    have hlt2 : (n : Int) < (txt.length : Int) := by omega
    clear hd
    cases hq : ((d.toNat : Int) == c)
    · go_enter Tryz.func139, Tryz.ntmps139
      go_wp2
      go_quiet (fail)
      go_wp2
      go_ret
      exact RetB.mk false rfl ⟨hq.symm, HK.out, Outside.drawn _ _ _ _⟩
    · go_enter Tryz.func139, Tryz.ntmps139
      go_wp2
      go_quiet (fail)
      go_wp2
      go_ret
      refine RetB.mk true rfl ⟨hq.symm, ?_, ?_⟩
      · have := HK.out.step nq
        rw [← HN.out] at this
        exact this
      · exact (Outside.drawn _ _ _ _).setCell (p := ⟨g, 1, none⟩) (Nat.le_refl _) (Nat.lt_succ_self _) _
end Go.Proofs.YtjpndimhegfbnaaGreatDoor
