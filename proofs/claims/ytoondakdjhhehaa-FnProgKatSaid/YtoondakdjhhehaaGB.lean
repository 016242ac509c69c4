/-
  Texts of walks and plain lemmas for this seat; no condition.
-/
import Derived.Test.YtoondakdjhhehaaGA
import Derived.Test.YtoondakdjhhehaaShelf
import Derived.Test.YtoondakdjhhehaaRows
import Derived.Deep.WholeRow
import Derived.Lib.FrozenHead2
import Derived.Tactics
import Derived.Tactics2
import Derived.Defers
import Derived.Laws.Pointers
import Derived.Laws.LoneSync
import Derived.RegionTactic
import Derived.RegionCalls
import Derived.Laws.NewBlocks
import Derived.Lib.LazyBuf
import Derived.Lib.IndexMore
import Derived.Deep.QuietTactic
import Derived.BigQuiet
import Derived.Deep.RegionWith
import Derived.Recover
namespace Go.Proofs.Ytoondakdjhhehaa
open Go.RowKit
section

/-- The letters x, y, z become a, b, c. -/
def replC (c : Nat) : Nat := if c = 120 then 97 else if c = 121 then 98 else if c = 122 then 99 else c

def six : List Value := [.string ⟨#[120]⟩, .string ⟨#[97]⟩, .string ⟨#[121]⟩, .string ⟨#[98]⟩, .string ⟨#[122]⟩, .string ⟨#[99]⟩]

theorem Blk.setAt {t : Nat} {e : TypeId} {w : World} {cs : List Value} (h : Blk t (.cells cs.toArray e) w) (k : Nat) (v : Value) : Blk t (.cells (cs.set k v).toArray e) (w.setCell ⟨t, k, none⟩ v) := by
  have h' : w.heap[t]? = _ := h
  show (w.setCell ⟨t, k, none⟩ v).heap[t]? = _
  simp [World.setCell, Array.getElem?_modify, h']
theorem wrap_u8 (k : Nat) (h : k < 256) : IntKind.u8.wrap (k : Int) = k := by
  simp [IntKind.wrap, IntKind.bits, IntKind.signed]
  omega
/-- The first k numbers stand in their places. -/
def Upto (k : Nat) (cs : List Value) : Prop := cs.length = 256 ∧ ∀ j, j < k → cs[j]? = some (.int .u8 j)
theorem Upto.next {k : Nat} {cs : List Value} (h : Upto k cs) (hk : k < 256) : Upto (k + 1) (cs.set k (.int .u8 k)) := by
  refine ⟨by simpa using h.1, fun j hj => ?_⟩
  rcases Nat.lt_or_ge j k with h1 | h1
  · rw [List.getElem?_set_ne (by omega)]
    exact h.2 j h1
  · obtain rfl : j = k := by omega
    rw [List.getElem?_set_self (by rw [h.1]; exact hk)]
/-- The table of the letters. -/
def TabR (cs : List Value) : Prop := cs.length = 256 ∧ ∀ j, j < 256 → cs[j]? = some (.int .u8 (replC j : Nat))
theorem Upto.tab {cs : List Value} (h : Upto 256 cs) : TabR (((cs.set 122 (.int .u8 99)).set 121 (.int .u8 98)).set 120 (.int .u8 97)) := by
  refine ⟨by simpa using h.1, fun j hj => ?_⟩
  have hl := h.1
  simp only [List.getElem?_set, List.length_set]
  unfold replC
  split
  · subst_vars; simp [hl]
  · split
    · subst_vars; simp [hl]
    · split
      · subst_vars; simp [hl]
      · rw [h.2 j hj]
        rw [if_neg (by omega), if_neg (by omega), if_neg (by omega)]

end

section

theorem Blk.set34 {g : Nat} {e : TypeId} {w : World} {x0 x1 x2 x3 x4 : Value} (h : Blk g (.cells #[x0, x1, x2, x3, x4] e (0, 0)) w) (c d : Value) :
    Blk g (.cells #[x0, x1, x2, c, d] e (0, 0)) ((w.setCell ⟨g, 3, none⟩ c).setCell ⟨g, 4, none⟩ d) := by
  have h' : w.heap[g]? = _ := h
  show ((w.setCell ⟨g, 3, none⟩ c).setCell ⟨g, 4, none⟩ d).heap[g]? = _
  simp [World.setCell, Array.getElem?_modify, h']
theorem Outside.set34 (g : Nat) (w : World) (c d : Value) : Outside g (g + 1) w ((w.setCell ⟨g, 3, none⟩ c).setCell ⟨g, 4, none⟩ d) :=
  ((Outside.refl _ _ _).setCell (p := ⟨g, 3, none⟩) (Nat.le_refl _) (Nat.lt_succ_self _) _).setCell (p := ⟨g, 4, none⟩) (Nat.le_refl _) (Nat.lt_succ_self _) _

end

section

theorem Blk.set01 {g : Nat} {e : TypeId} {w : World} {x0 x1 x2 x3 x4 : Value} (h : Blk g (.cells #[x0, x1, x2, x3, x4] e (0, 0)) w) (c d : Value) :
    Blk g (.cells #[c, d, x2, x3, x4] e (0, 0)) ((w.drew.setCell ⟨g, 0, none⟩ c).setCell ⟨g, 1, none⟩ d) := by
  have h' : w.drew.heap[g]? = _ := h
  show ((w.drew.setCell ⟨g, 0, none⟩ c).setCell ⟨g, 1, none⟩ d).heap[g]? = _
  simp [World.setCell, Array.getElem?_modify, h']
theorem Blk.set1 {g : Nat} {e : TypeId} {w : World} {x0 x1 x2 x3 x4 : Value} (h : Blk g (.cells #[x0, x1, x2, x3, x4] e (0, 0)) w) (d : Value) :
    Blk g (.cells #[x0, d, x2, x3, x4] e (0, 0)) (w.setCell ⟨g, 1, none⟩ d) := by
  have h' : w.heap[g]? = _ := h
  show (w.setCell ⟨g, 1, none⟩ d).heap[g]? = _
  simp [World.setCell, Array.getElem?_modify, h']
theorem Outside.set01 (g : Nat) (w : World) (c d : Value) : Outside g (g + 1) w ((w.drew.setCell ⟨g, 0, none⟩ c).setCell ⟨g, 1, none⟩ d) :=
  (((Outside.of_below (Below.refl w.heap.size w).drew (Nat.le_refl _))).setCell (p := ⟨g, 0, none⟩) (Nat.le_refl _) (Nat.lt_succ_self _) _).setCell (p := ⟨g, 1, none⟩) (Nat.le_refl _) (Nat.lt_succ_self _) _

end

section

def repl8 (c : UInt8) : UInt8 := UInt8.ofNat (replC c.toNat)
theorem replC_lt {c : Nat} (h : c < 256) : replC c < 256 := by
  unfold replC
  split
  · omega
  · split
    · omega
    · split <;> omega
theorem repl8_nat (c : UInt8) : (repl8 c).toNat = replC c.toNat := by
  have h : replC c.toNat < 256 := replC_lt c.toNat_lt
  simp [repl8, UInt8.toNat_ofNat']
  omega
theorem repl8_same {c : UInt8} (h : replC c.toNat = c.toNat) : repl8 c = c := by
  apply UInt8.toNat_inj.1
  rw [repl8_nat, h]

/-- What the copy of the text holds, its first i signs replaced. -/
def Buf (b : Nat) (txt : List UInt8) (i : Nat) (w : World) : Prop :=
  ∃ cs lo hi, w.heap[b]? = some (.cells cs 5 (lo, hi)) ∧ txt.length ≤ cs.size ∧ cs.size ≤ lo ∧ ∀ j (h : j < txt.length), cs[j]? = some (.int .u8 ((if j < i then repl8 txt[j] else txt[j]).toNat : Nat))
theorem Buf.cell {b i : Nat} {txt : List UInt8} {w : World} (h : Buf b txt i w) (j : Nat) (hj : j < txt.length) : w.cell? ⟨b, j, none⟩ = some (.int .u8 ((if j < i then repl8 txt[j] else txt[j]).toNat : Nat)) := by
  obtain ⟨cs, lo, hi, h1, _, _, h2⟩ := h
  rw [World.cell?, h1]
  exact h2 j hj
theorem Buf.free {b i : Nat} {txt : List UInt8} {w : World} (h : Buf b txt i w) (j : Nat) (hj : j < txt.length) : w.frozen? ⟨b, j, none⟩ = false := by
  obtain ⟨cs, lo, hi, h1, h2, h3, _⟩ := h
  simp only [World.frozen?, h1]
  simp
  omega
theorem Buf.next {b i : Nat} {txt : List UInt8} {w : World} (h : Buf b txt i w) (hi : i < txt.length) : Buf b txt (i + 1) (w.setCell ⟨b, i, none⟩ (.int .u8 (replC txt[i].toNat : Nat))) := by
  obtain ⟨cs, lo, h', h1, h2, h3, h4⟩ := h
  refine ⟨cs.setIfInBounds i (.int .u8 (replC txt[i].toNat : Nat)), lo, h', ?_, by simpa using h2, by simpa using h3, fun j hj => ?_⟩
  · simp [World.setCell, Array.getElem?_modify, h1]
  · by_cases hji : j = i
    · subst hji
      rw [Array.getElem?_setIfInBounds_self_of_lt (by omega), if_pos (by omega), repl8_nat]
    · rw [Array.getElem?_setIfInBounds_ne (by omega), h4 j hj]
      by_cases hlt : j < i
      · rw [if_pos hlt, if_pos (by omega)]
      · rw [if_neg hlt, if_neg (by omega)]
theorem Buf.skip {b i : Nat} {txt : List UInt8} {w : World} (h : Buf b txt i w) (hi : i < txt.length) (hs : repl8 txt[i] = txt[i]) : Buf b txt (i + 1) w := by
  obtain ⟨cs, lo, h', h1, h2, h3, h4⟩ := h
  refine ⟨cs, lo, h', h1, h2, h3, fun j hj => ?_⟩
  rw [h4 j hj]
  by_cases hji : j = i
  · subst hji
    rw [if_neg (by omega), if_pos (by omega), hs]
  · by_cases hlt : j < i
    · rw [if_pos hlt, if_pos (by omega)]
    · rw [if_neg hlt, if_neg (by omega)]
/-- A fresh copy of the text. -/
theorem Buf.new (w : World) (txt : List UInt8) (i : Nat) (hs : ∀ j (h : j < txt.length), j < i → repl8 txt[j] = txt[j]) :
    Buf w.heap.size txt i (w.drew.alloc (.cells (bytesRow ⟨txt.toArray⟩ (grownCap w txt.length 0 5)) 5 ((bytesRow ⟨txt.toArray⟩ (grownCap w txt.length 0 5)).size, (bytesRow ⟨txt.toArray⟩ (grownCap w txt.length 0 5)).size + 1))) := by
  refine ⟨_, _, _, heap_alloc_new w.drew _, ?_, Nat.le_refl _, fun j hj => ?_⟩
  · simp [bytesRow]
  · have h1 : (bytesRow ⟨txt.toArray⟩ (grownCap w txt.length 0 5))[j]? = some (.int .u8 (txt[j].toNat : Nat)) := by
      simp [bytesRow, Array.getElem?_append, hj]
    rw [h1]
    by_cases hlt : j < i
    · rw [if_pos hlt, hs j hj hlt]
    · rw [if_neg hlt]

def Same8 (txt : List UInt8) (i : Nat) : Prop := ∀ j (h : j < txt.length), j < i → repl8 txt[j] = txt[j]
theorem map_same {txt : List UInt8} (h : Same8 txt txt.length) : txt.map repl8 = txt := by
  apply List.ext_getElem
  · simp
  · intro j h1 h2
    simpa using h j h2 h2
theorem strOfNums_map (txt : List UInt8) : strOfNums (txt.map fun c => ((repl8 c).toNat : Int)) = ⟨(txt.map repl8).toArray⟩ := by
  unfold strOfNums
  congr 1
  simp [List.map_map, Function.comp_def]

end

section

/-- Letters stand for actions as they are read. -/
def toVar (x : Int) : Int := if isActB x then -1 - (x - 16) else x
/-- The rules' texts. -/
def ruleT : List (List UInt8) := [
  [40, 120, 43, 121, 41, 43, 122, 61, 120, 43, 40, 121, 43, 122, 41],
  [120, 43, 121, 61, 121, 43, 120],
  [120, 43, 120, 61, 120],
  [120, 43, 48, 61, 120],
  [40, 120, 59, 121, 41, 59, 122, 61, 120, 59, 40, 121, 59, 122, 41],
  [49, 59, 120, 61, 120],
  [120, 59, 49, 61, 120],
  [48, 59, 120, 61, 48],
  [120, 59, 48, 61, 48],
  [120, 59, 40, 121, 43, 122, 41, 61, 120, 59, 121, 43, 120, 59, 122],
  [40, 120, 43, 121, 41, 59, 122, 61, 120, 59, 122, 43, 121, 59, 122],
  [49, 43, 120, 59, 120, 42, 61, 120, 42],
  [49, 43, 120, 42, 59, 120, 61, 120, 42],
  [40, 120, 59, 121, 41, 42, 59, 120, 61, 120, 59, 40, 121, 59, 120, 41, 42],
  [40, 120, 43, 121, 41, 42, 61, 120, 42, 59, 40, 121, 59, 120, 42, 41, 42],
  [120, 42, 42, 61, 120, 42],
  [120, 42, 59, 120, 42, 61, 120, 42],
  [48, 42, 61, 49],
  [49, 42, 61, 49],
  [40, 49, 43, 120, 41, 42, 61, 120, 42],
  [120, 43, 120, 59, 121, 42, 61, 120, 59, 121, 42]]
/-- A side of a rule: the left one (true), or the right one. -/
def sideT (n : Nat) (l : Bool) : List UInt8 := if l then (Lib.cut (ruleT.getD n []) [61]).1 else (Lib.cut (ruleT.getD n []) [61]).2.1
def parseS (txt : List UInt8) : Option (List Int) :=
  match sumP txt.length (txt.map repl8) with
  | some (e, []) => if katV e then some e else none
  | _ => none
/-- The side of a rule. -/
def ruleS (n : Nat) (l : Bool) : List Int := ((parseS (sideT n l)).getD []).map toVar
theorem sides_parse : ∀ n, n < 21 → ∀ l, (parseS (sideT n l)).isSome = true ∧ (sideT n l).length ≤ 20 := by decide +kernel
theorem ruleT_len : ∀ n, n < 21 → (ruleT.getD n []).length ≤ 30 := by decide +kernel
theorem side_open {n : Nat} (h : n < 21) (l : Bool) : ∃ e, sumP (sideT n l).length ((sideT n l).map repl8) = some (e, []) ∧ katV e = true ∧ ruleS n l = e.map toVar ∧ (sideT n l).length ≤ 20 := by
  obtain ⟨h1, h2⟩ := sides_parse n h l
  obtain ⟨e, he⟩ := Option.isSome_iff_exists.1 h1
  refine ⟨e, ?_, ?_, by simp [ruleS, he], h2⟩
  all_goals
    unfold parseS at he
    split at he
    · rename_i e' heq
      split at he
      · injection he with he
        subst he
        assumption
      · cases he
    · cases he

end

section

/-- The reader of a draw, at block g: it has read at most c times. -/
def Rd (g : Nat) (w : World) (c : Nat) : Prop :=
  ∃ (a : Option Addr) (cap p : Nat) (xs : List Int), w.heap[g]? = some (.cells #[.slice a xs.length cap, .int .i64 p] 50 (0, 0)) ∧ p ≤ c ∧ xs.length ≤ 2000 ∧
    (∀ x ∈ xs, 0 ≤ x ∧ x ≤ 255) ∧ Sl 1 0 g w (.slice a xs.length cap) xs.length (xs.map (Value.int .u8))

theorem Rd.mono {g c c' : Nat} {w : World} (h : Rd g w c) (hc : c ≤ c') : Rd g w c' := by
  obtain ⟨a, cap, p, xs, h1, h2, h3⟩ := h
  exact ⟨a, cap, p, xs, h1, by omega, h3⟩
theorem Rd.lt {g c : Nat} {w : World} (h : Rd g w c) : g < w.heap.size := by
  obtain ⟨a, cap, p, xs, h1, _⟩ := h
  exact (Array.getElem?_eq_some_iff.1 h1).1
theorem Rd.keep {g c : Nat} {w w' : World} (h : Rd g w c) (hs : w.heap.size ≤ w'.heap.size) (hb : ∀ k, k ≤ g → w'.heap[k]? = w.heap[k]?) : Rd g w' c := by
  obtain ⟨a, cap, p, xs, h1, h2, h3, h4, h5⟩ := h
  refine ⟨a, cap, p, xs, by rw [hb g (Nat.le_refl _)]; exact h1, h2, h3, h4, ?_⟩
  obtain ⟨a', cap', e1, e2, e3, e4, e5, e6⟩ := h5
  refine ⟨a', cap', e1, e2, e3, e4, e5, fun i hi => ?_⟩
  obtain ⟨b, off, f1, f2, f3, f4, f5⟩ := e6 i hi
  exact ⟨b, off, f1, f2, f3, by omega, by rw [World.cell?_of_block (w := w) (a := ⟨b, off + i, none⟩) (hb b (by omega))]; exact f5⟩
theorem Rd.below {g c B : Nat} {w w' : World} (h : Rd g w c) (hb : Below B w w') (hB : g < B) : Rd g w' c :=
  h.keep hb.size fun k hk => hb.block k (by omega)
theorem Rd.outside {g c lo hi : Nat} {w w' : World} (h : Rd g w c) (hb : Outside lo hi w w') (hB : g < lo) : Rd g w' c := by
  have := h.lt
  exact h.keep hb.size fun k hk => hb.block k (by omega) (by omega)

def SlB (lo hi : Nat) (w : World) (v : Value) (xs : List Int) : Prop := Sl 1 lo hi w v xs.length (xs.map (Value.int .u8)) ∧ ∀ x ∈ xs, 0 ≤ x ∧ x ≤ 255
theorem Sl.get {lo hi n cap sz : Nat} {w : World} {a : Option Addr} {cs : List Value} (h : Sl sz lo hi w (.slice a n cap) n cs) (i : Nat) (hi' : i < cs.length) :
    ∃ b off, a = some ⟨b, off, none⟩ ∧ lo ≤ b ∧ b < hi ∧ b < w.heap.size ∧ w.cell? ⟨b, off + i, none⟩ = cs[i]? := by
  obtain ⟨a', cap', e, _, _, _, _, hc⟩ := h
  injection e with e1 _ _
  subst e1
  exact hc i hi'
theorem Sl.getByte {lo hi n cap : Nat} {w : World} {a : Option Addr} {xs : List Int} (h : Sl 1 lo hi w (.slice a n cap) n (xs.map (Value.int .u8))) (hx : ∀ x ∈ xs, 0 ≤ x ∧ x ≤ 255) (i : Nat) (hi' : i < xs.length) :
    ∃ b off x, a = some ⟨b, off, none⟩ ∧ b < hi ∧ b < w.heap.size ∧ w.cell? ⟨b, off + i, none⟩ = some (.int .u8 x) ∧ 0 ≤ x ∧ x ≤ 255 := by
  obtain ⟨b, off, e, _, e2, e3, e4⟩ := h.get i (by simpa using hi')
  exact ⟨b, off, xs[i], e, e2, e3, by rw [e4]; simp [hi'], hx _ (List.getElem_mem hi')⟩

def InR (n x : Int) : Prop := 0 ≤ x ∧ (x < n ∨ x = 0)

set_option maxHeartbeats 800000 in
theorem pick_any (g c : Nat) (n : Int) (w : World) (h : Rd g w c) (hc : c ≤ 1000000000000) :
    Calls Try.prog 26 #[.pointer (some ⟨g, 0, none⟩), .int .i64 n] w (RetI fun x w' => InR n x ∧ Outside g (g + 1) w w' ∧ Rd g w' (c + 1)) := by
  have hg := h.lt
  obtain ⟨a, cap, p, xs, h1, h2, h3, h4, h5⟩ := h
  have c0 : w.cell? ⟨g, 0, none⟩ = some (.slice a xs.length cap) := by rw [Lib.cell_of_heap h1]; rfl
  have c1 : w.cell? ⟨g, 1, none⟩ = some (.int .i64 p) := by rw [Lib.cell_of_heap h1]; rfl
  have f1 : w.frozen? ⟨g, 1, none⟩ = false := Lib.frozen_of_heap h1 1
  have HR : ∀ m, Hid (Outside g (g + 1) w ((w.setCell ⟨g, 1, none⟩ (.int .i64 (p + 1))).drewN m) ∧ Rd g ((w.setCell ⟨g, 1, none⟩ (.int .i64 (p + 1))).drewN m) (c + 1)) := by
    intro m
    have ho : Outside g (g + 1) w (w.setCell ⟨g, 1, none⟩ (.int .i64 (p + 1))) := (Outside.refl _ _ _).setCell (p := ⟨g, 1, none⟩) (Nat.le_refl _) (Nat.lt_succ_self _) _
    refine Lib.hid ⟨⟨ho.os, ho.tape, ho.output, ho.size, ho.block⟩, a, cap, p + 1, xs, ?_, by omega, h3, h4, ?_⟩
    · show (w.setCell ⟨g, 1, none⟩ (.int .i64 (p + 1))).heap[g]? = _
      simp [World.setCell, Array.getElem?_modify, h1]
    · have := h5.outside ho (.inl (Nat.le_refl _))
      exact this
  clear h1
  by_cases hn : n < 1
  · go_enter Try.func26, Try.ntmps26
    go_wp2
    go_ret
    exact RetI.mk 0 rfl ⟨⟨by omega, .inr rfl⟩, (HR 0).out⟩
  · by_cases hl : xs.length = 0
    · have hl' : ((xs.length : Int) == 0) = true := by simp [hl]
      clear hl
      go_enter Try.func26, Try.ntmps26
      go_wp2
      go_ret
      exact RetI.mk 0 rfl ⟨⟨by omega, .inr rfl⟩, (HR 0).out⟩
    · have hl' : ((xs.length : Int) == 0) = false := by simp [hl]
      by_cases hk : p < xs.length
      · obtain ⟨b, off, x, rfl, hb1, hb2, hcell, hx1, hx2⟩ := h5.getByte h4 p hk
        clear h5
        go_enter Try.func26, Try.ntmps26
        go_wp2
        go_ret
        exact RetI.mk (x % n) rfl ⟨⟨Int.emod_nonneg _ (by omega), .inl (Int.emod_lt_of_pos _ (by omega))⟩, (HR 0).out⟩
      · obtain ⟨b, off, x, rfl, hb1, hb2, hcell, hx1, hx2⟩ := h5.getByte h4 (p % xs.length) (Nat.mod_lt _ (by omega))
        obtain ⟨q, hq, hq2⟩ : ∃ q : Nat, ((p : Int) * 7 + 3) % (xs.length : Int) = (q : Int) ∧ q < xs.length :=
          ⟨(p * 7 + 3) % xs.length, by rw [Int.natCast_emod]; simp, Nat.mod_lt _ (by omega)⟩
        obtain ⟨b', off', y, e, hb1', hb2', hcell', hy1, hy2⟩ := h5.getByte h4 q hq2
        injection e with e; injection e with e1 e2; subst e1 e2
        have hm1 : p % xs.length < xs.length := (Nat.mod_lt _ (by omega))
        obtain ⟨z, hz, hz1, hz2⟩ : ∃ z : Int, (p : Int) / (xs.length : Int) = z ∧ 0 ≤ z ∧ z ≤ p :=
          ⟨_, rfl, Int.ediv_nonneg (by omega) (by omega), Int.ediv_le_self _ (by omega)⟩
        clear h5
        go_enter Try.func26, Try.ntmps26
        go_wp2
        go_quiet (fail)
        go_wp2
        go_ret
        have hb := bits64_xor_pos (x * 131 + y * 1117 + (p : Int) * 29 + z * 53) ((x * 131 + y * 1117 + (p : Int) * 29 + z * 53) / 64) (by omega) (by omega) (by omega) (by omega)
        exact RetI.mk _ rfl ⟨⟨Int.tmod_nonneg _ hb, .inl (Int.tmod_lt_of_pos _ (by omega))⟩, (HR _).out⟩

set_option maxHeartbeats 800000 in
theorem l20Open_any (v : Value) (xs : List Int) (w : World) (h : SlB 0 w.heap.size w v xs) :
    Calls Try.prog 13 #[v] w (RetV fun x w' => ∃ g, x = .pointer (some ⟨g, 0, none⟩) ∧ w.heap.size ≤ g ∧ Below w.heap.size w w' ∧ Rd g w' 0) := by
  obtain ⟨⟨a, cap, rfl, hcap, hcm, hlen0, hnone, hc⟩, hx⟩ := h
  unfold maxLen at hcm
  by_cases hl : xs.length ≤ 2000
  · have HR : Hid (Rd w.heap.size (w.alloc (.cells #[.slice a xs.length cap, .int .i64 0] 50)) 0) := by
      have hb : Below w.heap.size w (w.alloc (.cells #[.slice a xs.length cap, .int .i64 0] 50)) := (Below.refl _ _).alloc (Nat.le_refl _) _
      exact Lib.hid ⟨a, cap, 0, xs, heap_alloc_new w _, Nat.le_refl _, hl, hx, Sl.below ⟨a, cap, rfl, hcap, hcm, hlen0, hnone, hc⟩ hb (Nat.le_refl _)⟩
    clear hx hc hnone hlen0
    go_enter Try.func13, Try.ntmps13
    go_wp2
    go_ret
    exact RetV.mk _ rfl ⟨_, rfl, Nat.le_refl _, (Below.refl _ _).alloc (Nat.le_refl _) _, HR.out⟩
  · obtain ⟨b, off, rfl, hb0, hb1, hb2, _⟩ := hc 0 (by simp; omega)
    have hsl : Sl 1 0 w.heap.size w (.slice (some ⟨b, off, none⟩) 2000 cap) 2000 ((xs.take 2000).map (Value.int .u8)) := by
      refine ⟨_, cap, rfl, by omega, by unfold maxLen; exact hcm, by simp; omega, (by intro h; cases h), fun i hi => ?_⟩
      obtain ⟨b', off', e, h1, h2, h3, h4⟩ := hc i (by simp at hi ⊢; omega)
      refine ⟨b', off', e, h1, h2, h3, ?_⟩
      rw [h4]
      simp at hi
      simp [hi]
    have hlen : (xs.take 2000).length = 2000 := by simp; omega
    have HR : Hid (Rd w.heap.size (w.alloc (.cells #[.slice (some ⟨b, off, none⟩) 2000 cap, .int .i64 0] 50)) 0) := by
      have hb : Below w.heap.size w (w.alloc (.cells #[.slice (some ⟨b, off, none⟩) 2000 cap, .int .i64 0] 50)) := (Below.refl _ _).alloc (Nat.le_refl _) _
      refine Lib.hid ⟨some ⟨b, off, none⟩, cap, 0, xs.take 2000, by rw [hlen]; exact heap_alloc_new w _, Nat.le_refl _, by omega, fun x hx' => hx x (List.mem_of_mem_take hx'), ?_⟩
      rw [hlen]
      exact Sl.below hsl hb (Nat.le_refl _)
    clear hx hc hnone hlen hsl hlen0
    go_enter Try.func13, Try.ntmps13
    go_wp2
    go_ret
    exact RetV.mk _ rfl ⟨_, rfl, Nat.le_refl _, (Below.refl _ _).alloc (Nat.le_refl _) _, HR.out⟩
end

section

set_option maxHeartbeats 800000 in
theorem odd_any (g c : Nat) (n : Int) (w : World) (h : Rd g w c) (hc : c ≤ 1000000000000) (hn : n ≤ 1000000) :
    Calls Try.prog 28 #[.pointer (some ⟨g, 0, none⟩), .int .i64 n] w (RetB fun _ w' => Outside g (g + 1) w w' ∧ Rd g w' (c + 1)) := by
  by_cases h0 : 0 < n
  · go_enter Try.func28, Try.ntmps28
    go_wp2_with (go_at_call 26; refine (pick_any g c _ _ h hc).mono ?_; rintro e w1 ⟨x, rfl, h1, h2, h3⟩)
    go_ret
    exact RetB.mk _ rfl ⟨h2, h3⟩
  · go_enter Try.func28, Try.ntmps28
    go_wp2
    go_ret
    exact RetB.mk _ rfl ⟨Outside.refl _ _ _, h.mono (by omega)⟩

set_option maxHeartbeats 800000 in
theorem odd2_any (g c : Nat) (n : Int) (w : World) (h : Rd g w c) (hc : c ≤ 1000000000000) (hn : n ≤ 1000000) :
    Calls Try.prog 28 #[.pointer (some ⟨g, 0, none⟩), .int .i64 n] w (RetB fun b w' => (b = true → 0 < n) ∧ Outside g (g + 1) w w' ∧ Rd g w' (c + 1)) := by
  by_cases h0 : 0 < n
  · go_enter Try.func28, Try.ntmps28
    go_wp2_with (go_at_call 26; refine (pick_any g c _ _ h hc).mono ?_; rintro e w1 ⟨x, rfl, h1, h2, h3⟩)
    go_ret
    exact RetB.mk _ rfl ⟨fun _ => h0, h2, h3⟩
  · go_enter Try.func28, Try.ntmps28
    go_wp2
    go_ret
    exact RetB.mk _ rfl ⟨(fun hb => by cases hb), Outside.refl _ _ _, h.mono (by omega)⟩
end

section

/-- What a draw of a list leaves: the list, in new memory; the reader has read on. -/
def DrawnI (g c : Nat) (w : World) (v : Value) (w' : World) (most : Nat) : Prop :=
  ∃ xs : List Int, OwnI w.heap.size w'.heap.size 3 w' v xs ∧ xs.length ≤ most ∧ Outside g (g + 1) w w' ∧ Rd g w' c

theorem oi (xs : List Int) (n : Nat) (h : n = xs.length) {lo hi e : Nat} {w : World} {v : Value} (ho : Own 1 lo hi e w v n (ints xs)) : OwnI lo hi e w v xs := by subst h; exact ho
end

section

theorem Outside.drawn (lo hi : Nat) (w : World) (n : Nat) : Outside lo hi w (w.drewN n) := ⟨rfl, rfl, rfl, Nat.le_refl _, fun _ _ _ => rfl⟩
def isHead (c : Int) : List UInt8 → Bool
  | [] => false
  | d :: _ => (d.toNat : Int) == c

end

section

/-- No more steps come out than signs went in. -/
def Short (p : PR) : Prop := ∀ s e r, p s = some (e, r) → e.length + r.length ≤ s.length
theorem single_short {sum : PR} (h : Short sum) : Short (singleP sum) := by
  intro s e r hs
  cases s with
  | nil => simp [singleP] at hs
  | cons c t =>
    simp only [singleP] at hs
    split at hs
    · split at hs
      · rename_i e' d r2 he
        split at hs
        · injection hs with hs
          injection hs with h1 h2
          subst h1 h2
          have := h _ _ _ he
          simp at this ⊢
          omega
        · cases hs
      · cases hs
    · split at hs
      · cases hs
      · split at hs
        · injection hs with hs
          injection hs with h1 h2
          subst h1 h2
          simp; omega
        · split at hs
          · injection hs with hs
            injection hs with h1 h2
            subst h1 h2
            simp; omega
          · cases hs
theorem star_short : ∀ (s : List UInt8) (e e' : List Int) (r : List UInt8), starP e s = (e', r) → e'.length + r.length ≤ e.length + s.length
  | [], e, e', r, h => by simp [starP] at h; simp [h.1, h.2]
  | c :: t, e, e', r, h => by
    simp only [starP] at h
    split at h
    · have := star_short t _ _ _ h
      simp at this ⊢
      omega
    · injection h with h1 h2
      subst h1 h2
      exact Nat.le_refl _
theorem starred_short {single : PR} (h : Short single) : Short (starredP single) := by
  intro s e r hs
  simp only [starredP, Option.map_eq_some_iff] at hs
  obtain ⟨⟨e1, r1⟩, h1, h2⟩ := hs
  have := h _ _ _ h1
  have h3 : e.length + r.length ≤ e1.length + r1.length := star_short _ _ _ _ h2
  omega
theorem loop_short {sign : Nat} {op : Int} {part : PR} (h : Short part) : ∀ (n : Nat) (s : List UInt8) (e e' : List Int) (r : List UInt8), loopP sign op part n e s = some (e', r) → e'.length + r.length ≤ e.length + s.length
  | n, [], e, e', r, hs => by cases n <;> (simp [loopP] at hs; simp [hs.1, hs.2])
  | 0, c :: t, e, e', r, hs => by
    simp only [loopP] at hs
    split at hs
    · cases hs
    · injection hs with hs
      injection hs with h1 h2
      subst h1 h2
      exact Nat.le_refl _
  | n + 1, c :: t, e, e', r, hs => by
    simp only [loopP] at hs
    split at hs
    · simp only [Option.bind_eq_some_iff] at hs
      obtain ⟨⟨e1, r1⟩, h1, h2⟩ := hs
      have h3 := h _ _ _ h1
      have h4 : e'.length + r.length ≤ (e ++ e1 ++ [op]).length + r1.length := loop_short h n _ _ _ _ h2
      simp at h4 ⊢
      omega
    · injection hs with hs
      injection hs with h1 h2
      subst h1 h2
      exact Nat.le_refl _
theorem chain_short {sign : Nat} {op : Int} {part : PR} (h : Short part) : Short (chainP sign op part) := by
  intro s e r hs
  simp only [chainP, Option.bind_eq_some_iff] at hs
  obtain ⟨⟨e1, r1⟩, h1, h2⟩ := hs
  have h3 := h _ _ _ h1
  have h4 : e.length + r.length ≤ e1.length + r1.length := loop_short h _ _ _ _ _ h2
  omega
theorem sum_short : ∀ n, Short (sumP n)
  | 0 => by intro s e r h; cases h
  | n + 1 => chain_short (chain_short (starred_short (single_short (sum_short n))))

theorem single_open {sum : PR} {c : UInt8} {t : List UInt8} {e : List Int} {r : List UInt8} (h : singleP sum (c :: t) = some (e, r)) :
    (c.toNat = 40 ∧ ∃ d, d.toNat = 41 ∧ sum t = some (e, d :: r)) ∨
    (c.toNat ≠ 40 ∧ c.toNat ≠ 33 ∧ c.toNat ≠ 91 ∧ r = t ∧ ((97 ≤ c.toNat ∧ c.toNat ≤ 99 ∧ e = [16 + ((c.toNat : Int) - 97)]) ∨ (¬ (97 ≤ c.toNat ∧ c.toNat ≤ 99) ∧ ∃ k : Nat, readT [c] = some k ∧ e = [(k : Int)]))) := by
  simp only [singleP] at h
  split at h
  · rename_i hc
    split at h
    · rename_i e' d r2 he
      split at h
      · rename_i hd
        injection h with h
        injection h with h1 h2
        subst h1 h2
        exact .inl ⟨hc, d, hd, he⟩
      · cases h
    · cases h
  · rename_i hc
    split at h
    · cases h
    · rename_i hc2
      split at h
      · rename_i hc3
        injection h with h
        injection h with h1 h2
        exact .inr ⟨hc, by omega, by omega, h2.symm, .inl ⟨hc3.1, hc3.2, h1.symm⟩⟩
      · rename_i hc3
        split at h
        · rename_i k hk
          injection h with h
          injection h with h1 h2
          exact .inr ⟨hc, by omega, by omega, h2.symm, .inr ⟨hc3, k, hk, h1.symm⟩⟩
        · cases h

theorem pre1 (c d : UInt8) (t : List UInt8) (h : d.toNat ≠ c.toNat) : Lib.hasPrefix (ByteArray.mk (d :: t).toArray).data.toList (ByteArray.mk #[c]).data.toList = false := by
  have hne : (c == d) = false := by
    rw [beq_eq_false_iff_ne]
    intro e
    exact h (by rw [e])
  show List.isPrefixOf [c] (d :: t) = false
  simp [List.isPrefixOf, hne]
theorem ext01 (c : UInt8) (t : List UInt8) : (ByteArray.mk (c :: t).toArray).extract 0 1 = ⟨#[c]⟩ := by
  apply ByteArray.ext
  simp [ByteArray.data_extract]
theorem extN (txt : List UInt8) (n : Nat) : (ByteArray.mk txt.toArray).extract n txt.length = ⟨(txt.drop n).toArray⟩ := by
  apply ByteArray.ext
  simp [ByteArray.data_extract]
  rw [List.take_of_length_le (by simp)]

end

section

theorem star_open {es e : List Int} {s r : List UInt8} (h : starP es s = (e, r)) : (isHead 42 s = false ∧ e = es ∧ r = s) ∨ (isHead 42 s = true ∧ starP (es ++ [21]) s.tail = (e, r)) := by
  cases s with
  | nil => simp [starP] at h; exact .inl ⟨rfl, h.1.symm, h.2⟩
  | cons c t =>
    simp only [starP] at h
    split at h
    · rename_i hc
      exact .inr ⟨by simp [isHead]; omega, h⟩
    · rename_i hc
      injection h with h1 h2
      exact .inl ⟨by simp [isHead]; omega, h1.symm, h2.symm⟩
theorem loop_open {sign : Nat} {op : Int} {part : PR} {m : Nat} {es e : List Int} {s r : List UInt8} (h : loopP sign op part m es s = some (e, r)) :
    (isHead sign s = false ∧ e = es ∧ r = s) ∨ (isHead sign s = true ∧ ∃ e1 r1 m', part s.tail = some (e1, r1) ∧ loopP sign op part m' (es ++ e1 ++ [op]) r1 = some (e, r)) := by
  cases s with
  | nil => cases m <;> (simp [loopP] at h; exact .inl ⟨rfl, h.1.symm, h.2⟩)
  | cons c t =>
    cases m with
    | zero =>
      simp only [loopP] at h
      split at h
      · cases h
      · rename_i hc
        injection h with h
        injection h with h1 h2
        exact .inl ⟨by simp [isHead]; omega, h1.symm, h2.symm⟩
    | succ m =>
      simp only [loopP] at h
      split at h
      · rename_i hc
        simp only [Option.bind_eq_some_iff] at h
        obtain ⟨⟨e1, r1⟩, h1, h2⟩ := h
        exact .inr ⟨by simp [isHead]; omega, e1, r1, m, h1, h2⟩
      · rename_i hc
        injection h with h
        injection h with h1 h2
        exact .inl ⟨by simp [isHead]; omega, h1.symm, h2.symm⟩
theorem tail_len {c : Int} {s : List UInt8} (h : isHead c s = true) : s.tail.length + 1 = s.length := by
  cases s with
  | nil => cases h
  | cons => simp
theorem OwnI.eqv {lo hi e n : Nat} {w : World} {v : Value} {xs ys : List Int} {vs : List Value} (h : Own 1 lo hi e w v n vs) (h1 : vs = ints ys) (h2 : n = ys.length) (h3 : xs = ys) : OwnI lo hi e w v xs := by
  subst h1 h2 h3
  exact h

theorem OwnI.app2 {lo hi e cap : Nat} {w : World} {a : Option Addr} {xs ys : List Int} (h : Own 1 lo hi e w (.slice a (xs.length + ys.length) cap) (xs.length + ys.length) (ints xs ++ ints ys)) : OwnI lo hi e w (.slice a (xs ++ ys).length cap) (xs ++ ys) := by
  unfold OwnI
  rw [List.length_append, ints_append]
  exact h
theorem OwnI.app3 {lo hi e cap : Nat} {w : World} {a : Option Addr} {xs ys zs : List Int} (h : Own 1 lo hi e w (.slice a (xs.length + ys.length + zs.length) cap) (xs.length + ys.length + zs.length) (ints xs ++ (ints ys ++ ints zs))) : OwnI lo hi e w (.slice a (xs ++ ys ++ zs).length cap) (xs ++ ys ++ zs) := by
  unfold OwnI
  rw [List.length_append, List.length_append, ints_append, ints_append, List.append_assoc]
  exact h

end

section

theorem info_str : (Try.prog.info? 9).map (fun i => (i.zero, i.size, i.bytes)) = some (some (.string ⟨#[]⟩), 1, 16) := by kernel_rfl

end

section

end

section


end

section

/-- The sides of a rule, each in new memory. -/
def RuleOwn (lo hi : Nat) (w : World) (a b : Value) (L R : List Int) : Prop := ∃ m, lo ≤ m ∧ m ≤ hi ∧ OwnI lo m 3 w a L ∧ OwnI m hi 3 w b R
/-- A rule comes back. -/
def RetR (P : Value → Value → World → Prop) (e : Ending) (w' : World) : Prop := ∃ a b, e = .returned (.agg #[a, b]) ∧ P a b w'
theorem Blk.set2 {g : Nat} {e : TypeId} {w : World} {x0 x1 : Value} (h : Blk g (.cells #[x0, x1] e (0, 0)) w) (a b : Value) :
    Blk g (.cells #[a, b] e (0, 0)) ((w.setCell ⟨g, 0, none⟩ a).setCell ⟨g, 1, none⟩ b) := by
  have h' : w.heap[g]? = _ := h
  show ((w.setCell ⟨g, 0, none⟩ a).setCell ⟨g, 1, none⟩ b).heap[g]? = _
  simp [World.setCell, Array.getElem?_modify, h']
theorem Outside.set2 (g : Nat) (w : World) (a b : Value) : Outside g (g + 1) w ((w.setCell ⟨g, 0, none⟩ a).setCell ⟨g, 1, none⟩ b) :=
  ((Outside.refl _ _ _).setCell (p := ⟨g, 0, none⟩) (Nat.le_refl _) (Nat.lt_succ_self _) _).setCell (p := ⟨g, 1, none⟩) (Nat.le_refl _) (Nat.lt_succ_self _) _

/-- A rule and a truth come back. -/
def RetRB (P : Value → Value → Bool → World → Prop) (e : Ending) (w' : World) : Prop := ∃ a b c, e = .returned (.tuple #[.agg #[a, b], .bool c]) ∧ P a b c w'
/-- The rule with a number, if there is one. -/
def isR (n : Int) : Bool := inB n 0 20
def ruleN (n : Int) (l : Bool) : List Int := if isR n then ruleS n.toNat l else []
theorem RuleOwn.nil (lo hi : Nat) (h : lo ≤ hi) (w : World) : RuleOwn lo hi w (.slice none 0 0) (.slice none 0 0) [] [] := ⟨lo, Nat.le_refl _, h, Own.nil _ _ _ _ _, Own.nil _ _ _ _ _⟩
theorem RuleOwn.below {lo hi B : Nat} {w w' : World} {a b : Value} {L R : List Int} (h : RuleOwn lo hi w a b L R) (hb : Below B w w') (hB : hi ≤ B) : RuleOwn lo hi w' a b L R := by
  obtain ⟨m, h1, h2, h3, h4⟩ := h
  exact ⟨m, h1, h2, h3.below hb (by omega), h4.below hb hB⟩
theorem RuleOwn.outside {lo hi lo' hi' : Nat} {w w' : World} {a b : Value} {L R : List Int} (h : RuleOwn lo hi w a b L R) (hb : Outside lo' hi' w w') (hd : hi ≤ lo' ∨ hi' ≤ lo) : RuleOwn lo hi w' a b L R := by
  obtain ⟨m, h1, h2, h3, h4⟩ := h
  exact ⟨m, h1, h2, h3.outside hb (by omega), h4.outside hb (by omega)⟩
theorem RuleOwn.wide {lo hi lo' hi' : Nat} {w : World} {a b : Value} {L R : List Int} (h : RuleOwn lo hi w a b L R) (h1 : lo' ≤ lo) (h2 : hi ≤ hi') : RuleOwn lo' hi' w a b L R := by
  obtain ⟨m, k1, k2, k3, k4⟩ := h
  exact ⟨m, by omega, by omega, k3.lower h1 (Nat.le_refl _), k4.lower (Nat.le_refl _) h2⟩

end

section

/-- slices.Equal of ints. -/
theorem slEq_any (lo hi lo' hi' : Nat) (v v' : Value) (xs ys : List Int) (w : World) (hx : SlI lo hi w v xs) (hy : SlI lo' hi' w v' ys) :
    Calls Try.prog 44 #[v, v'] w fun e w' => e = .returned (.bool (eqL xs ys)) ∧ Below w.heap.size w w' := by
  obtain ⟨a, cap, rfl, hcap, hcm, hc⟩ := hx.open
  obtain ⟨a', cap', rfl, hcap', hcm', hc'⟩ := hy.open
  unfold maxLen at hcm hcm'
  by_cases hl : xs.length = ys.length
  · by_cases h0 : xs.length = 0
    · obtain rfl := List.eq_nil_of_length_eq_zero h0
      obtain rfl := List.eq_nil_of_length_eq_zero (show ys.length = 0 by omega)
      refine (Try.slices_Equal_int_empty a a' cap 0 cap' w (by omega)).mono ?_
      rintro e w' ⟨rfl, rfl⟩
      exact ⟨rfl, Below.refl _ _⟩
    · obtain ⟨b, off, rfl, _⟩ := hc 0 (by omega)
      obtain ⟨b', off', rfl, _⟩ := hc' 0 (by omega)
      refine (Try.slices_Equal_int b off xs.length cap b' off' ys.length cap' xs ys w (Nat.le_refl _) (Nat.le_refl _) (by omega) (by omega) ?_ ?_).mono ?_
      · intro j hj
        obtain ⟨b2, off2, e, _, _, _, h⟩ := hc j hj
        injection e with e; injection e with e1 e2; subst e1 e2
        rw [h]; simp [List.getD, hj]
      · intro j hj
        obtain ⟨b2, off2, e, _, _, _, h⟩ := hc' j hj
        injection e with e; injection e with e1 e2; subst e1 e2
        rw [h]; simp [List.getD, hj]
      · rintro e w' ⟨rfl, q, rfl⟩
        exact ⟨by simp [eqL], below_drewN (Below.refl _ _) _⟩
  · refine (Try.slices_Equal_int_lens a a' _ cap _ cap' w hl).mono ?_
    rintro e w' ⟨rfl, rfl⟩
    exact ⟨ret_bool (eqL_len hl).symm, Below.refl _ _⟩
end

section

/-- slices.Clone of ints. -/
theorem cloneI_any (lo hi : Nat) (v : Value) (xs : List Int) (w : World) (hx : SlI lo hi w v xs) (hm : xs.length ≤ 1048576) :
    Calls Try.prog 36 #[v] w (RetV fun v' w' => Below w.heap.size w w' ∧ OwnI w.heap.size w'.heap.size 3 w' v' xs) := by
  obtain ⟨a, cap, rfl, hcap, hcm, hc⟩ := hx.open
  have hnone : a = none → cap = 0 := by obtain ⟨a', cap', e, _, _, _, h, _⟩ := hx; injection e with e1 _ e2; subst e1 e2; exact h
  by_cases hl : xs.length = 0
  · have hx0 : xs = [] := List.eq_nil_of_length_eq_zero hl
    subst hx0
    cases a with
    | none =>
      refine (Try.slices_Clone_int_nil _ _ w).mono ?_
      rintro e w' ⟨rfl, rfl⟩
      exact RetV.mk _ rfl ⟨Below.refl _ _, Own.nil _ _ _ _ _⟩
    | some ad =>
      refine (Try.slices_Clone_int_zero ad cap w).mono ?_
      rintro e w' ⟨v', rfl, h1, _, h2⟩
      exact RetV.mk _ rfl ⟨h2, Own.of_row h1⟩
  · obtain ⟨b, off, rfl, _⟩ := hc 0 (by omega)
    have hcc : ∀ j, j < xs.length → w.cell? ⟨b, off + j, none⟩ = some (.int .i64 (xs.getD j 0)) := by
      intro j hj
      obtain ⟨b', off', e, _, _, _, h⟩ := hc j hj
      injection e with e; injection e with e1 e2; subst e1 e2
      rw [h]
      simp [List.getD, hj]
    refine (Try.slices_Clone_int b off xs.length cap xs w (Nat.le_refl _) (by omega) hcc).mono ?_
    rintro e w' ⟨v', rfl, h1, _, h2⟩
    rw [List.take_length] at h1
    exact RetV.mk _ rfl ⟨h2, Own.of_row h1⟩
end

section
theorem box_facts2 {w w0 : World} {o : Obj} (h : w0 = w.alloc o) : Below w.heap.size w w0 ∧ Blk w.heap.size o w0 ∧ w.heap.size + 1 ≤ w0.heap.size := by
  subst h
  exact ⟨(Below.refl _ _).alloc (Nat.le_refl _) _, Blk.new w o, by simp⟩
/-- Four stores into a block of four cells. -/
theorem Blk.set4 {g : Nat} {e : TypeId} {w : World} {x0 x1 x2 x3 : Value} (h : Blk g (.cells #[x0, x1, x2, x3] e (0, 0)) w) (a b c d : Value) :
    Blk g (.cells #[a, b, c, d] e (0, 0)) ((((w.setCell ⟨g, 0, none⟩ a).setCell ⟨g, 1, none⟩ b).setCell ⟨g, 2, none⟩ c).setCell ⟨g, 3, none⟩ d) := by
  have h' : w.heap[g]? = _ := h
  show ((((w.setCell ⟨g, 0, none⟩ a).setCell ⟨g, 1, none⟩ b).setCell ⟨g, 2, none⟩ c).setCell ⟨g, 3, none⟩ d).heap[g]? = _
  simp [World.setCell, Array.getElem?_modify, h']
theorem Outside.set4 (g : Nat) (w : World) (a b c d : Value) : Outside g (g + 1) w ((((w.setCell ⟨g, 0, none⟩ a).setCell ⟨g, 1, none⟩ b).setCell ⟨g, 2, none⟩ c).setCell ⟨g, 3, none⟩ d) :=
  ((((Outside.refl _ _ _).setCell (p := ⟨g, 0, none⟩) (Nat.le_refl _) (Nat.lt_succ_self _) _).setCell (p := ⟨g, 1, none⟩) (Nat.le_refl _) (Nat.lt_succ_self _) _).setCell (p := ⟨g, 2, none⟩) (Nat.le_refl _) (Nat.lt_succ_self _) _).setCell (p := ⟨g, 3, none⟩) (Nat.le_refl _) (Nat.lt_succ_self _) _
theorem Blk.put {g : Nat} {cs : Array Value} {e : TypeId} {w : World} (h : Blk g (.cells cs e (0, 0)) w) (j : Nat) (u : Value) : Blk g (.cells (cs.setIfInBounds j u) e (0, 0)) (w.setCell ⟨g, j, none⟩ u) := by
  have h' : w.heap[g]? = _ := h
  show (w.setCell ⟨g, j, none⟩ u).heap[g]? = _
  simp [World.setCell, Array.getElem?_modify, h']
theorem Outside.put (g j : Nat) (w : World) (u : Value) : Outside g (g + 1) w (w.setCell ⟨g, j, none⟩ u) := (Outside.refl _ _ _).setCell (p := ⟨g, j, none⟩) (Nat.le_refl _) (Nat.lt_succ_self _) _
theorem Outside.undrew {lo hi : Nat} {w w' : World} (h : Outside lo hi w.drew w') : Outside lo hi w w' := ⟨h.os, h.tape, h.output, h.size, h.block⟩
theorem Rd.drew {g c : Nat} {w : World} (h : Rd g w c) : Rd g w.drew c := h
theorem Rd.al {g c : Nat} {w : World} (h : Rd g w c) (o : Obj) : Rd g (w.alloc o) c := h.below ((Below.refl _ _).alloc (Nat.le_refl _) _) h.lt
theorem Blk.drew {g : Nat} {o : Obj} {w : World} (h : Blk g o w) : Blk g o w.drew := h
theorem Blk.al {g : Nat} {o x : Obj} {w : World} (h : Blk g o w) : Blk g o (w.alloc x) := h.below ((Below.refl _ _).alloc (Nat.le_refl _) _) h.lt
theorem hop1 {w w' : World} {o : Obj} {g : Nat} (ho : Outside g (g + 1) (w.alloc o).drew w') (hlt : g < w.heap.size) : Blk w.heap.size o w' :=
  Blk.outside (w := (w.alloc o).drew) (show (w.alloc o).heap[w.heap.size]? = some o from heap_alloc_new w o) ho (Or.inr hlt)
theorem hop2 {w w' : World} {o x : Obj} {g : Nat} (ho : Outside g (g + 1) ((w.alloc o).alloc x).drew w') (hlt : g < w.heap.size) : Blk w.heap.size o w' ∧ Blk (w.heap.size + 1) x w' := by
  refine ⟨Blk.outside (w := ((w.alloc o).alloc x).drew) ((Blk.new w o).al.drew) ho (Or.inr hlt), ?_⟩
  have h := Blk.new (w.alloc o) x
  rw [alloc_size] at h
  exact Blk.outside (w := ((w.alloc o).alloc x).drew) h.drew ho (Or.inr (by omega))
theorem hop3 {w w' : World} {o : Obj} {g : Nat} (ho : Outside g (g + 1) (w.alloc o) w') (hlt : g < w.heap.size) : Blk w.heap.size o w' :=
  Blk.outside (heap_alloc_new w o) ho (Or.inr hlt)
theorem hop4 {w w' : World} {o x : Obj} {g : Nat} (ho : Outside g (g + 1) ((w.alloc o).alloc x) w') (hlt : g < w.heap.size) : Blk w.heap.size o w' ∧ Blk (w.heap.size + 1) x w' := by
  refine ⟨Blk.outside (Blk.new w o).al ho (Or.inr hlt), ?_⟩
  have h := Blk.new (w.alloc o) x
  rw [alloc_size] at h
  exact Blk.outside h ho (Or.inr (by omega))
/-- A world that another one has grown out of, by draws and new blocks. -/
inductive Grew : World → World → Prop where
  | refl (w : World) : Grew w w
  | drew {w w' : World} : Grew w w' → Grew w w'.drew
  | al {w w' : World} (o : Obj) : Grew w w' → Grew w (w'.alloc o)
theorem Grew.out {w w' : World} (h : Grew w w') : Below w.heap.size w w' := by
  induction h with
  | refl => exact Below.refl _ _
  | drew _ ih => exact ih.drew
  | al o h ih => exact ih.alloc ih.size _
theorem Outside.grew {g : Nat} {w w1 w' : World} (h : Outside g (g + 1) w1 w') (k : Grew w w1) : Outside g (g + 1) w w' :=
  (Outside.of_below k.out (Nat.le_refl _)).trans h
theorem lit_new (w : World) {cs : Array Value} {T : TypeId} {z : Nat} {y : Value} (h : cs[z]? = some y) : (w.alloc (.cells cs T)).cell? ⟨w.heap.size, z, none⟩ = some y := by
  rw [(Blk.new w (.cells cs T)).cell z, h]
theorem lit_new2 (w : World) (o : Obj) {cs : Array Value} {T : TypeId} {z : Nat} {y : Value} (h : cs[z]? = some y) : ((w.alloc o).alloc (.cells cs T)).cell? ⟨w.heap.size + 1, z, none⟩ = some y := by
  have := lit_new (w.alloc o) (T := T) h
  rwa [alloc_size] at this
theorem lit_new3 (w : World) (o : Obj) {cs : Array Value} {T : TypeId} {z : Nat} {y : Value} (h : cs[z]? = some y) : ((w.alloc (.cells cs T)).alloc o).cell? ⟨w.heap.size, z, none⟩ = some y := by
  rw [((Blk.new w (.cells cs T)).al (x := o)).cell z, h]
theorem Outside.set5 (g : Nat) (w : World) (a b c d f : Value) : Outside g (g + 1) w (((((w.setCell ⟨g, 0, none⟩ a).setCell ⟨g, 1, none⟩ b).setCell ⟨g, 2, none⟩ c).setCell ⟨g, 3, none⟩ d).setCell ⟨g, 4, none⟩ f) :=
  (((((Outside.refl _ _ _).setCell (p := ⟨g, 0, none⟩) (Nat.le_refl _) (Nat.lt_succ_self _) _).setCell (p := ⟨g, 1, none⟩) (Nat.le_refl _) (Nat.lt_succ_self _) _).setCell (p := ⟨g, 2, none⟩) (Nat.le_refl _) (Nat.lt_succ_self _) _).setCell (p := ⟨g, 3, none⟩) (Nat.le_refl _) (Nat.lt_succ_self _) _).setCell (p := ⟨g, 4, none⟩) (Nat.le_refl _) (Nat.lt_succ_self _) _
theorem Outside.pute (g j : Nat) (w : World) (x : Value) : Outside g (g + 1) w (w.setCell ⟨g, j, none⟩ x) :=
  (Outside.refl _ _ _).setCell (p := ⟨g, j, none⟩) (Nat.le_refl _) (Nat.lt_succ_self _) _
theorem Outside.put3 (g : Nat) (w : World) (a b c : Value) : Outside g (g + 1) w (((w.setCell ⟨g, 1, none⟩ a).setCell ⟨g, 2, none⟩ b).setCell ⟨g, 3, none⟩ c) :=
  (((Outside.refl _ _ _).setCell (p := ⟨g, 1, none⟩) (Nat.le_refl _) (Nat.lt_succ_self _) _).setCell (p := ⟨g, 2, none⟩) (Nat.le_refl _) (Nat.lt_succ_self _) _).setCell (p := ⟨g, 3, none⟩) (Nat.le_refl _) (Nat.lt_succ_self _) _
theorem Blk.put4 {g : Nat} {e : TypeId} {w : World} {x0 x1 x2 x3 x4 : Value} (h : Blk g (.cells #[x0, x1, x2, x3, x4] e (0, 0)) w) (y : Value) : Blk g (.cells #[x0, x1, x2, x3, y] e (0, 0)) (w.setCell ⟨g, 4, none⟩ y) := by
  have h' : w.heap[g]? = _ := h
  show (w.setCell ⟨g, 4, none⟩ y).heap[g]? = _
  simp [World.setCell, Array.getElem?_modify, h']
theorem Blk.put3 {g : Nat} {e : TypeId} {w : World} {x0 x1 x2 x3 x4 : Value} (h : Blk g (.cells #[x0, x1, x2, x3, x4] e (0, 0)) w) (a b c : Value) :
    Blk g (.cells #[x0, a, b, c, x4] e (0, 0)) (((w.setCell ⟨g, 1, none⟩ a).setCell ⟨g, 2, none⟩ b).setCell ⟨g, 3, none⟩ c) := by
  have h' : w.heap[g]? = _ := h
  show (((w.setCell ⟨g, 1, none⟩ a).setCell ⟨g, 2, none⟩ b).setCell ⟨g, 3, none⟩ c).heap[g]? = _
  simp [World.setCell, Array.getElem?_modify, h']
theorem al_below (w : World) (o : Obj) : Below w.heap.size w (w.alloc o) := (Below.refl _ _).alloc (Nat.le_refl _) _
theorem Outside.drw {lo hi : Nat} {w w' : World} (h : Outside lo hi w w') : Outside lo hi w w'.drew := ⟨h.os, h.tape, h.output, h.size, h.block⟩
end
end Go.Proofs.Ytoondakdjhhehaa
