/-
  Texts of walks and plain lemmas for this seat; no condition.
-/
import Derived.Test.YtoondakdjhhehaaGA
import Derived.Test.YtoondakdjhhehaaGB
import Derived.Test.YtoondakdjhhehaaStepApp
import Derived.Deep.RegionHeld3
import Derived.Deep.RegionWith
namespace Go.Proofs.Ytoondakdjhhehaa
open Go.RowKit
section

/-- What the letters stand for: three parts, empty for none. -/
def varK (n : Int) : Nat := (-1 - n).toNat
def KT.root : KT → Int
  | .leaf n => n
  | .star _ => 21
  | .bin p _ _ => KT.op p
def matchT : KT → KT → List (List Int) → Option (List (List Int))
  | .leaf n, t, V => if n < 0 then (if V.getD (varK n) [] = [] then some (V.set (varK n) t.post) else if V.getD (varK n) [] = t.post then some V else none) else if t.root = n then some V else none
  | .star p, t, V => match t with | .star t' => matchT p t' V | _ => none
  | .bin q a b, t, V => match t with | .bin r c d => if q = r then (matchT a c V).bind (matchT b d) else none | _ => none
def fillT : List Int → List (List Int) → Option (List Int)
  | [], _ => some []
  | s :: r, V => if 0 ≤ s then (fillT r V).map (s :: ·) else if V.getD (varK s) [] = [] then none else (fillT r V).map (V.getD (varK s) [] ++ ·)
/-- Three parts, each a valid expression or none. -/
structure GV (V : List (List Int)) : Prop where
  len : V.length = 3
  all : ∀ i, V.getD i [] = [] ∨ ∃ s : KT, s.ok 0 = true ∧ s.post = V.getD i [] ∧ s.size ≤ 40
theorem GV.zero : GV [[], [], []] := ⟨rfl, fun i => by match i with
  | 0 => exact .inl rfl
  | 1 => exact .inl rfl
  | 2 => exact .inl rfl
  | i + 3 => exact .inl (by simp)⟩
theorem GV.bd {V : List (List Int)} (h : GV V) (i : Nat) : (V.getD i []).length ≤ 40 := by
  rcases h.all i with h | ⟨s, _, h, hs⟩
  · rw [h]; decide
  · rw [← h, s.post_length]; exact hs
theorem KT.post_ne (t : KT) : t.post ≠ [] := by
  intro h
  have := congrArg List.length h
  rw [t.post_length] at this
  have := t.size_pos
  simp at *
  omega
theorem GV.set {V : List (List Int)} (h : GV V) (k : Nat) (t : KT) (ht : t.ok 0 = true) (hs : t.size ≤ 40) : GV (V.set k t.post) := by
  refine ⟨by simp [h.len], fun i => ?_⟩
  by_cases hi : i < V.length
  · by_cases hk : k = i
    · subst hk
      exact .inr ⟨t, ht, by simp [List.getD, hi], hs⟩
    · have := h.all i
      simp only [List.getD, List.getElem?_set_ne hk] at this ⊢
      exact this
  · exact .inl (by simp [List.getD, List.getElem?_eq_none (by simp; omega : (V.set k t.post).length ≤ i)])
theorem matchT_good : ∀ (p t : KT) (V V' : List (List Int)), t.ok 0 = true → t.size ≤ 40 → GV V → matchT p t V = some V' → GV V'
  | .leaf n, t, V, V', ht, hs, hV, h => by
    rw [matchT] at h
    split at h
    · split at h
      · injection h with h; subst h; exact hV.set _ t ht hs
      · split at h
        · injection h with h; subst h; exact hV
        · cases h
    · split at h
      · injection h with h; subst h; exact hV
      · cases h
  | .star p, t, V, V', ht, hs, hV, h => by
    cases t with
    | star t' => simp only [matchT] at h; simp only [KT.size] at hs; exact matchT_good p t' V V' ht (by omega) hV h
    | leaf _ => simp [matchT] at h
    | bin _ _ _ => simp [matchT] at h
  | .bin q a b, t, V, V', ht, hs, hV, h => by
    cases t with
    | bin r c d =>
      simp only [matchT] at h
      simp only [KT.size] at hs
      simp only [KT.ok, Bool.and_eq_true] at ht
      split at h
      · rw [Option.bind_eq_some_iff] at h
        obtain ⟨V1, h1, h2⟩ := h
        exact matchT_good b d V1 V' ht.2 (by omega) (matchT_good a c V V1 ht.1 (by omega) hV h1) h2
      · cases h
    | leaf _ => simp [matchT] at h
    | star _ => simp [matchT] at h
theorem fillT_append : ∀ (a b : List Int) (V : List (List Int)), fillT (a ++ b) V = (fillT a V).bind fun x => (fillT b V).map (x ++ ·)
  | [], b, V => by cases h : fillT b V <;> simp [fillT, h]
  | s :: r, b, V => by
    simp only [List.cons_append, fillT]
    rw [fillT_append r b V]
    split
    · cases fillT r V <;> cases fillT b V <;> simp
    · split
      · rfl
      · cases fillT r V <;> cases fillT b V <;> simp
/-- What is filled in is a valid expression again. -/
theorem fillT_good (V : List (List Int)) (hV : GV V) : ∀ (p : KT) (out : List Int), p.ok (-3) = true → fillT p.post V = some out → ∃ t : KT, t.ok 0 = true ∧ t.post = out
  | .leaf n, out, hp, h => by
    simp only [KT.ok, Bool.and_eq_true, decide_eq_true_eq] at hp
    simp only [KT.post, fillT] at h
    split at h
    · simp at h
      subst h
      exact ⟨.leaf n, by simp [KT.ok]; omega, rfl⟩
    · split at h
      · cases h
      · rename_i hne
        rw [Option.map_some, List.append_nil] at h
        injection h with h
        rcases hV.all (varK n) with h' | ⟨s, h1, h2, h3⟩
        · exact absurd h' hne
        · exact ⟨s, h1, by rw [h2, h]⟩
  | .star p, out, hp, h => by
    simp only [KT.ok] at hp
    simp only [KT.post] at h
    rw [fillT_append, Option.bind_eq_some_iff] at h
    obtain ⟨x, h1, h2⟩ := h
    obtain ⟨t, h3, h4⟩ := fillT_good V hV p x hp h1
    simp [fillT] at h2
    subst h2
    exact ⟨.star t, h3, by simp [KT.post, h4]⟩
  | .bin q a b, out, hp, h => by
    simp only [KT.ok, Bool.and_eq_true] at hp
    simp only [KT.post] at h
    rw [fillT_append, fillT_append, Option.bind_eq_some_iff] at h
    obtain ⟨y, h0, h2⟩ := h
    rw [Option.bind_eq_some_iff] at h0
    obtain ⟨x, h1, h0⟩ := h0
    rw [Option.map_eq_some_iff] at h0
    obtain ⟨z, h5, rfl⟩ := h0
    obtain ⟨t, h3, h4⟩ := fillT_good V hV a x hp.1 h1
    obtain ⟨t', h3', h4'⟩ := fillT_good V hV b z hp.2 h5
    have hq : (0 : Int) ≤ KT.op q := by cases q <;> simp [KT.op]
    rw [fillT, if_pos hq] at h2
    simp [fillT] at h2
    subst h2
    exact ⟨.bin q t t', by simp [KT.ok, h3, h3'], by simp [KT.post, h4, h4']⟩
theorem fillT_len (V : List (List Int)) (hV : GV V) : ∀ (p out : List Int), fillT p V = some out → out.length ≤ 40 * p.length
  | [], out, h => by simp [fillT] at h; subst h; simp
  | s :: r, out, h => by
    simp only [fillT] at h
    split at h
    · rw [Option.map_eq_some_iff] at h
      obtain ⟨x, h1, rfl⟩ := h
      have := fillT_len V hV r x h1
      simp
      omega
    · split at h
      · cases h
      · rw [Option.map_eq_some_iff] at h
        obtain ⟨x, h1, rfl⟩ := h
        have := fillT_len V hV r x h1
        have := hV.bd (varK s)
        simp only [List.length_append, List.length_cons]
        omega
/-- The tree of an expression. -/
def treeOf (e : List Int) : KT := match runK e [] with | some [t] => t | _ => .leaf 0
theorem treeOf_post {lo : Int} {t : KT} (h : t.ok lo = true) : treeOf t.post = t := by rw [treeOf, runK_post lo t h]
theorem rule_tree : ∀ n, n < 21 → ∀ l, (treeOf (ruleS n l)).ok (-3) = true ∧ (treeOf (ruleS n l)).post = ruleS n l ∧ (ruleS n l).length ≤ 40 := by decide +kernel

/-- Where a step's part begins in a valid expression. -/
theorem part_at {e : List Int} (hv : katV e = true) (k : Nat) (hk : k < e.length) :
    ∃ (pre rest : List Int) (t : KT), e = pre ++ t.post ++ rest ∧ pre.length + t.size = k + 1 ∧ t.ok 0 = true ∧ t.size ≤ 40 ∧ spanO (e.take (k + 1)).reverse 1 = some t.size := by
  simp only [katV, Bool.and_eq_true, decide_eq_true_eq, beq_iff_eq] at hv
  obtain ⟨⟨h1, h2⟩, h3⟩ := hv
  have he : e = e.take (k + 1) ++ e.drop (k + 1) := (List.take_append_drop _ _).symm
  have h3' := h3
  rw [he, kdep_append, Option.bind_eq_some_iff] at h3'
  obtain ⟨d, h4, _⟩ := h3'
  obtain ⟨st, h6, h7, h8⟩ := kdep_run (e.take (k + 1)) [] d (by intro t ht; cases ht) h4
  have hp := posts_run _ _ _ h6
  simp only [posts, List.nil_append] at hp
  have hlk : (e.take (k + 1)).length = k + 1 := by simp; omega
  match st, h7, hp with
  | [], _, hp =>
    have hp2 : ([] : List Int) = e.take (k + 1) := hp
    rw [← hp2] at hlk
    simp at hlk
  | t :: r, h7, hp =>
    have ht := h7 t (List.mem_cons_self ..)
    simp only [posts] at hp
    have hl : (posts r).length + t.size = k + 1 := by rw [← hlk, ← hp, List.length_append, t.post_length]
    refine ⟨posts r, e.drop (k + 1), t, by rw [hp]; exact he, hl, ht, by omega, ?_⟩
    rw [← hp, List.reverse_append, spanO_post 0 t ht _ _ (by omega)]
    simp [spanO_zero]
theorem kdep_nonneg : ∀ (e : List Int) (d d' : Int), 0 ≤ d → kdep e d = some d' → 0 ≤ d'
  | [], d, d', h0, h => by simp [kdep] at h; omega
  | s :: r, d, d', h0, h => by
    rw [kdep] at h
    split at h
    · cases h
    · rename_i hb
      exact kdep_nonneg r _ d' (by omega) h
theorem katV_swap {pre rest : List Int} {t t' : KT} (ht : t.ok 0 = true) (ht' : t'.ok 0 = true) (hv : katV (pre ++ t.post ++ rest) = true) :
    katV (pre ++ t'.post ++ rest) = decide ((pre ++ t'.post ++ rest).length ≤ 40) := by
  simp only [katV, Bool.and_eq_true, decide_eq_true_eq, beq_iff_eq] at hv
  obtain ⟨⟨h1, h2⟩, h3⟩ := hv
  have hpos := t'.size_pos
  have hd : kdep (pre ++ t'.post ++ rest) 0 = some 1 := by
    rw [kdep_append, kdep_append] at h3 ⊢
    cases hx : kdep pre 0 with
    | none => rw [hx] at h3; simp at h3
    | some d =>
      rw [hx] at h3
      simp only [Option.bind_some] at h3 ⊢
      have hd0 : 0 ≤ d := kdep_nonneg pre 0 d (Int.le_refl 0) hx
      rw [kdep_post t ht d hd0] at h3
      rw [kdep_post t' ht' d hd0]
      exact h3
  have hl : 1 ≤ (pre ++ t'.post ++ rest).length := by simp [t'.post_length]; omega
  rw [katV, hd, decide_eq_true hl]
  simp
end

section

/-- Kids of a node: a row of pointers in blocks from lo on, none of them the row. -/
def KidsAt (lo : Nat) (row : Option Nat) (w : World) (kv : Value) (ps : List Value) : Prop :=
  ∃ a cap, kv = .slice a ps.length cap ∧ ps.length ≤ cap ∧ cap ≤ maxLen ∧
    ∀ i (h : i < ps.length), ∃ g off, a = some ⟨g, off, none⟩ ∧ lo ≤ g ∧ some g ≠ row ∧ g < w.heap.size ∧ w.cell? ⟨g, off + i, none⟩ = some ps[i]
/-- A node of a tree in memory: its step, and its kids. -/
def NodeAt (lo : Nat) (row : Option Nat) (w : World) (p : Value) (root : Int) (ps : List Value) : Prop :=
  ∃ b kv, p = .pointer (some ⟨b, 0, none⟩) ∧ lo ≤ b ∧ some b ≠ row ∧ Blk b (.cells #[.int .i64 root, kv] 67) w ∧ KidsAt lo row w kv ps
/-- A tree in memory. -/
def RT (lo : Nat) (row : Option Nat) (w : World) : KT → Value → Prop
  | .leaf n, p => NodeAt lo row w p n []
  | .star t, p => ∃ q, NodeAt lo row w p 21 [q] ∧ RT lo row w t q
  | .bin o a b, p => ∃ q r, NodeAt lo row w p (KT.op o) [q, r] ∧ RT lo row w a q ∧ RT lo row w b r
/-- What is kept from a world to another one. -/
structure Keeps (lo : Nat) (row : Option Nat) (w : World) (lo' : Nat) (row' : Option Nat) (w' : World) : Prop where
  size : w.heap.size ≤ w'.heap.size
  block : ∀ k, k < w.heap.size → lo ≤ k → some k ≠ row → w'.heap[k]? = w.heap[k]? ∧ lo' ≤ k ∧ some k ≠ row'
theorem KidsAt.mono {lo lo' : Nat} {row row' : Option Nat} {w w' : World} {kv : Value} {ps : List Value} (h : KidsAt lo row w kv ps) (hk : Keeps lo row w lo' row' w') : KidsAt lo' row' w' kv ps := by
  obtain ⟨a, cap, h1, h2, h3, h4⟩ := h
  refine ⟨a, cap, h1, h2, h3, fun i hi => ?_⟩
  obtain ⟨g, off, e1, e2, e3, e4, e5⟩ := h4 i hi
  obtain ⟨k1, k2, k3⟩ := hk.block g e4 e2 e3
  exact ⟨g, off, e1, k2, k3, Nat.lt_of_lt_of_le e4 hk.size, by rw [World.cell?_of_block (w := w) (a := ⟨g, off + i, none⟩) k1]; exact e5⟩
theorem NodeAt.mono {lo lo' : Nat} {row row' : Option Nat} {w w' : World} {p : Value} {root : Int} {ps : List Value} (h : NodeAt lo row w p root ps) (hk : Keeps lo row w lo' row' w') : NodeAt lo' row' w' p root ps := by
  obtain ⟨b, kv, h1, h2, h3, h4, h5⟩ := h
  obtain ⟨k1, k2, k3⟩ := hk.block b h4.lt h2 h3
  exact ⟨b, kv, h1, k2, k3, k1.trans h4, h5.mono hk⟩
theorem RT.mono {lo lo' : Nat} {row row' : Option Nat} {w w' : World} (hk : Keeps lo row w lo' row' w') : ∀ {t : KT} {p : Value}, RT lo row w t p → RT lo' row' w' t p
  | .leaf n, p, h => NodeAt.mono h hk
  | .star t, p, h => by
    obtain ⟨q, h1, h2⟩ := h
    exact ⟨q, h1.mono hk, RT.mono hk h2⟩
  | .bin o a b, p, h => by
    obtain ⟨q, r, h1, h2, h3⟩ := h
    exact ⟨q, r, h1.mono hk, RT.mono hk h2, RT.mono hk h3⟩
theorem Keeps.refl (lo : Nat) (row : Option Nat) (w : World) : Keeps lo row w lo row w := ⟨Nat.le_refl _, fun _ _ h1 h2 => ⟨rfl, h1, h2⟩⟩
theorem Keeps.below {lo : Nat} {row : Option Nat} {w w' : World} (h : Below w.heap.size w w') : Keeps lo row w lo row w' := ⟨h.size, fun k h0 h1 h2 => ⟨h.block k h0, h1, h2⟩⟩
theorem RT.below {lo : Nat} {row : Option Nat} {w w' : World} {t : KT} {p : Value} (h : RT lo row w t p) (hb : Below w.heap.size w w') : RT lo row w' t p := RT.mono (Keeps.below hb) h
theorem RT.outside {lo x y : Nat} {w w' : World} {t : KT} {p : Value} (h : RT lo none w t p) (hb : Outside x y w w') (hy : y ≤ lo) : RT lo none w' t p :=
  RT.mono ⟨hb.size, fun k h0 h1 h2 => ⟨hb.block k h0 (.inr (by omega)), h1, h2⟩⟩ h
theorem RT.lower {lo lo' : Nat} {w : World} {t : KT} {p : Value} (h : RT lo none w t p) (hl : lo' ≤ lo) : RT lo' none w t p :=
  RT.mono ⟨Nat.le_refl _, fun k h0 h1 h2 => ⟨rfl, by omega, h2⟩⟩ h

/-- A tree's kids. -/
def KT.kids : KT → List KT
  | .leaf _ => []
  | .star t => [t]
  | .bin _ a b => [a, b]
/-- A row of pointers reads as trees. -/
def Stk (lo : Nat) (row : Option Nat) (w : World) : List Value → List KT → Prop
  | [], [] => True
  | p :: ps, t :: ts => RT lo row w t p ∧ Stk lo row w ps ts
  | _, _ => False
theorem Stk.mono {lo lo' : Nat} {row row' : Option Nat} {w w' : World} (hk : Keeps lo row w lo' row' w') : ∀ {ps : List Value} {ts : List KT}, Stk lo row w ps ts → Stk lo' row' w' ps ts
  | [], [], _ => trivial
  | _ :: _, _ :: _, h => ⟨RT.mono hk h.1, Stk.mono hk h.2⟩
  | [], _ :: _, h => h.elim
  | _ :: _, [], h => h.elim
theorem Stk.length {lo : Nat} {row : Option Nat} {w : World} : ∀ {ps : List Value} {ts : List KT}, Stk lo row w ps ts → ps.length = ts.length
  | [], [], _ => rfl
  | _ :: _, _ :: _, h => by simp [Stk.length h.2]
  | [], _ :: _, h => h.elim
  | _ :: _, [], h => h.elim
theorem Stk.get {lo : Nat} {row : Option Nat} {w : World} : ∀ {ps : List Value} {ts : List KT}, Stk lo row w ps ts → ∀ i (h1 : i < ps.length) (h2 : i < ts.length), RT lo row w ts[i] ps[i]
  | [], _, _, i, h1, _ => by simp at h1
  | _ :: _, [], h, _, _, _ => h.elim
  | _ :: _, _ :: _, h, 0, _, _ => h.1
  | _ :: ps, _ :: ts, h, i + 1, h1, h2 => Stk.get h.2 i (by simpa using h1) (by simpa using h2)
/-- A tree is a node, and its kids' trees. -/
theorem RT.node {lo : Nat} {row : Option Nat} {w : World} {t : KT} {p : Value} (h : RT lo row w t p) : ∃ ps, NodeAt lo row w p t.root ps ∧ Stk lo row w ps t.kids := by
  cases t with
  | leaf n => exact ⟨[], h, trivial⟩
  | star t => obtain ⟨q, h1, h2⟩ := h; exact ⟨[q], h1, h2, trivial⟩
  | bin o a b => obtain ⟨q, r, h1, h2, h3⟩ := h; exact ⟨[q, r], h1, h2, h3, trivial⟩
/-- A step behind a stack: its node's kids are the last ones of the row. -/
theorem Stk.push {lo : Nat} {row : Option Nat} {w : World} {s : Int} {st st' : List KT} {ys ks : List Value} {p : Value} (hs : pushK s st = some st') (h : Stk lo row w (ys ++ ks).reverse st) (hk : (ks.length : Int) = takesI s)
    (hn : NodeAt lo row w p s ks) : Stk lo row w (ys ++ [p]).reverse st' := by
  unfold pushK at hs
  split at hs
  · rename_i h2
    split at hs
    · injection hs with hs
      subst hs
      rw [h2] at hk
      match ks, hk with
      | [q, r], _ =>
        simp only [List.reverse_append, List.reverse_cons, List.reverse_nil, List.nil_append, List.cons_append] at h ⊢
        obtain ⟨hb, ha, hr⟩ := h
        refine ⟨⟨q, r, ?_, ha, hb⟩, hr⟩
        have hop : KT.op (s == 20) = s := by
          have : s = 19 ∨ s = 20 := by
            unfold takesI at h2
            split at h2
            · assumption
            · split at h2 <;> omega
          rcases this with rfl | rfl <;> rfl
        rw [hop]
        exact hn
    · cases hs
  · split at hs
    · rename_i h1
      split at hs
      · injection hs with hs
        subst hs
        rw [h1] at hk
        match ks, hk with
        | [q], _ =>
          simp only [List.reverse_append, List.reverse_cons, List.reverse_nil, List.nil_append, List.cons_append] at h ⊢
          refine ⟨⟨q, ?_, h.1⟩, h.2⟩
          have : s = 21 := by
            unfold takesI at h1
            split at h1
            · omega
            · split at h1
              · assumption
              · omega
          subst this
          exact hn
      · cases hs
    · rename_i h2 h1
      injection hs with hs
      subst hs
      have h0 : takesI s = 0 := by
        have := takesI_bd s
        omega
      rw [h0] at hk
      match ks, hk with
      | [], _ =>
        simp only [List.append_nil, List.reverse_append, List.reverse_cons, List.reverse_nil, List.nil_append, List.cons_append] at h ⊢
        exact ⟨hn, h⟩
theorem pushK_takes {s : Int} {st st' : List KT} (h : pushK s st = some st') : takesI s ≤ st.length ∧ (st'.length : Int) = st.length + 1 - takesI s := by
  have hb := takesI_bd s
  unfold pushK at h
  split at h
  · rename_i h2
    split at h
    · injection h with h; subst h; rw [h2]; simp; omega
    · cases h
  · split at h
    · rename_i h1
      split at h
      · injection h with h; subst h; rw [h1]; simp; omega
      · cases h
    · injection h with h; subst h
      have h0 : takesI s = 0 := by omega
      rw [h0]; simp
end

section

theorem take_succ_rev (xs : List Int) (q : Nat) (h : q < xs.length) : (xs.take (q + 1)).reverse = xs[q] :: (xs.take q).reverse := by
  rw [List.take_add_one, List.getElem?_eq_getElem h]
  simp

/-- A part of a list. -/
theorem SlI.sub {lo hi n cap : Nat} {w : World} {b off : Nat} {xs : List Int} (h : SlI lo hi w (.slice (some ⟨b, off, none⟩) n cap) xs) (i j : Nat) (hij : i ≤ j) (hj : j ≤ xs.length) :
    SlI lo hi w (.slice (some ⟨b, off + i, none⟩) (j - i) (cap - i)) ((xs.drop i).take (j - i)) := by
  obtain ⟨a, cp, e, h1, h2, h3, h4, h5⟩ := h
  injection e with e1 e2 e3
  subst e1 e2 e3
  have hl : ((xs.drop i).take (j - i)).length = j - i := by simp; omega
  refine ⟨_, _, by rw [hl], by rw [hl]; omega, by omega, by rw [ints_length, hl]; omega, (fun h => by cases h), fun k hk => ?_⟩
  rw [ints_length, hl] at hk
  obtain ⟨b', off', f1, f2, f3, f4, f5⟩ := h5 (i + k) (by rw [ints_length]; omega)
  injection f1 with f1
  injection f1 with f1 f1'
  subst f1 f1'
  refine ⟨b, off + i, rfl, f2, f3, f4, ?_⟩
  rw [Nat.add_assoc, f5]
  simp only [ints, List.getElem?_map, List.getElem?_take, List.getElem?_drop]
  rw [if_pos (by omega)]
theorem SlI.notNil {lo hi n cap : Nat} {w : World} {a : Option Addr} {xs : List Int} (h : SlI lo hi w (.slice a n cap) xs) (h0 : 0 < xs.length) : ∃ b off, a = some ⟨b, off, none⟩ := by
  obtain ⟨b, off, e, _⟩ := h.get 0 h0
  exact ⟨b, off, e⟩

/-- Both halves come back. -/
def RetH (P : Value → Value → World → Prop) (e : Ending) (w' : World) : Prop := ∃ a b, e = .returned (.tuple #[a, b]) ∧ P a b w'
theorem halves_span {lo : Int} {p : Bool} {a b : KT} (hb : b.ok lo = true) : spanO (((KT.bin p a b).post).take ((KT.bin p a b).post.length - 1)).reverse 1 = some b.size := by
  have h1 : ((KT.bin p a b).post).take ((KT.bin p a b).post.length - 1) = a.post ++ b.post := by
    have hl : (KT.bin p a b).post.length - 1 = (a.post ++ b.post).length := by simp [KT.post]
    rw [hl]
    exact List.take_left
  rw [h1, List.reverse_append, spanO_post lo b hb _ _ (by omega)]
  simp [spanO_zero]

end

section

theorem eqL_pre {xs ys : List Int} {k : Nat} (h1 : k < xs.length) (h2 : k < ys.length) (h : xs[k] ≠ ys[k]) : eqL xs ys = false := eqL_ne h1 h2 h

end

section

/-- The slice value reads as xs. -/
def RdI (w : World) (v : Value) (xs : List Int) : Prop := SlI 0 w.heap.size w v xs
theorem RdI.below {w w' : World} {v : Value} {xs : List Int} (h : RdI w v xs) (hb : Below w.heap.size w w') : RdI w' v xs := (SlI.below h hb (Nat.le_refl _)).wide (Nat.le_refl _) hb.size
theorem SlI.rd {lo hi : Nat} {w : World} {v : Value} {xs : List Int} (h : SlI lo hi w v xs) (hh : hi ≤ w.heap.size) : RdI w v xs := h.wide (Nat.zero_le _) hh
/-- Three slices, for what the letters stand for. -/
def RdV (w : World) (v : Value) (V : List (List Int)) : Prop := ∃ vs, Sl 1 0 w.heap.size w v 3 vs ∧ ∀ k, k < 3 → ∃ u, vs[k]? = some u ∧ RdI w u (V.getD k [])
theorem RdV.below {w w' : World} {v : Value} {V : List (List Int)} (h : RdV w v V) (hb : Below w.heap.size w w') : RdV w' v V := by
  obtain ⟨vs, h1, h2⟩ := h
  refine ⟨vs, (h1.below hb (Nat.le_refl _)).wide (Nat.le_refl _) hb.size, fun k hk => ?_⟩
  obtain ⟨u, h3, h4⟩ := h2 k hk
  exact ⟨u, h3, h4.below hb⟩
theorem RdV.get {w : World} {v : Value} {V : List (List Int)} (h : RdV w v V) :
    ∃ b off cap, v = .slice (some ⟨b, off, none⟩) 3 cap ∧ 3 ≤ cap ∧ cap ≤ maxLen ∧ b < w.heap.size ∧
      ∀ k, k < 3 → ∃ a c, w.cell? ⟨b, off + k, none⟩ = some (.slice a (V.getD k []).length c) ∧ RdI w (.slice a (V.getD k []).length c) (V.getD k []) := by
  obtain ⟨vs, ⟨a, cap, rfl, h1, h2, hl, hn, hc⟩, h3⟩ := h
  obtain ⟨b, off, rfl, _, hb, _, _⟩ := hc 0 (by omega)
  refine ⟨b, off, cap, rfl, h1, h2, hb, fun k hk => ?_⟩
  obtain ⟨b', off', e, _, _, _, h4⟩ := hc k (by omega)
  injection e with e
  injection e with e1 e2
  subst e1 e2
  obtain ⟨u, h5, h6⟩ := h3 k hk
  have h6' := h6
  obtain ⟨a', c', rfl, _⟩ := h6'.open
  exact ⟨a', c', by rw [h4, h5], h6⟩
/-- A slice and a truth come back. -/
def RetVB (P : Value → Bool → World → Prop) (e : Ending) (w' : World) : Prop := ∃ v b, e = .returned (.tuple #[v, .bool b]) ∧ P v b w'
/-- What l9Match leaves: a truth, and what the letters stand for. -/
def MatchR (w : World) (r : Option (List (List Int))) (v : Value) (ok : Bool) (w' : World) : Prop :=
  Below w.heap.size w w' ∧ ok = r.isSome ∧ ∃ V', GV V' ∧ RdV w' v V' ∧ ∀ V'', r = some V'' → V' = V''
theorem KT.post_root (t : KT) : ∃ m, t.post.length = m + 1 ∧ t.post[m]? = some t.root := by
  cases t with
  | leaf n => exact ⟨0, rfl, rfl⟩
  | star t => exact ⟨t.post.length, by simp [KT.post], by simp [KT.post, KT.root]⟩
  | bin p a b => exact ⟨(a.post ++ b.post).length, by simp [KT.post]; omega, by simp [KT.post, KT.root]⟩
/-- An expression's slice, with its last step. -/
theorem RdI.last {w : World} {v : Value} {t : KT} (h : RdI w v t.post) :
    ∃ b off cap m, v = .slice (some ⟨b, off, none⟩) (m + 1) cap ∧ t.size = m + 1 ∧ m + 1 ≤ cap ∧ cap ≤ maxLen ∧ b < w.heap.size ∧ w.cell? ⟨b, off + m, none⟩ = some (.int .i64 t.root) := by
  obtain ⟨m, hm, hr⟩ := t.post_root
  obtain ⟨a, cap, rfl, h1, h2, hc⟩ := h.open
  obtain ⟨b, off, rfl, _, hb, _, h4⟩ := hc m (by omega)
  rw [hm] at h1
  refine ⟨b, off, cap, m, by rw [hm], by rw [← t.post_length, hm], h1, h2, hb, ?_⟩
  rw [h4]
  rw [List.getElem?_eq_getElem (by omega)] at hr
  injection hr with hr
  rw [hr]
theorem MatchR.same {w w' : World} {v : Value} {V : List (List Int)} (hV : GV V) (hr : RdV w v V) (hb : Below w.heap.size w w') : MatchR w (some V) v true w' :=
  ⟨hb, rfl, V, hV, hr.below hb, fun V'' h => by injection h⟩
theorem MatchR.none {w w' : World} {v : Value} {V : List (List Int)} (hV : GV V) (hr : RdV w v V) (hb : Below w.heap.size w w') : MatchR w none v false w' :=
  ⟨hb, rfl, V, hV, hr.below hb, fun V'' h => by cases h⟩

end

section

theorem RdI.front {w : World} {b off n cap : Nat} {xs : List Int} {s : Int} (h : RdI w (.slice (some ⟨b, off, none⟩) n cap) (xs ++ [s])) : RdI w (.slice (some ⟨b, off, none⟩) xs.length cap) xs := by
  have h1 := SlI.sub h 0 xs.length (Nat.zero_le _) (by simp)
  simp only [Nat.add_zero, Nat.sub_zero, List.drop_zero, List.take_left] at h1
  exact h1
theorem MatchR.from {w w1 w' : World} {r : Option (List (List Int))} {v : Value} {ok : Bool} (hb : Below w.heap.size w w1) (h : MatchR w1 r v ok w') : MatchR w r v ok w' :=
  ⟨hb.trans (h.1.mono hb.size), h.2⟩

end

section

theorem matchT_bin {q r : Bool} (a b c d : KT) (V : List (List Int)) : matchT (.bin q a b) (.bin r c d) V = if q = r then (matchT a c V).bind (matchT b d) else none := by rw [matchT]
end

section

theorem fillT_end (xs : List Int) (V : List (List Int)) (k : Nat) (h : xs.length ≤ k) : fillT (xs.drop k) V = some [] := by rw [List.drop_of_length_le h]; rfl
theorem fillT_step (xs : List Int) (V : List (List Int)) (k : Nat) (h : k < xs.length) :
    fillT (xs.drop k) V = if 0 ≤ xs[k] then (fillT (xs.drop (k + 1)) V).map (xs[k] :: ·) else if V.getD (varK xs[k]) [] = [] then none else (fillT (xs.drop (k + 1)) V).map (V.getD (varK xs[k]) [] ++ ·) := by
  rw [List.drop_eq_getElem_cons h, fillT]
/-- What l9Fill leaves. -/
def FillR (w : World) (r : Option (List Int)) (v : Value) (ok : Bool) (w' : World) : Prop :=
  Below w.heap.size w w' ∧ ok = r.isSome ∧ (∃ l, SlI w.heap.size w'.heap.size w' v l) ∧ ∀ out, r = some out → OwnI w.heap.size w'.heap.size 3 w' v out

end

section

/-- A move of an expression. -/
def zeroV : List (List Int) := [[], [], []]
def moveAt (e : List Int) (m : Mv) : Option (List Int) :=
  let k := m.at_.toNat
  let c := (spanO (e.take (k + 1)).reverse 1).getD 0
  ((matchT (treeOf (ruleS m.which.toNat (!m.back))) (treeOf ((e.drop (k + 1 - c)).take c)) zeroV).bind (fillT (ruleS m.which.toNat m.back))).bind fun part =>
    if (e.take (k + 1 - c) ++ part ++ e.drop (k + 1)).length ≤ 40 then some (e.take (k + 1 - c) ++ part ++ e.drop (k + 1)) else none
def moveV (e : List Int) (m : Mv) : Option (List Int) :=
  if katV e && isR m.which && inB m.at_ 0 (e.length - 1) then moveAt e m else none
theorem moveV_kat {e : List Int} {m : Mv} (h : katV e = false) : moveV e m = none := by simp [moveV, h]
theorem moveV_rule {e : List Int} {m : Mv} (h : isR m.which = false) : moveV e m = none := by simp [moveV, h]
theorem moveV_at {e : List Int} {m : Mv} (h : inB m.at_ 0 (e.length - 1) = false) : moveV e m = none := by simp [moveV, h]
theorem take_mid (a b c : List Int) : ((a ++ b ++ c).drop a.length).take b.length = b := by simp
/-- The move at a step of a valid expression: which part it is, and what it becomes. -/
structure MoveO (e : List Int) (m : Mv) (k : Nat) (pre rest : List Int) (t : KT) (p : KT) (q : List Int) : Prop where
  eq : e = pre ++ t.post ++ rest
  keq : pre.length + t.size = k + 1
  ok : t.ok 0 = true
  sz : t.size ≤ 40
  span : spanO (e.take (k + 1)).reverse 1 = some t.size
  pok : p.ok (-3) = true
  psz : p.size ≤ 40
  from_ : p.post = ruleS m.which.toNat (!m.back)
  to_ : q = ruleS m.which.toNat m.back
  qlo : ∀ i (h : i < q.length), -3 ≤ q[i]
  ql : q.length ≤ 40
  el : e.length ≤ 40
  mv : moveV e m = ((matchT p t zeroV).bind (fillT q)).bind fun part => if (pre ++ part ++ rest).length ≤ 40 then some (pre ++ part ++ rest) else none
  val : ∀ V part, matchT p t zeroV = some V → fillT q V = some part → 1 ≤ part.length ∧ part.length ≤ 1600 ∧ katV (pre ++ part ++ rest) = decide ((pre ++ part ++ rest).length ≤ 40)
theorem ok_post_lo {lo : Int} (hlo : lo ≤ 0) : ∀ (t : KT), t.ok lo = true → ∀ x ∈ t.post, lo ≤ x
  | .leaf n, h, x, hx => by
    simp only [KT.ok, Bool.and_eq_true, decide_eq_true_eq] at h
    simp only [KT.post, List.mem_singleton] at hx
    omega
  | .star t, h, x, hx => by
    simp only [KT.ok] at h
    simp only [KT.post, List.mem_append, List.mem_singleton] at hx
    rcases hx with hx | hx
    · exact ok_post_lo hlo t h x hx
    · omega
  | .bin p a b, h, x, hx => by
    simp only [KT.ok, Bool.and_eq_true] at h
    simp only [KT.post, List.mem_append, List.mem_singleton] at hx
    rcases hx with (hx | hx) | hx
    · exact ok_post_lo hlo a h.1 x hx
    · exact ok_post_lo hlo b h.2 x hx
    · have : 19 ≤ x := by cases p <;> simp [KT.op] at hx <;> omega
      omega
theorem move_open {e : List Int} {m : Mv} {k : Nat} (hv : katV e = true) (hr : isR m.which = true) (hk : m.at_ = k) (hlt : k < e.length) :
    ∃ pre rest t p q, MoveO e m k pre rest t p q := by
  obtain ⟨pre, rest, t, h1, h2, h3, h4, h5⟩ := part_at hv k hlt
  have hn : m.which.toNat < 21 := by simp [isR, inB] at hr; omega
  obtain ⟨r1, r2, r3⟩ := rule_tree _ hn (!m.back)
  obtain ⟨s1, s2, s3⟩ := rule_tree _ hn m.back
  have hin : inB m.at_ 0 (e.length - 1) = true := by simp [inB, hk]; omega
  have hel : e.length ≤ 40 := by
    simp only [katV, Bool.and_eq_true, decide_eq_true_eq] at hv
    exact hv.1.2
  have hb : k + 1 - t.size = pre.length := by omega
  have ht1 : e.take (k + 1 - t.size) = pre := by rw [hb, h1, List.append_assoc, List.take_left]
  have ht2 : (e.drop (k + 1 - t.size)).take t.size = t.post := by rw [hb, h1, ← t.post_length, take_mid]
  have ht3 : e.drop (k + 1) = rest := by
    have : k + 1 = (pre ++ t.post).length := by rw [List.length_append, t.post_length]; omega
    rw [this, h1, List.drop_left]
  refine ⟨pre, rest, t, treeOf (ruleS m.which.toNat (!m.back)), ruleS m.which.toNat m.back, ⟨h1, h2, h3, h4, h5, r1, by rw [← KT.post_length, r2]; exact r3, r2, rfl, ?_, s3, hel, ?_, ?_⟩⟩
  · intro i h
    have hm := List.getElem_mem h
    have ha := ok_post_lo (by decide) _ s1
    rw [s2] at ha
    exact ha _ hm
  · rw [moveV, hv, hr, hin]
    simp only [Bool.and_self, if_true]
    unfold moveAt
    simp only [hk, Int.toNat_natCast, h5, Option.getD_some, ht1, ht2, ht3, treeOf_post h3]
  · intro V part g1 g2
    have hV := matchT_good _ t _ V h3 h4 GV.zero g1
    have hl := fillT_len V hV _ _ g2
    rw [← s2] at g2
    obtain ⟨t', g3, g4⟩ := fillT_good V hV _ _ s1 g2
    subst g4
    have := t'.size_pos
    refine ⟨by rw [t'.post_length]; omega, by omega, katV_swap h3 g3 (by rw [← h1]; exact hv)⟩
end
end Go.Proofs.Ytoondakdjhhehaa
