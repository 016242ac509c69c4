/-
  Texts of walks and plain lemmas for this seat; no condition.
-/
import Derived.Test.YtadihfjmgckdaaaGreatDoorGD
import Derived.Test.YtadihfjmgckdaaaGreatDoorGH
import Derived.Test.YtadihfjmgckdaaaGreatDoorGO
namespace Go.Proofs.YtadihfjmgckdaaaGreatDoor
open Go.RowKit

/-- Again and again. -/
inductive Star {σ : Type} (R : σ → σ → Prop) : σ → σ → Prop where
  | refl (s : σ) : Star R s s
  | step {s u t : σ} : R s u → Star R u t → Star R s t
namespace Star
variable {σ : Type} {R S : σ → σ → Prop}
theorem one {s t : σ} (h : R s t) : Star R s t := .step h (.refl _)
theorem trans {s u t : σ} (h : Star R s u) (k : Star R u t) : Star R s t := by
  induction h with
  | refl => exact k
  | step h1 _ ih => exact .step h1 (ih k)
theorem mono (hm : ∀ s t, R s t → S s t) {s t : σ} (h : Star R s t) : Star S s t := by
  induction h with
  | refl => exact .refl _
  | step h1 _ ih => exact .step (hm _ _ h1) ih
theorem flat (hm : ∀ s t, R s t → Star S s t) {s t : σ} (h : Star R s t) : Star S s t := by
  induction h with
  | refl => exact .refl _
  | step h1 _ ih => exact (hm _ _ h1).trans ih
theorem last {s t : σ} (h : Star R s t) : s = t ∨ ∃ u, Star R s u ∧ R u t := by
  induction h with
  | refl => exact .inl rfl
  | step h1 h2 ih =>
    rcases ih with rfl | ⟨u, h3, h4⟩
    · exact .inr ⟨_, .refl _, h1⟩
    · exact .inr ⟨u, .step h1 h3, h4⟩
end Star

/-- What an expression does, by what its leaves do. -/
def den {σ : Type} (L : Int → σ → σ → Prop) : KT → σ → σ → Prop
  | .leaf n => L n
  | .star t => Star (den L t)
  | .bin p a b => fun s t => if p then den L a s t ∨ den L b s t else ∃ u, den L a s u ∧ den L b u t
/-- The test 0 never holds, the test 15 always. -/
structure Leaves {σ : Type} (L : Int → σ → σ → Prop) : Prop where
  zero : ∀ s t, ¬ L 0 s t
  one : ∀ s t, L 15 s t ↔ s = t
theorem den_seq {σ : Type} (L : Int → σ → σ → Prop) (a b : KT) (s t : σ) : den L (.bin false a b) s t ↔ ∃ u, den L a s u ∧ den L b u t := by simp [den]
theorem den_or {σ : Type} (L : Int → σ → σ → Prop) (a b : KT) (s t : σ) : den L (.bin true a b) s t ↔ den L a s t ∨ den L b s t := by simp [den]
theorem den_star {σ : Type} (L : Int → σ → σ → Prop) (a : KT) (s t : σ) : den L (.star a) s t ↔ Star (den L a) s t := Iff.rfl
theorem den_leaf {σ : Type} (L : Int → σ → σ → Prop) (n : Int) (s t : σ) : den L (.leaf n) s t ↔ L n s t := Iff.rfl

/-- The sides of the rules, as trees. -/
def ruleK (n : Nat) (l : Bool) : KT :=
  let x : KT := .leaf (-1)
  let y : KT := .leaf (-2)
  let z : KT := .leaf (-3)
  let o : KT := .leaf 15
  let e : KT := .leaf 0
  let p := KT.bin true
  let s := KT.bin false
  match n with
  | 0 => if l then p (p x y) z else p x (p y z)
  | 1 => if l then p x y else p y x
  | 2 => if l then p x x else x
  | 3 => if l then p x e else x
  | 4 => if l then s (s x y) z else s x (s y z)
  | 5 => if l then s o x else x
  | 6 => if l then s x o else x
  | 7 => if l then s e x else e
  | 8 => if l then s x e else e
  | 9 => if l then s x (p y z) else p (s x y) (s x z)
  | 10 => if l then s (p x y) z else p (s x z) (s y z)
  | 11 => if l then p o (s x (.star x)) else .star x
  | 12 => if l then p o (s (.star x) x) else .star x
  | 13 => if l then s (.star (s x y)) x else s x (.star (s y x))
  | 14 => if l then .star (p x y) else s (.star x) (.star (s y (.star x)))
  | 15 => if l then .star (.star x) else .star x
  | 16 => if l then s (.star x) (.star x) else .star x
  | 17 => if l then .star e else o
  | 18 => if l then .star o else o
  | 19 => if l then .star (p o x) else .star x
  | _ => if l then p x (s x (.star y)) else s x (.star y)
theorem ruleK_post : ∀ n, n < 21 → ∀ l, (ruleK n l).post = ruleS n l ∧ (ruleK n l).ok (-3) = true := by decide +kernel

theorem den_rule {σ : Type} {L : Int → σ → σ → Prop} (hL : Leaves L) : ∀ n, n < 21 → ∀ s t : σ, den L (ruleK n true) s t ↔ den L (ruleK n false) s t := by
  intro n hn s t
  match n, hn with
  | 0, _ => simp only [ruleK, den, Bool.false_eq_true, if_false, if_true]; grind
  | 1, _ => simp only [ruleK, den, Bool.false_eq_true, if_false, if_true]; grind
  | 2, _ => simp only [ruleK, den, Bool.false_eq_true, if_false, if_true]; grind
  | 3, _ => have := hL.zero s t; simp only [ruleK, den, Bool.false_eq_true, if_false, if_true]; grind
  | 4, _ =>
    simp only [ruleK, den, Bool.false_eq_true, if_false, if_true]
    exact ⟨fun ⟨u, ⟨v, a, b⟩, c⟩ => ⟨v, a, u, b, c⟩, fun ⟨v, a, u, b, c⟩ => ⟨u, ⟨v, a, b⟩, c⟩⟩
  | 5, _ =>
    simp only [ruleK, den, Bool.false_eq_true, if_false, if_true, hL.one]
    exact ⟨fun ⟨u, a, b⟩ => a ▸ b, fun h => ⟨s, rfl, h⟩⟩
  | 6, _ =>
    simp only [ruleK, den, Bool.false_eq_true, if_false, if_true, hL.one]
    exact ⟨fun ⟨u, a, b⟩ => b ▸ a, fun h => ⟨t, h, rfl⟩⟩
  | 7, _ =>
    simp only [ruleK, den, Bool.false_eq_true, if_false, if_true]
    exact ⟨fun ⟨u, a, _⟩ => absurd a (hL.zero _ _), fun h => absurd h (hL.zero _ _)⟩
  | 8, _ =>
    simp only [ruleK, den, Bool.false_eq_true, if_false, if_true]
    exact ⟨fun ⟨u, _, a⟩ => absurd a (hL.zero _ _), fun h => absurd h (hL.zero _ _)⟩
  | 9, _ =>
    simp only [ruleK, den, Bool.false_eq_true, if_false, if_true]
    exact ⟨fun ⟨u, a, b⟩ => b.elim (fun b => .inl ⟨u, a, b⟩) (fun b => .inr ⟨u, a, b⟩), fun h => h.elim (fun ⟨u, a, b⟩ => ⟨u, a, .inl b⟩) (fun ⟨u, a, b⟩ => ⟨u, a, .inr b⟩)⟩
  | 10, _ =>
    simp only [ruleK, den, Bool.false_eq_true, if_false, if_true]
    exact ⟨fun ⟨u, a, b⟩ => a.elim (fun a => .inl ⟨u, a, b⟩) (fun a => .inr ⟨u, a, b⟩), fun h => h.elim (fun ⟨u, a, b⟩ => ⟨u, .inl a, b⟩) (fun ⟨u, a, b⟩ => ⟨u, .inr a, b⟩)⟩
  | 11, _ =>
    simp only [ruleK, den, Bool.false_eq_true, if_false, if_true, hL.one]
    constructor
    · rintro (rfl | ⟨u, a, b⟩)
      · exact .refl _
      · exact .step a b
    · intro h
      cases h with
      | refl => exact .inl rfl
      | step a b => exact .inr ⟨_, a, b⟩
  | 12, _ =>
    simp only [ruleK, den, Bool.false_eq_true, if_false, if_true, hL.one]
    constructor
    · rintro (rfl | ⟨u, a, b⟩)
      · exact .refl _
      · exact a.trans (.one b)
    · intro h
      rcases h.last with h | ⟨u, a, b⟩
      · exact .inl h
      · exact .inr ⟨u, a, b⟩
  | 13, _ =>
    simp only [ruleK, den, Bool.false_eq_true, if_false, if_true]
    constructor
    · rintro ⟨u, a, b⟩
      induction a with
      | refl => exact ⟨_, b, .refl _⟩
      | step h1 _ ih =>
        obtain ⟨v, c, d⟩ := h1
        obtain ⟨v', c', d'⟩ := ih b
        exact ⟨v, c, .step ⟨_, d, c'⟩ d'⟩
    · rintro ⟨u, a, b⟩
      induction b generalizing s with
      | refl => exact ⟨_, .refl _, a⟩
      | step h1 _ ih =>
        obtain ⟨v, c, d⟩ := h1
        obtain ⟨v', c', d'⟩ := ih v d
        exact ⟨v', .step ⟨_, a, c⟩ c', d'⟩
  | 14, _ =>
    simp only [ruleK, den, Bool.false_eq_true, if_false, if_true]
    constructor
    · intro h
      induction h with
      | refl => exact ⟨_, .refl _, .refl _⟩
      | step h1 _ ih =>
        obtain ⟨u, a, b⟩ := ih
        rcases h1 with h1 | h1
        · exact ⟨u, .step h1 a, b⟩
        · exact ⟨_, .refl _, .step ⟨_, h1, a⟩ b⟩
    · rintro ⟨u, a, b⟩
      refine (a.mono fun _ _ h => .inl h).trans (b.flat ?_)
      rintro v v' ⟨c, d, e⟩
      exact .step (.inr d) (e.mono fun _ _ h => .inl h)
  | 15, _ =>
    simp only [ruleK, den, Bool.false_eq_true, if_false, if_true]
    exact ⟨fun h => h.flat fun _ _ h => h, fun h => .one h⟩
  | 16, _ =>
    simp only [ruleK, den, Bool.false_eq_true, if_false, if_true]
    exact ⟨fun ⟨u, a, b⟩ => a.trans b, fun h => ⟨_, .refl _, h⟩⟩
  | 17, _ =>
    simp only [ruleK, den, Bool.false_eq_true, if_false, if_true, hL.one]
    constructor
    · intro h
      cases h with
      | refl => rfl
      | step a _ => exact absurd a (hL.zero _ _)
    · rintro rfl
      exact .refl _
  | 18, _ =>
    simp only [ruleK, den, Bool.false_eq_true, if_false, if_true, hL.one]
    constructor
    · intro h
      induction h with
      | refl => rfl
      | step a _ ih => exact ((hL.one _ _).1 a).trans ih
    · rintro rfl
      exact .refl _
  | 19, _ =>
    simp only [ruleK, den, Bool.false_eq_true, if_false, if_true]
    constructor
    · refine fun h => h.flat fun s t h => ?_
      rcases h with h | h
      · rw [(hL.one s t).1 h]; exact .refl _
      · exact .one h
    · exact fun h => h.mono fun _ _ h => .inr h
  | 20, _ =>
    simp only [ruleK, den, Bool.false_eq_true, if_false, if_true]
    exact ⟨fun h => h.elim (fun h => ⟨_, h, .refl _⟩) id, .inr⟩
  | n + 21, h => omega

/-- Trees with alike parts do alike. -/
theorem den_congr {σ : Type} {L L' : Int → σ → σ → Prop} (h : ∀ n s t, L n s t ↔ L' n s t) : ∀ (k : KT) (s t : σ), den L k s t ↔ den L' k s t
  | .leaf n, s, t => h n s t
  | .star k, s, t => ⟨Star.mono fun s t => (den_congr h k s t).1, Star.mono fun s t => (den_congr h k s t).2⟩
  | .bin p a b, s, t => by
    cases p
    · simp only [den_seq]
      exact ⟨fun ⟨u, x, y⟩ => ⟨u, (den_congr h a _ _).1 x, (den_congr h b _ _).1 y⟩, fun ⟨u, x, y⟩ => ⟨u, (den_congr h a _ _).2 x, (den_congr h b _ _).2 y⟩⟩
    · simp only [den_or, den_congr h a, den_congr h b]

/-- What the leaves do, the letters being what they stand for. -/
def fillL {σ : Type} (L : Int → σ → σ → Prop) (V : List (List Int)) (n : Int) : σ → σ → Prop := if n < 0 then den L (treeOf (V.getD (varK n) [])) else L n
theorem fillL_leaves {σ : Type} {L : Int → σ → σ → Prop} (hL : Leaves L) (V : List (List Int)) : Leaves (fillL L V) := ⟨hL.zero, hL.one⟩
theorem fill_den {σ : Type} (L : Int → σ → σ → Prop) (V : List (List Int)) (hV : GV V) : ∀ (p : KT) (out : List Int), p.ok (-3) = true → fillT p.post V = some out →
    ∃ t : KT, t.ok 0 = true ∧ t.post = out ∧ ∀ s u, den L t s u ↔ den (fillL L V) p s u
  | .leaf n, out, hp, h => by
    simp only [KT.ok, Bool.and_eq_true, decide_eq_true_eq] at hp
    simp only [KT.post, fillT] at h
    split at h
    · rename_i h0
      simp at h
      subst h
      refine ⟨.leaf n, by simp [KT.ok]; omega, rfl, fun s u => ?_⟩
      rw [den_leaf, den_leaf, fillL, if_neg (by omega)]
    · rename_i h0
      split at h
      · cases h
      · rename_i hne
        rw [Option.map_some, List.append_nil] at h
        injection h with h
        rcases hV.all (varK n) with h' | ⟨s, h1, h2, h3⟩
        · exact absurd h' hne
        · refine ⟨s, h1, by rw [h2, h], fun x u => ?_⟩
          rw [den_leaf, fillL, if_pos (by omega), ← h2, treeOf_post h1]
  | .star p, out, hp, h => by
    simp only [KT.ok] at hp
    simp only [KT.post] at h
    rw [fillT_append, Option.bind_eq_some_iff] at h
    obtain ⟨x, h1, h2⟩ := h
    obtain ⟨t, h3, h4, h5⟩ := fill_den L V hV p x hp h1
    simp [fillT] at h2
    subst h2
    refine ⟨.star t, h3, by simp [KT.post, h4], fun s u => ?_⟩
    exact ⟨Star.mono fun _ _ => (h5 _ _).1, Star.mono fun _ _ => (h5 _ _).2⟩
  | .bin q a b, out, hp, h => by
    simp only [KT.ok, Bool.and_eq_true] at hp
    simp only [KT.post] at h
    rw [fillT_append, fillT_append, Option.bind_eq_some_iff] at h
    obtain ⟨y, h0, h2⟩ := h
    rw [Option.bind_eq_some_iff] at h0
    obtain ⟨x, h1, h0⟩ := h0
    rw [Option.map_eq_some_iff] at h0
    obtain ⟨z, h5, rfl⟩ := h0
    obtain ⟨t, h3, h4, h6⟩ := fill_den L V hV a x hp.1 h1
    obtain ⟨t', h3', h4', h6'⟩ := fill_den L V hV b z hp.2 h5
    have hq : (0 : Int) ≤ KT.op q := by cases q <;> simp [KT.op]
    rw [fillT, if_pos hq] at h2
    simp [fillT] at h2
    subst h2
    refine ⟨.bin q t t', by simp [KT.ok, h3, h3'], by simp [KT.post, h4, h4'], fun s u => ?_⟩
    cases q
    · simp only [den_seq, h6, h6']
    · simp only [den_or, h6, h6']

/-- The relations of a list of steps, by a stack. -/
def stkD {σ : Type} (L : Int → σ → σ → Prop) : List KT → List (σ → σ → Prop) := List.map (den L)
theorem pushK_alike {σ : Type} (L : Int → σ → σ → Prop) : ∀ (st st' : List KT) (n : Int), stkD L st = stkD L st' → (pushK n st).map (stkD L) = (pushK n st').map (stkD L) := by
  intro st st' n h
  match st, st' with
  | [], [] => rfl
  | [], _ :: _ => simp [stkD] at h
  | _ :: _, [] => simp [stkD] at h
  | [a], [a'] =>
    simp only [stkD, List.map_cons, List.map_nil, List.cons.injEq, and_true] at h
    simp only [pushK]
    split
    · rfl
    · split <;> simp [stkD, den, h]
  | [_], _ :: _ :: _ => simp [stkD] at h
  | _ :: _ :: _, [_] => simp [stkD] at h
  | a :: b :: r, a' :: b' :: r' =>
    simp only [stkD, List.map_cons, List.cons.injEq] at h
    obtain ⟨h1, h2, h3⟩ := h
    simp only [pushK]
    split
    · simp [stkD, den, h1, h2, h3]
    · split <;> simp [stkD, den, h1, h2, h3]
theorem runK_alike {σ : Type} (L : Int → σ → σ → Prop) : ∀ (e : List Int) (st st' : List KT), stkD L st = stkD L st' → (runK e st).map (stkD L) = (runK e st').map (stkD L)
  | [], st, st', h => by simp [runK, h]
  | n :: e, st, st', h => by
    have hp := pushK_alike L st st' n h
    simp only [runK]
    cases h1 : pushK n st with
    | none =>
      cases h2 : pushK n st' with
      | none => rfl
      | some y => rw [h1, h2] at hp; simp at hp
    | some x =>
      cases h2 : pushK n st' with
      | none => rw [h1, h2] at hp; simp at hp
      | some y =>
        rw [h1, h2] at hp
        simp only [Option.map_some, Option.some.injEq] at hp
        exact runK_alike L e x y hp
/-- A part is put in the place of one that does alike. -/
theorem part_alike {σ : Type} (L : Int → σ → σ → Prop) {pre rest : List Int} {t t' : KT} (ht : t.ok 0 = true) (ht' : t'.ok 0 = true) (hd : ∀ s u, den L t s u ↔ den L t' s u)
    (h1 : katV (pre ++ t.post ++ rest) = true) (h2 : katV (pre ++ t'.post ++ rest) = true) (s u : σ) :
    den L (treeOf (pre ++ t.post ++ rest)) s u ↔ den L (treeOf (pre ++ t'.post ++ rest)) s u := by
  obtain ⟨a, _, ha, hra, _⟩ := katV_tree h1
  obtain ⟨b, _, hb, hrb, _⟩ := katV_tree h2
  have hq : den L t = den L t' := funext fun s => funext fun u => propext (hd s u)
  have key : (runK (pre ++ t.post ++ rest) []).map (stkD L) = (runK (pre ++ t'.post ++ rest) []).map (stkD L) := by
    rw [List.append_assoc, List.append_assoc, runK_append, runK_append]
    cases runK pre [] with
    | none => rfl
    | some st =>
      simp only [Option.bind_some]
      rw [runK_append, runK_append, runK_post 0 t ht, runK_post 0 t' ht']
      simp only [Option.bind_some]
      exact runK_alike L rest _ _ (by simp [stkD, hq])
  rw [hra, hrb] at key
  simp [stkD] at key
  rw [treeOf, treeOf, hra, hrb]
  simp only
  rw [key]
/-- A move changes nothing of what an expression does. -/
theorem moveV_den {σ : Type} {L : Int → σ → σ → Prop} (hL : Leaves L) {e e' : List Int} {m : Mv} (h : moveV e m = some e') (s u : σ) : den L (treeOf e) s u ↔ den L (treeOf e') s u := by
  have hk := (moveV_open h).1
  have hr := (moveV_open h).2.1
  have hn : m.which.toNat < 21 := by simp [isR, inB] at hr; omega
  obtain ⟨k, pre, rest, t, p, q, V, part, hM, _, _, h1, h2, rfl, _, h5⟩ := moveV_some h
  have hV : GV V := matchT_good p t zeroV V hM.ok hM.sz GV.zero h1
  have hf := (match_fill p t zeroV V rfl hM.pok hM.ok h1).2.2
  have hp1 : p = ruleK m.which.toNat (!m.back) := by
    rw [← treeOf_post hM.pok, hM.from_, ← (ruleK_post _ hn _).1, treeOf_post (ruleK_post _ hn _).2]
  have hq1 := (ruleK_post _ hn m.back)
  obtain ⟨t1, a1, a2, a3⟩ := fill_den L V hV p t.post hM.pok hf
  rw [hM.to_, ← hq1.1] at h2
  obtain ⟨t2, b1, b2, b3⟩ := fill_den L V hV _ part hq1.2 h2
  have ht1 : t1 = t := by rw [← treeOf_post a1, a2, treeOf_post hM.ok]
  subst ht1
  have hd : ∀ s u, den L t1 s u ↔ den L t2 s u := by
    intro s u
    rw [a3, b3, hp1]
    have := den_rule (fillL_leaves hL V) _ hn s u
    cases m.back
    · exact this
    · exact this.symm
  rw [hM.eq] at hk ⊢
  rw [← b2] at h5 ⊢
  exact part_alike L hM.ok b1 hd hk h5 s u
theorem runM_den {σ : Type} {L : Int → σ → σ → Prop} (hL : Leaves L) : ∀ (ms : List Mv) (e x : List Int), runM e ms = some x → ∀ s u, den L (treeOf e) s u ↔ den L (treeOf x) s u
  | [], e, x, h, s, u => by simp [runM] at h; rw [h]
  | m :: ms, e, x, h, s, u => by
    simp only [runM, Option.bind_eq_some_iff] at h
    obtain ⟨y, h1, h2⟩ := h
    rw [moveV_den hL h1, runM_den hL ms y x h2]
theorem proofV_den {σ : Type} {L : Int → σ → σ → Prop} (hL : Leaves L) {ms : List Mv} {e x : List Int} (h : proofV e ms = some x) (s u : σ) : den L (treeOf e) s u ↔ den L (treeOf x) s u := by
  unfold proofV at h
  split at h
  · exact runM_den hL ms e x h s u
  · cases h
theorem simpE_den {σ : Type} {L : Int → σ → σ → Prop} (hL : Leaves L) {e : List Int} (h : katV e = true) (s u : σ) : den L (treeOf e) s u ↔ den L (treeOf (simpE e)) s u := by
  have := proofV_den hL (proofV_simpM h) s u
  simp only [simpE, h, if_true]
  exact this
end Go.Proofs.YtadihfjmgckdaaaGreatDoor
