/-
  Texts of walks and plain lemmas for this seat; no condition.
-/
import Derived.Test.YtoondakdjhhehaaStepApp
import Derived.Test.YtoondakdjhhehaaGD
import Derived.Test.YtoondakdjhhehaaGC
import Derived.Test.YtoondakdjhhehaaGF
import Derived.Deep.RegionHeldLaw
import Derived.Deep.RegionHeld3
import Derived.Deep.RegionWith
namespace Go.Proofs.Ytoondakdjhhehaa
open Go.RowKit
section


/-- What MoveDo leaves. -/
def MoveR (w : World) (r : Option (List Int)) (v : Value) (ok : Bool) (w' : World) : Prop :=
  Below w.heap.size w w' ∧ ok = r.isSome ∧ OwnI w.heap.size w'.heap.size 3 w' v (r.getD [])
theorem MoveR.fail {w w' : World} (hb : Below w.heap.size w w') : MoveR w none (.slice (some ⟨w'.heap.size, 0, none⟩) 0 0) false (w'.alloc (.cells #[] 3)) :=
  ⟨hb.alloc hb.size _, rfl, Own.wide2 (Own.lit 1 3 w' (ints []) 0 (by omega) rfl) hb.size (by simp)⟩
/-- Nothing stands for the letters yet: three empty rows. -/
theorem rdV_zero (w : World) (w' : World) (b : Nat) (hb : Blk b (.cells #[.slice (some ⟨w.heap.size, 0, none⟩) 0 0, .slice (some ⟨w.heap.size + 1, 0, none⟩) 0 0, .slice (some ⟨w.heap.size + 2, 0, none⟩) 0 0] 23) w') :
    RdV w' (.slice (some ⟨b, 0, none⟩) 3 3) zeroV := by
  refine ⟨[.slice (some ⟨w.heap.size, 0, none⟩) 0 0, .slice (some ⟨w.heap.size + 1, 0, none⟩) 0 0, .slice (some ⟨w.heap.size + 2, 0, none⟩) 0 0], ⟨some ⟨b, 0, none⟩, 3, rfl, by omega, by decide, rfl, (by intro h; cases h), fun i hi => ?_⟩, fun k hk => ?_⟩
  · refine ⟨b, 0, rfl, Nat.zero_le _, hb.lt, hb.lt, ?_⟩
    rw [Nat.zero_add, hb.cell]
    simp
  · match k, hk with
    | 0, _ => exact ⟨_, rfl, _, 0, rfl, Nat.le_refl _, by decide, rfl, (by intro h; cases h), fun i hi => by simp [ints, zeroV] at hi⟩
    | 1, _ => exact ⟨_, rfl, _, 0, rfl, Nat.le_refl _, by decide, rfl, (by intro h; cases h), fun i hi => by simp [ints, zeroV] at hi⟩
    | 2, _ => exact ⟨_, rfl, _, 0, rfl, Nat.le_refl _, by decide, rfl, (by intro h; cases h), fun i hi => by simp [ints, zeroV] at hi⟩

end

section

theorem fill_mono {V V' : List (List Int)} (hm : ∀ i, V.getD i [] ≠ [] → V'.getD i [] = V.getD i []) : ∀ (l x : List Int), fillT l V = some x → fillT l V' = some x
  | [], x, h => h
  | s :: r, x, h => by
    rw [fillT] at h ⊢
    split at h
    · rename_i hs
      rw [if_pos hs]
      obtain ⟨y, h1, h2⟩ := Option.map_eq_some_iff.1 h
      rw [fill_mono hm r y h1, ← h2]
      rfl
    · rename_i hs
      rw [if_neg hs]
      split at h
      · cases h
      · rename_i hv
        rw [hm _ hv, if_neg hv]
        obtain ⟨y, h1, h2⟩ := Option.map_eq_some_iff.1 h
        rw [fill_mono hm r y h1, ← h2]
        rfl
/-- What was matched is what the pattern becomes when it is filled. -/
theorem match_fill : ∀ (p t : KT) (V V' : List (List Int)), V.length = 3 → p.ok (-3) = true → t.ok 0 = true → matchT p t V = some V' →
    V'.length = 3 ∧ (∀ i, V.getD i [] ≠ [] → V'.getD i [] = V.getD i []) ∧ fillT p.post V' = some t.post
  | .leaf n, t, V, V', hV, hp, ht, h => by
    simp only [KT.ok, Bool.and_eq_true, decide_eq_true_eq] at hp
    rw [matchT] at h
    split at h
    · rename_i hn
      have hk : varK n < 3 := by unfold varK; omega
      have hn0 : ¬ 0 ≤ n := by omega
      split at h
      · rename_i h0
        injection h with h
        subst h
        have hg : (V.set (varK n) t.post).getD (varK n) [] = t.post := by simp [List.getD, hV, hk]
        refine ⟨by simp [hV], fun i hi => ?_, ?_⟩
        · have hne : varK n ≠ i := by intro e; subst e; exact hi h0
          simp [List.getD, List.getElem?_set_ne hne]
        · simp only [KT.post, fillT, if_neg hn0, hg, if_neg t.post_ne]
          simp
      · rename_i h0
        split at h
        · rename_i h1
          injection h with h
          subst h
          refine ⟨hV, fun i _ => rfl, ?_⟩
          simp only [KT.post, fillT, if_neg hn0, h1, if_neg t.post_ne]
          simp
        · cases h
    · rename_i hn
      split at h
      · rename_i hr
        injection h with h
        subst h
        refine ⟨hV, fun i _ => rfl, ?_⟩
        have hn0 : 0 ≤ n := by omega
        cases t with
        | leaf m => simp only [KT.root] at hr; subst hr; simp [KT.post, fillT, hn0]
        | star _ => simp only [KT.root] at hr; omega
        | bin q _ _ => simp only [KT.root] at hr; cases q <;> simp [KT.op] at hr <;> omega
      · cases h
  | .star p, t, V, V', hV, hp, ht, h => by
    simp only [KT.ok] at hp
    cases t with
    | star t' =>
      simp only [matchT] at h
      simp only [KT.ok] at ht
      obtain ⟨h1, h2, h3⟩ := match_fill p t' V V' hV hp ht h
      refine ⟨h1, h2, ?_⟩
      simp only [KT.post, fillT_append, h3]
      simp [fillT]
    | leaf _ => simp [matchT] at h
    | bin _ _ _ => simp [matchT] at h
  | .bin q a b, t, V, V', hV, hp, ht, h => by
    simp only [KT.ok, Bool.and_eq_true] at hp
    cases t with
    | bin r c d =>
      simp only [matchT] at h
      simp only [KT.ok, Bool.and_eq_true] at ht
      split at h
      · rename_i hq
        subst hq
        rw [Option.bind_eq_some_iff] at h
        obtain ⟨V1, g1, g2⟩ := h
        obtain ⟨h1, h2, h3⟩ := match_fill a c V V1 hV hp.1 ht.1 g1
        obtain ⟨k1, k2, k3⟩ := match_fill b d V1 V' h1 hp.2 ht.2 g2
        refine ⟨k1, fun i hi => ?_, ?_⟩
        · rw [k2 i (by rw [h2 i hi]; exact hi), h2 i hi]
        · have hq0 : 0 ≤ KT.op q := by cases q <;> simp [KT.op]
          simp only [KT.post, fillT_append, fill_mono k2 _ _ h3, k3]
          simp [fillT, hq0]
      · cases h
    | leaf _ => simp [matchT] at h
    | star _ => simp [matchT] at h

/-- The rules that make an expression shorter. -/
def easyN : List Nat := [2, 3, 5, 6, 7, 8, 15, 16, 17, 18, 19]
theorem easy_sides : ∀ n ∈ easyN, ∀ V t part, V.length = 3 → fillT (ruleS n true) V = some t → fillT (ruleS n false) V = some part → part.length < t.length := by
  have e2 : ruleS 2 true = [-1, -1, 20] ∧ ruleS 2 false = [-1] := by decide +kernel
  have e3 : ruleS 3 true = [-1, 0, 20] ∧ ruleS 3 false = [-1] := by decide +kernel
  have e5 : ruleS 5 true = [15, -1, 19] ∧ ruleS 5 false = [-1] := by decide +kernel
  have e6 : ruleS 6 true = [-1, 15, 19] ∧ ruleS 6 false = [-1] := by decide +kernel
  have e7 : ruleS 7 true = [0, -1, 19] ∧ ruleS 7 false = [0] := by decide +kernel
  have e8 : ruleS 8 true = [-1, 0, 19] ∧ ruleS 8 false = [0] := by decide +kernel
  have e15 : ruleS 15 true = [-1, 21, 21] ∧ ruleS 15 false = [-1, 21] := by decide +kernel
  have e16 : ruleS 16 true = [-1, 21, -1, 21, 19] ∧ ruleS 16 false = [-1, 21] := by decide +kernel
  have e17 : ruleS 17 true = [0, 21] ∧ ruleS 17 false = [15] := by decide +kernel
  have e18 : ruleS 18 true = [15, 21] ∧ ruleS 18 false = [15] := by decide +kernel
  have e19 : ruleS 19 true = [15, -1, 20, 21] ∧ ruleS 19 false = [-1, 21] := by decide +kernel
  intro n hn V t part hV h1 h2
  obtain ⟨X, Y, Z, rfl⟩ : ∃ X Y Z, V = [X, Y, Z] := by
    match V, hV with
    | [X, Y, Z], _ => exact ⟨X, Y, Z, rfl⟩
  have hl : X ≠ [] → 0 < X.length := fun h => List.length_pos_iff.2 h
  simp only [easyN, List.mem_cons, List.mem_nil_iff, or_false] at hn
  by_cases hX : X = []
  · subst hX
    rcases hn with rfl | rfl | rfl | rfl | rfl | rfl | rfl | rfl | rfl | rfl | rfl
    all_goals simp [fillT, varK, e2, e3, e5, e6, e7, e8, e15, e16, e17, e18, e19] at h1 h2
    all_goals (subst h1; subst h2; simp)
  · have hp := hl hX
    rcases hn with rfl | rfl | rfl | rfl | rfl | rfl | rfl | rfl | rfl | rfl | rfl
    all_goals simp [fillT, varK, e2, e3, e5, e6, e7, e8, e15, e16, e17, e18, e19, hX] at h1 h2
    all_goals (subst h1; subst h2; simp; try omega)

theorem moveV_open {e e' : List Int} {m : Mv} (h : moveV e m = some e') : katV e = true ∧ isR m.which = true ∧ inB m.at_ 0 (e.length - 1) = true ∧ moveAt e m = some e' := by
  unfold moveV at h
  split at h
  · rename_i hc
    simp only [Bool.and_eq_true] at hc
    exact ⟨hc.1.1, hc.1.2, hc.2, h⟩
  · cases h
/-- What a move leads to, opened. -/
theorem moveV_some {e e' : List Int} {m : Mv} (h : moveV e m = some e') :
    ∃ k pre rest t p q V part, MoveO e m k pre rest t p q ∧ m.at_ = k ∧ k < e.length ∧ matchT p t zeroV = some V ∧ fillT q V = some part ∧ e' = pre ++ part ++ rest ∧ e'.length ≤ 40 ∧ katV e' = true := by
  obtain ⟨h1, h2, h3, h4⟩ := moveV_open h
  simp only [inB, Bool.and_eq_true, decide_eq_true_eq] at h3
  obtain ⟨k, hk⟩ : ∃ k : Nat, m.at_ = k := ⟨m.at_.toNat, by omega⟩
  have hlt : k < e.length := by omega
  obtain ⟨pre, rest, t, p, q, hM⟩ := move_open h1 h2 hk hlt
  rw [hM.mv] at h
  rw [Option.bind_eq_some_iff] at h
  obtain ⟨part, g1, g2⟩ := h
  rw [Option.bind_eq_some_iff] at g1
  obtain ⟨V, g3, g4⟩ := g1
  split at g2
  · rename_i hl
    injection g2 with g2
    subst g2
    refine ⟨k, pre, rest, t, p, q, V, part, hM, hk, hlt, g3, g4, rfl, hl, ?_⟩
    rw [(hM.val V part g3 g4).2.2]
    exact decide_eq_true hl
  · cases g2
theorem moveV_kat' {e e' : List Int} {m : Mv} (h : moveV e m = some e') : katV e' = true := by
  obtain ⟨_, _, _, _, _, _, _, _, _, _, _, _, _, _, _, h⟩ := moveV_some h
  exact h
theorem easy_shorter {e e' : List Int} {m : Mv} (hb : m.back = false) (hn : m.which.toNat ∈ easyN) (h : moveV e m = some e') : e'.length < e.length := by
  obtain ⟨k, pre, rest, t, p, q, V, part, hM, hk, hlt, g3, g4, rfl, _, _⟩ := moveV_some h
  have h1 := (match_fill p t zeroV V rfl hM.pok hM.ok g3)
  have h2 := h1.2.2
  rw [hM.from_, hb] at h2
  rw [hM.to_, hb] at g4
  have := easy_sides _ hn V _ _ h1.1 h2 g4
  rw [hM.eq]
  simp only [List.length_append]
  omega

/-- The moves that are tried, in order. -/
def easyMv (e : List Int) : List Mv := (List.range e.length).flatMap fun at_ => easyN.map fun n => ⟨(n : Nat), false, (at_ : Nat)⟩
def tryMv (e : List Int) : List Mv → Option (Mv × List Int)
  | [] => none
  | m :: r => match moveV e m with
    | some x => some (m, x)
    | none => tryMv e r
def firstEasy (e : List Int) : Option (Mv × List Int) := tryMv e (easyMv e)
theorem tryMv_append (e : List Int) : ∀ a b, tryMv e (a ++ b) = match tryMv e a with | some x => some x | none => tryMv e b
  | [], b => rfl
  | m :: r, b => by
    simp only [List.cons_append, tryMv]
    cases moveV e m with
    | some x => rfl
    | none => exact tryMv_append e r b
theorem tryMv_some {e : List Int} : ∀ {l : List Mv} {m : Mv} {x : List Int}, tryMv e l = some (m, x) → m ∈ l ∧ moveV e m = some x
  | [], m, x, h => by cases h
  | c :: r, m, x, h => by
    rw [tryMv] at h
    cases hc : moveV e c with
    | some y =>
      rw [hc] at h
      injection h with h
      injection h with h1 h2
      subst h1 h2
      exact ⟨List.mem_cons_self .., hc⟩
    | none =>
      rw [hc] at h
      obtain ⟨h1, h2⟩ := tryMv_some h
      exact ⟨List.mem_cons_of_mem _ h1, h2⟩
theorem mem_easyMv {e : List Int} {m : Mv} (h : m ∈ easyMv e) : m.back = false ∧ m.which.toNat ∈ easyN ∧ ∃ k : Nat, m.at_ = k ∧ k < e.length := by
  simp only [easyMv, List.mem_flatMap, List.mem_range, List.mem_map] at h
  obtain ⟨k, hk, n, hn, rfl⟩ := h
  exact ⟨rfl, hn, k, rfl, hk⟩
theorem firstEasy_some {e x : List Int} {m : Mv} (h : firstEasy e = some (m, x)) : moveV e m = some x ∧ m.back = false ∧ x.length < e.length ∧ katV x = true := by
  obtain ⟨h1, h2⟩ := tryMv_some h
  obtain ⟨h3, h4, _⟩ := mem_easyMv h1
  exact ⟨h2, h3, easy_shorter h3 h4 h2, moveV_kat' h2⟩
/-- Made simpler: the moves, and what they lead to. -/
def simpR : Nat → List Int → List Mv × List Int
  | 0, e => ([], e)
  | n + 1, e => match firstEasy e with
    | none => ([], e)
    | some (m, x) => (m :: (simpR n x).1, (simpR n x).2)
def simpM (e : List Int) : List Mv × List Int := simpR e.length e
theorem simpR_nil : ∀ n, simpR n [] = ([], [])
  | 0 => rfl
  | n + 1 => by simp [simpR, firstEasy, easyMv, tryMv]
theorem simpR_two : ∀ (n : Nat) (e : List Int), e.length ≤ n → ∀ n', e.length ≤ n' → simpR n e = simpR n' e
  | 0, e, h, n', _ => by
    obtain rfl := List.eq_nil_of_length_eq_zero (show e.length = 0 by omega)
    rw [simpR_nil, simpR_nil]
  | n + 1, e, h, 0, h' => by
    obtain rfl := List.eq_nil_of_length_eq_zero (show e.length = 0 by omega)
    rw [simpR_nil, simpR_nil]
  | n + 1, e, h, n' + 1, h' => by
    rw [simpR, simpR]
    cases hf : firstEasy e with
    | none => rfl
    | some p =>
      obtain ⟨m, x⟩ := p
      obtain ⟨_, _, hx, _⟩ := firstEasy_some hf
      simp only [simpR_two n x (by omega) n' (by omega)]
theorem simpM_none {e : List Int} (h : firstEasy e = none) : simpM e = ([], e) := by
  unfold simpM
  cases hl : e.length with
  | zero => rfl
  | succ k => rw [simpR, h]
theorem simpM_some {e x : List Int} {m : Mv} (h : firstEasy e = some (m, x)) : simpM e = (m :: (simpM x).1, (simpM x).2) := by
  obtain ⟨_, _, hx, _⟩ := firstEasy_some h
  unfold simpM
  cases hl : e.length with
  | zero => omega
  | succ k =>
    rw [simpR, h]
    simp only [simpR_two k x (by omega) x.length (Nat.le_refl _)]
theorem simpM_bd : ∀ (n : Nat) (e : List Int), e.length ≤ n → (simpM e).1.length + (simpM e).2.length ≤ e.length
  | 0, e, h => by
    obtain rfl := List.eq_nil_of_length_eq_zero (show e.length = 0 by omega)
    simp [simpM, simpR]
  | n + 1, e, h => by
    cases hf : firstEasy e with
    | none => rw [simpM_none hf]; simp
    | some p =>
      obtain ⟨m, x⟩ := p
      obtain ⟨_, _, hx, _⟩ := firstEasy_some hf
      rw [simpM_some hf]
      have := simpM_bd n x (by omega)
      simp
      omega
/-- A run of moves. -/
def runM : List Int → List Mv → Option (List Int)
  | e, [] => some e
  | e, m :: r => (moveV e m).bind fun x => runM x r
def proofV (e : List Int) (ms : List Mv) : Option (List Int) := if katV e && decide (ms.length ≤ 60) then runM e ms else none
theorem runM_append : ∀ (a b : List Mv) (e : List Int), runM e (a ++ b) = (runM e a).bind fun x => runM x b
  | [], b, e => rfl
  | m :: r, b, e => by
    simp only [List.cons_append, runM, Option.bind_assoc]
    congr 1
    funext x
    exact runM_append r b x
theorem runM_kat : ∀ (ms : List Mv) (e x : List Int), katV e = true → runM e ms = some x → katV x = true
  | [], e, x, h, hr => by injection hr with hr; subst hr; exact h
  | m :: r, e, x, h, hr => by
    rw [runM, Option.bind_eq_some_iff] at hr
    obtain ⟨y, h1, h2⟩ := hr
    exact runM_kat r y x (moveV_kat' h1) h2
theorem runM_simpM : ∀ (n : Nat) (e : List Int), e.length ≤ n → runM e (simpM e).1 = some (simpM e).2
  | 0, e, h => by
    obtain rfl := List.eq_nil_of_length_eq_zero (show e.length = 0 by omega)
    simp [simpM, simpR, runM]
  | n + 1, e, h => by
    cases hf : firstEasy e with
    | none => rw [simpM_none hf]; rfl
    | some p =>
      obtain ⟨m, x⟩ := p
      obtain ⟨h1, _, hx, _⟩ := firstEasy_some hf
      rw [simpM_some hf]
      simp only [runM, h1, Option.bind_some]
      exact runM_simpM n x (by omega)
theorem kat_len {e : List Int} (h : katV e = true) : 1 ≤ e.length ∧ e.length ≤ 40 := by
  simp only [katV, Bool.and_eq_true, decide_eq_true_eq] at h
  exact h.1
theorem proofV_simpM {e : List Int} (h : katV e = true) : proofV e (simpM e).1 = some (simpM e).2 := by
  have h1 := simpM_bd _ e (Nat.le_refl _)
  have h2 := (kat_len h).2
  unfold proofV
  rw [h, decide_eq_true (by omega), runM_simpM _ e (Nat.le_refl _)]
  rfl
theorem proofV_kat {e x : List Int} {ms : List Mv} (h : proofV e ms = some x) : katV x = true := by
  unfold proofV at h
  split at h
  · rename_i hc
    simp only [Bool.and_eq_true] at hc
    exact runM_kat ms e x hc.1 h
  · cases h
end

section

theorem RuleOwn.rd {lo hi : Nat} {w : World} {a b : Value} {L R : List Int} (h : RuleOwn lo hi w a b L R) (hh : hi ≤ w.heap.size) : RdI w a L ∧ RdI w b R := by
  obtain ⟨m, h1, h2, h3, h4⟩ := h
  exact ⟨h3.sl.wide (Nat.zero_le _) (by omega), h4.sl.wide (Nat.zero_le _) hh⟩

end
end Go.Proofs.Ytoondakdjhhehaa
