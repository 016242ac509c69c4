/-
  Texts of walks and plain lemmas for this seat; no condition.
-/
import Derived.Test.YtoondakdjhhehaaGZD
import Derived.Test.YtoondakdjhhehaaSCode
import Derived.Test.YtoondakdjhhehaaGQ
import Derived.Test.YtoondakdjhhehaaGB
import Derived.Test.YtoondakdjhhehaaGA
import Derived.Test.YtoondakdjhhehaaCRunI
import Derived.Test.YtoondakdjhhehaaCerP
import Derived.Test.YtoondakdjhhehaaCertI
import Derived.Test.YtoondakdjhhehaaTzK
import Derived.Deep.RegionHeldLaw
namespace Go.Proofs.Ytoondakdjhhehaa
open Go.RowKit
section
set_option linter.unusedVariables false

/-- A program as a value. -/
def vP : PT → Value
  | .one w => .iface 53 (.agg #[.int .i64 w])
  | .seq a b => .iface 55 (.agg #[vP a, vP b])
  | .ite t a b => .iface 57 (.agg #[.int .i64 t, vP a, vP b])
  | .wh t a => .iface 59 (.agg #[.int .i64 t, vP a])
theorem m_kat_one (f : Nat) (x : Value) (w : World) : (method (f + 1) 53 x "loop.example/kleenetests/impl.kat").run Try.prog w = .ok (85, x) w := by kernel_rfl
theorem m_kat_seq (f : Nat) (x : Value) (w : World) : (method (f + 1) 55 x "loop.example/kleenetests/impl.kat").run Try.prog w = .ok (88, x) w := by kernel_rfl
theorem m_kat_ite (f : Nat) (x : Value) (w : World) : (method (f + 1) 57 x "loop.example/kleenetests/impl.kat").run Try.prog w = .ok (94, x) w := by kernel_rfl
theorem m_kat_wh (f : Nat) (x : Value) (w : World) : (method (f + 1) 59 x "loop.example/kleenetests/impl.kat").run Try.prog w = .ok (99, x) w := by kernel_rfl
/-- The parts of a program's value, and its methods. -/
def tyP : PT → TypeId
  | .one _ => 53
  | .seq _ _ => 55
  | .ite _ _ _ => 57
  | .wh _ _ => 59
def rvP : PT → Value
  | .one w => .agg #[.int .i64 w]
  | .seq a b => .agg #[vP a, vP b]
  | .ite t a b => .agg #[.int .i64 t, vP a, vP b]
  | .wh t a => .agg #[.int .i64 t, vP a]
theorem vP_parts (T : PT) : vP T = .iface (tyP T) (rvP T) := by cases T <;> rfl
end

section
set_option linter.unusedVariables false

theorem info_prog : (Try.prog.info? 36).map (fun i => (i.zero, i.size, i.bytes)) = some (some .nilIface, 1, 16) := by kernel_rfl
/-- A stack of programs, the last one first, as a row of values. -/
def progs (st : List PT) : List Value := st.reverse.map vP
theorem progs_len (st : List PT) : (progs st).length = st.length := by simp [progs]
theorem progs_cons (t : PT) (st : List PT) : progs (t :: st) = progs st ++ [vP t] := by simp [progs]
theorem vP_one (t : PT) : (vP t).oneCell' = true := by cases t <;> rfl
/-- What readProgram returns. -/
def readW (p : List Int) : Value := if progV p then vP (treeP p) else .nilIface
theorem progV_run {p : List Int} : progV p = (decide (1 ≤ p.length) && decide (p.length ≤ 16) && match runP p [] with | some [_] => true | _ => false) := by
  rw [progV, show pdep p 0 = (runP p []).map (fun s => (s.length : Int)) from (pdep_run p [] (by intro t ht; cases ht)).1]
  congr 1
  match runP p [] with
  | none => rfl
  | some [] => rfl
  | some [_] => rfl
  | some (_ :: _ :: r) => simp; omega
theorem readW_none {p : List Int} (h : runP p [] = none) : readW p = .nilIface := by
  rw [readW, progV_run, h]; simp
theorem readW_len {p : List Int} (h : ¬ (1 ≤ p.length ∧ p.length ≤ 16)) : readW p = .nilIface := by
  rw [readW, progV_run, if_neg]
  simp; omega
theorem readW_one {p : List Int} {t : PT} (h1 : 1 ≤ p.length) (h2 : p.length ≤ 16) (h : runP p [] = some [t]) : readW p = vP t := by
  rw [readW, progV_run, h, treeP_of h]; simp [h1, h2]
theorem readW_many {p : List Int} {st : List PT} (h : runP p [] = some st) (hl : ¬ st.length = 1) : readW p = .nilIface := by
  rw [readW, progV_run, h]
  match st, hl with
  | [], _ => simp
  | [_], hl => simp at hl
  | _ :: _ :: _, _ => simp
theorem runP_take {e : List Int} (k : Nat) (hk : k < e.length) {st : List PT} (hs : runP (e.take k) [] = some st) : runP (e.take (k + 1)) [] = pushP e[k] st := by
  rw [List.take_add_one, List.getElem?_eq_getElem hk, runP_append, hs]
  simp only [Option.bind_some, Option.toList_some, runP]
  cases pushP e[k] st <;> rfl
theorem runP_stop {e : List Int} (k : Nat) (hk : k < e.length) {st : List PT} (hs : runP (e.take k) [] = some st) (hp : pushP e[k] st = none) : runP e [] = none := by
  have h := runP_take k hk hs
  rw [hp] at h
  have : e = e.take (k + 1) ++ e.drop (k + 1) := (List.take_append_drop _ _).symm
  rw [this, runP_append, h]; rfl
/-- What readProgram leaves behind a beginning of the words. -/
def ReadTo (w0 wr : World) (e : List Int) (k : Nat) (v : Value) (st : List PT) : Prop :=
  Own 1 w0.heap.size wr.heap.size 36 wr v st.length (progs st) ∧ Below w0.heap.size w0 wr ∧ runP (e.take k) [] = some st ∧ st.length ≤ k
theorem read_step {w0 wr w1 : World} {e : List Int} {k n cap : Nat} {a : Option Addr} {v : Value} {st st' : List PT} {xs : List Value} (h : ReadTo w0 wr e k v st) (hr : runP (e.take (k + 1)) [] = some st')
    (ho : Own 1 w0.heap.size w1.heap.size 36 w1 (.slice a n cap) n xs) (hx : xs = progs st') (hout : Outside w0.heap.size wr.heap.size wr w1) (hl : st'.length ≤ st.length + 1) : ReadTo w0 w1 e (k + 1) (.slice a n cap) st' := by
  have hn : n = st'.length := by
    have h1 := ho.1.1
    rw [hx, progs_len] at h1
    omega
  subst hn hx
  exact ⟨ho, Below.outside h.2.1 hout (Nat.le_refl _) (by have := h.2.1.size; omega), hr, by have := h.2.2.2; omega⟩
theorem read_two {w0 wr w5 : World} {e : List Int} {k n cap : Nat} {a : Option Addr} {v : Value} {st q : List PT} {t : PT} {u : Value} {o : Obj} (h : ReadTo w0 wr e k v st) (hr : runP (e.take (k + 1)) [] = some (t :: q)) (hl : q.length ≤ st.length)
    (ho : Own 1 w0.heap.size w5.heap.size 36 w5 (.slice a n cap) n (progs q ++ [u])) (hu : u = vP t) (hout : Outside w0.heap.size wr.heap.size (wr.alloc o).drew w5) : ReadTo w0 w5 e (k + 1) (.slice a n cap) (t :: q) := by
  subst hu
  have hb : Below wr.heap.size wr (wr.alloc o).drew := Below.drew (al_below _ _)
  exact read_step h hr ho (by rw [progs_cons]) ((Outside.of_below hb (Nat.le_refl _)).trans hout) (by simp; omega)
theorem own_cell {lo hi e n cap g : Nat} {w : World} {xs : List Value} (h : Own 1 lo hi e w (.slice (some ⟨g, 0, none⟩) n cap) n xs) (j : Nat) (hj : j < xs.length) : w.cell? ⟨g, j, none⟩ = some xs[j] := by
  have := h.1.cells (g := g) rfl j xs[j] (List.getElem?_eq_getElem hj)
  rwa [Addr.add_lit, Nat.zero_add] at this
/-- The last two programs of a stack. -/
theorem own_last {lo hi cap g : Nat} {w : World} {t : PT} {q : List PT} (h : Own 1 lo hi 36 w (.slice (some ⟨g, 0, none⟩) (q.length + 1) cap) (q.length + 1) (progs (t :: q))) : w.cell? ⟨g, q.length, none⟩ = some (vP t) := by
  have h1 := own_cell h q.length (by rw [progs_len]; simp)
  rw [h1]
  simp [progs]
theorem own_last2 {lo hi cap g : Nat} {w : World} {t u : PT} {q : List PT} (h : Own 1 lo hi 36 w (.slice (some ⟨g, 0, none⟩) (q.length + 1 + 1) cap) (q.length + 1 + 1) (progs (t :: u :: q))) : w.cell? ⟨g, q.length + 1, none⟩ = some (vP t) ∧ w.cell? ⟨g, q.length, none⟩ = some (vP u) := by
  have h1 := own_cell h (q.length + 1) (by rw [progs_len]; simp)
  have h2 := own_cell h q.length (by rw [progs_len]; simp; omega)
  rw [h1, h2]
  constructor
  · simp [progs]
  · simp [progs]
/-- What a word does to a stack. -/
theorem push_cases (s : Int) (st : List PT) : (15 ≤ s ∧ s ≤ 18 ∧ pushP s st = some (.one s :: st)) ∨ (s = 30 ∧ ∃ b a q, st = b :: a :: q ∧ pushP s st = some (.seq a b :: q)) ∨ (100 ≤ s ∧ s ≤ 115 ∧ ∃ b a q, st = b :: a :: q ∧ pushP s st = some (.ite (s - 100) a b :: q)) ∨
    (200 ≤ s ∧ s ≤ 215 ∧ ∃ a q, st = a :: q ∧ pushP s st = some (.wh (s - 200) a :: q)) ∨ (pushP s st = none ∧ ¬ (15 ≤ s ∧ s ≤ 18) ∧ (s = 30 → st.length < 2) ∧ (100 ≤ s ∧ s ≤ 115 → st.length < 2) ∧ (200 ≤ s ∧ s ≤ 215 → st.length < 1)) := by
  by_cases h1 : 15 ≤ s ∧ s ≤ 18
  · refine .inl ⟨h1.1, h1.2, ?_⟩
    have ht : takesW s = 0 := takesW_one (by simp [inB]; omega)
    simp [pushP, ht]
  · by_cases h2 : s = 30
    · subst h2
      have ht : takesW 30 = 2 := rfl
      match st with
      | [] => exact .inr (.inr (.inr (.inr ⟨rfl, h1, by simp, by simp, by simp⟩)))
      | [x] => exact .inr (.inr (.inr (.inr ⟨rfl, h1, by simp, by simp, by simp⟩)))
      | b :: a :: q => exact .inr (.inl ⟨rfl, b, a, q, rfl, rfl⟩)
    · by_cases h3 : 100 ≤ s ∧ s ≤ 115
      · have ht : takesW s = 2 := by rw [takesW, if_neg (by omega), if_pos (by omega)]
        match st with
        | [] => exact .inr (.inr (.inr (.inr ⟨by simp [pushP, ht], h1, by simp, by simp, by simp⟩)))
        | [x] => exact .inr (.inr (.inr (.inr ⟨by simp [pushP, ht], h1, by simp, by simp, by simp; omega⟩)))
        | b :: a :: q => exact .inr (.inr (.inl ⟨h3.1, h3.2, b, a, q, rfl, by simp [pushP, ht, h2]⟩))
      · by_cases h4 : 200 ≤ s ∧ s ≤ 215
        · have ht : takesW s = 1 := by rw [takesW, if_neg (by omega), if_neg (by omega), if_pos (by omega)]
          match st with
          | [] => exact .inr (.inr (.inr (.inr ⟨by simp [pushP, ht], h1, by simp, by simp, by simp⟩)))
          | a :: q => exact .inr (.inr (.inr (.inl ⟨h4.1, h4.2, a, q, rfl, by simp [pushP, ht]⟩)))
        · have ht : takesW s = -1 := by rw [takesW, if_neg (by omega), if_neg (by omega), if_neg (by omega)]
          exact .inr (.inr (.inr (.inr ⟨by simp [pushP, ht], h1, by omega, by omega, by omega⟩)))

set_option maxRecDepth 100000 in
set_option maxHeartbeats 6400000 in
theorem impl_readProgram (lo hi : Nat) (v : Value) (e : List Int) (w : World) (hx : SlI lo hi w v e) (hh : hi ≤ w.heap.size) (hm : e.length ≤ 1048576) :
    Calls Try.prog 14 #[v] w (RetV fun u w' => u = readW e ∧ Below w.heap.size w w') := by
  obtain ⟨a, cap, rfl, hcap, hcm⟩ := Sl.shape hx
  have HX := Lib.hid hx
  clear hx
  unfold maxLen at hcm
  by_cases hl1 : 1 ≤ e.length
  · by_cases hl2 : e.length ≤ 16
    · go_enter Try.func14, Try.ntmps14
      go_wp2
      go_loopw [3, 17] (fun v i wr => ∃ (k : Nat) (st : List PT), k ≤ e.length ∧ i = .int .i64 k ∧ Hid (ReadTo w wr e k v st)) (fun _ i _ => e.length - (intOf i).toNat)
      case atStart => exact ⟨0, [], by omega, rfl, Lib.hid ⟨Own.nil _ _ _ _ _, Below.refl _ _, by simp [runP], Nat.le_refl _⟩⟩
      case round =>
        obtain ⟨k, st, hk, rfl, HR⟩ := hrel
        by_cases hlt : k < e.length
        · obtain ⟨b, off, rfl, _, _, hbs, hcell⟩ := SlI.get (HX.out.below HR.out.2.1 hh) k hlt
          have hsz := HR.out.2.1.size
          have hn := HR.out.2.2.2
          have HRT := Lib.hid (runP_take k hlt HR.out.2.2.1)
          have HST := Lib.hid (fun hp : pushP e[k] st = none => runP_stop k hlt HR.out.2.2.1 hp)
          have hpc := push_cases e[k] st
          obtain ⟨s, hs⟩ : ∃ s, s = e[k] := ⟨_, rfl⟩
          rw [← hs] at HRT HST hcell hpc
          clear hs
          rcases hpc with ⟨h1, h2, hp⟩ | ⟨rfl, b_, a_, q, rfl, hp⟩ | ⟨h1, h2, b_, a_, q, rfl, hp⟩ | ⟨h1, h2, a_, q, rfl, hp⟩ | ⟨hp, h1, h2, h3, h4⟩
          · have HIS := Lib.hid (show isActB s = decide (16 ≤ s) by simp only [isActB, h2, decide_true, Bool.and_true])
            have HRN : Hid (runP (e.take (k + 1)) [] = some (.one s :: st)) := Lib.hid (by rw [HRT.out, hp])
            obtain ⟨sa, sc, rfl⟩ := Own.shape HR.out.1
            have hown := HR.out.1
            clear hp HST HRT
            by_cases h15 : s = 15
            all_goals (
              try subst h15
              try (have h16 : decide (16 ≤ s) = true := by (simp; omega))
              try (have h17 : (s == 15) = false := by simpa using h15)
              go_wp2_with (first | (go_at_call 25; refine (isAct_any _ _).mono ?_; rintro e_ _ ⟨rfl, rfl⟩; rw [HIS.out]) | (at_builtin; refine wpList_app_lit _ rfl _ _ 51 rfl 36 .nilIface 1 16 Try.underlying51 info_prog rfl (by decide) (by decide) rfl hown 1 [vP (.one _)] rfl rfl (by intro u hu; simp only [List.mem_singleton] at hu; subst hu; rfl) rfl (by omega) (by omega) ?_))
              intro v' w5 hown5 hout5 _
              obtain ⟨a', cap', rfl⟩ := Own.shape hown5
              have H5 := Lib.hid (read_step HR.out HRN.out hown5 (by rw [progs_cons]) hout5 (by simp))
              clear hown hown5 hout5
              go_wp2
              go_roundw
              case rel => exact ⟨k + 1, _, by omega, by go_num, H5⟩
              case measure => simp [intOf]; omega)
          · have HIS := Lib.hid (show isActB 30 = false by decide)
            have HRN : Hid (runP (e.take (k + 1)) [] = some ((PT.seq a_ b_) :: q)) := Lib.hid (by rw [HRT.out, hp])
            have hown := HR.out.1
            simp only [List.length_cons] at hown hn
            obtain ⟨sa, sc, rfl, hc1, hc2, _, hc3⟩ := Own.open hown
            obtain ⟨g, rfl, hg1, hg2⟩ := hc3 (by omega)
            unfold maxLen at hc2
            obtain ⟨r1', r2'⟩ := own_last2 hown
            have r1 : wr.drew.cell? ⟨g, q.length + 1, none⟩ = some (vP b_) := r1'
            have r2 : wr.drew.cell? ⟨g, q.length, none⟩ = some (vP a_) := r2'
            have HF := Lib.hid (Own.front (m := q.length) (ys := progs q) (ks := [vP a_, vP b_]) (by rw [progs_cons, progs_cons, List.append_assoc] at hown; exact hown) (progs_len q) (by simp))
            have HVT := Lib.hid (show vP (PT.seq a_ b_) = .iface 55 (.agg #[vP a_, vP b_]) from rfl)
            obtain ⟨ya_, za_, hva_⟩ : ∃ y z, vP a_ = .iface y z := ⟨_, _, vP_parts a_⟩
            obtain ⟨yb_, zb_, hvb_⟩ : ∃ y z, vP b_ = .iface y z := ⟨_, _, vP_parts b_⟩
            rw [hva_] at r2
            rw [hvb_] at r1
            rw [hva_, hvb_] at HVT
            have hbl : Below wr.heap.size wr (wr.alloc (.cells #[.iface 55 (.agg #[.iface ya_ za_, .iface yb_ zb_])] 36)).drew := Below.drew (al_below _ _)
            have hblz := hbl.size
            have HFW := Lib.hid (HF.out.below hbl (by omega))
            have HL : Hid (Sl 1 wr.heap.size (wr.heap.size + 1) (wr.alloc (.cells #[.iface 55 (.agg #[.iface ya_ za_, .iface yb_ zb_])] 36)).drew (.slice (some ⟨wr.heap.size, 0, none⟩) 1 1) 1 [.iface 55 (.agg #[.iface ya_ za_, .iface yb_ zb_])]) := Lib.hid ((Own.lit 1 36 wr [_] 1 (by omega) rfl).sl.below (Below.drew (Below.refl (wr.heap.size + 1) _)) (Nat.le_refl _))
            have hdz : wr.drew.heap.size = wr.heap.size := rfl
            have hqb : q.length ≤ 1000000 := by omega
            have hqc : (q.length : Int) ≤ sc := by omega
            have j8 : IntKind.i64.wrap (q.length : Int) = q.length := wrap_i64_nat _ (by omega)
            have j9 : IntKind.i64.wrap ((q.length : Int) + 1) = (q.length : Int) + 1 := by simpa using wrap_i64_nat (q.length + 1) (by omega)
            have j7 : (0 : Int) ≤ q.length := by omega
            have j6 : (q.length : Int) < (q.length : Int) + 1 + 1 := by omega
            have j5 : (q.length : Int) + 1 < (q.length : Int) + 1 + 1 := by omega
            have j4 : (0 : Int) ≤ (q.length : Int) + 1 := by omega
            have j3 : ((q.length : Int) + 1).toNat = q.length + 1 := by omega
            have j2 : (2 : Int) ≤ (q.length : Int) + 1 + 1 := by omega
            have i1 : ((q.length : Int) + 1 + 1) - 2 = q.length := by omega
            have i2 : ((q.length : Int) + 1 + 1) - 1 = q.length + 1 := by omega
            have i3 : (((q.length : Int) + 1 + 1) - 2).toNat = q.length := by omega
            have i4 : (((q.length : Int) + 1 + 1) - 1).toNat = q.length + 1 := by omega
            clear hown hc3 r1' r2' hva_ hvb_ hp HST HRT hbl HF
            go_upto_region 12 with (go_at_call 25; refine (isAct_any _ _).mono ?_; rintro e_ _ ⟨rfl, rfl⟩; rw [HIS.out])
            go_region_law (first
              | (refine step_app_sl (by rfl) _ _ 51 (by rfl) 36 .nilIface 1 16 Try.underlying51 info_prog (by rfl) (by decide) (by decide) (by rfl) HFW.out (by rfl) HL.out (by intro u hu; simp only [List.mem_singleton] at hu; subst hu; rfl) (by omega) (by omega) ?_; intro v5 w5 ho5 hout5; obtain ⟨a5, c5, rfl⟩ := Own.shape ho5; (have H5 := Lib.hid (read_two HR.out HRN.out (by simp; omega) ho5 HVT.out.symm hout5)); clear ho5 hout5))
            all_goals (
              go_wp2
              go_roundw
              case rel => exact ⟨k + 1, _, by omega, by go_num, H5⟩
              case measure => simp [intOf]; omega)
          · have HIS := Lib.hid (show isActB s = false by simp [isActB]; omega)
            have n15 : (s == 15) = false := by simp; omega
            have n30 : (s == 30) = false := by simp; omega
            have hsw : IntKind.i64.wrap (s - 100) = s - 100 := IntWalk.i64_in _ (by omega)
            have HRN : Hid (runP (e.take (k + 1)) [] = some ((PT.ite (s - 100) a_ b_) :: q)) := Lib.hid (by rw [HRT.out, hp])
            have hown := HR.out.1
            simp only [List.length_cons] at hown hn
            obtain ⟨sa, sc, rfl, hc1, hc2, _, hc3⟩ := Own.open hown
            obtain ⟨g, rfl, hg1, hg2⟩ := hc3 (by omega)
            unfold maxLen at hc2
            obtain ⟨r1', r2'⟩ := own_last2 hown
            have r1 : wr.drew.cell? ⟨g, q.length + 1, none⟩ = some (vP b_) := r1'
            have r2 : wr.drew.cell? ⟨g, q.length, none⟩ = some (vP a_) := r2'
            have HF := Lib.hid (Own.front (m := q.length) (ys := progs q) (ks := [vP a_, vP b_]) (by rw [progs_cons, progs_cons, List.append_assoc] at hown; exact hown) (progs_len q) (by simp))
            have HVT := Lib.hid (show vP (PT.ite (s - 100) a_ b_) = .iface 57 (.agg #[.int .i64 (s - 100), vP a_, vP b_]) from rfl)
            obtain ⟨ya_, za_, hva_⟩ : ∃ y z, vP a_ = .iface y z := ⟨_, _, vP_parts a_⟩
            obtain ⟨yb_, zb_, hvb_⟩ : ∃ y z, vP b_ = .iface y z := ⟨_, _, vP_parts b_⟩
            rw [hva_] at r2
            rw [hvb_] at r1
            rw [hva_, hvb_] at HVT
            have hbl : Below wr.heap.size wr (wr.alloc (.cells #[.iface 57 (.agg #[.int .i64 (s - 100), .iface ya_ za_, .iface yb_ zb_])] 36)).drew := Below.drew (al_below _ _)
            have hblz := hbl.size
            have HFW := Lib.hid (HF.out.below hbl (by omega))
            have HL : Hid (Sl 1 wr.heap.size (wr.heap.size + 1) (wr.alloc (.cells #[.iface 57 (.agg #[.int .i64 (s - 100), .iface ya_ za_, .iface yb_ zb_])] 36)).drew (.slice (some ⟨wr.heap.size, 0, none⟩) 1 1) 1 [.iface 57 (.agg #[.int .i64 (s - 100), .iface ya_ za_, .iface yb_ zb_])]) := Lib.hid ((Own.lit 1 36 wr [_] 1 (by omega) rfl).sl.below (Below.drew (Below.refl (wr.heap.size + 1) _)) (Nat.le_refl _))
            have hdz : wr.drew.heap.size = wr.heap.size := rfl
            have hqb : q.length ≤ 1000000 := by omega
            have hqc : (q.length : Int) ≤ sc := by omega
            have j8 : IntKind.i64.wrap (q.length : Int) = q.length := wrap_i64_nat _ (by omega)
            have j9 : IntKind.i64.wrap ((q.length : Int) + 1) = (q.length : Int) + 1 := by simpa using wrap_i64_nat (q.length + 1) (by omega)
            have j7 : (0 : Int) ≤ q.length := by omega
            have j6 : (q.length : Int) < (q.length : Int) + 1 + 1 := by omega
            have j5 : (q.length : Int) + 1 < (q.length : Int) + 1 + 1 := by omega
            have j4 : (0 : Int) ≤ (q.length : Int) + 1 := by omega
            have j3 : ((q.length : Int) + 1).toNat = q.length + 1 := by omega
            have j2 : (2 : Int) ≤ (q.length : Int) + 1 + 1 := by omega
            have i1 : ((q.length : Int) + 1 + 1) - 2 = q.length := by omega
            have i2 : ((q.length : Int) + 1 + 1) - 1 = q.length + 1 := by omega
            have i3 : (((q.length : Int) + 1 + 1) - 2).toNat = q.length := by omega
            have i4 : (((q.length : Int) + 1 + 1) - 1).toNat = q.length + 1 := by omega
            clear hown hc3 r1' r2' hva_ hvb_ hp HST HRT hbl HF
            go_upto_region 14 with (go_at_call 25; refine (isAct_any _ _).mono ?_; rintro e_ _ ⟨rfl, rfl⟩; rw [HIS.out])
            go_region_law (first
              | (refine step_app_sl (by rfl) _ _ 51 (by rfl) 36 .nilIface 1 16 Try.underlying51 info_prog (by rfl) (by decide) (by decide) (by rfl) HFW.out (by rfl) HL.out (by intro u hu; simp only [List.mem_singleton] at hu; subst hu; rfl) (by omega) (by omega) ?_; intro v5 w5 ho5 hout5; obtain ⟨a5, c5, rfl⟩ := Own.shape ho5; (have H5 := Lib.hid (read_two HR.out HRN.out (by simp; omega) ho5 HVT.out.symm hout5)); clear ho5 hout5))
            all_goals (
              go_wp2
              go_roundw
              case rel => exact ⟨k + 1, _, by omega, by go_num, H5⟩
              case measure => simp [intOf]; omega)
          · have HIS := Lib.hid (show isActB s = false by simp [isActB]; omega)
            have n15 : (s == 15) = false := by simp; omega
            have n30 : (s == 30) = false := by simp; omega
            have hsw : IntKind.i64.wrap (s - 200) = s - 200 := IntWalk.i64_in _ (by omega)
            have HRN : Hid (runP (e.take (k + 1)) [] = some ((PT.wh (s - 200) a_) :: q)) := Lib.hid (by rw [HRT.out, hp])
            have hown := HR.out.1
            simp only [List.length_cons] at hown hn
            obtain ⟨sa, sc, rfl, hc1, hc2, _, hc3⟩ := Own.open hown
            obtain ⟨g, rfl, hg1, hg2⟩ := hc3 (by omega)
            unfold maxLen at hc2
            have r1' := own_last hown
            have r1 : wr.drew.cell? ⟨g, q.length, none⟩ = some (vP a_) := r1'
            have HF := Lib.hid (Own.front (m := q.length) (ys := progs q) (ks := [vP a_]) (by rw [progs_cons] at hown; exact hown) (progs_len q) (by simp))
            have HVT := Lib.hid (show vP (PT.wh (s - 200) a_) = .iface 59 (.agg #[.int .i64 (s - 200), vP a_]) from rfl)
            obtain ⟨ya_, za_, hva_⟩ : ∃ y z, vP a_ = .iface y z := ⟨_, _, vP_parts a_⟩
            rw [hva_] at r1 HVT
            have hbl : Below wr.heap.size wr (wr.alloc (.cells #[.iface 59 (.agg #[.int .i64 (s - 200), .iface ya_ za_])] 36)).drew := Below.drew (al_below _ _)
            have hblz := hbl.size
            have HFW := Lib.hid (HF.out.below hbl (by omega))
            have HL : Hid (Sl 1 wr.heap.size (wr.heap.size + 1) (wr.alloc (.cells #[.iface 59 (.agg #[.int .i64 (s - 200), .iface ya_ za_])] 36)).drew (.slice (some ⟨wr.heap.size, 0, none⟩) 1 1) 1 [.iface 59 (.agg #[.int .i64 (s - 200), .iface ya_ za_])]) := Lib.hid ((Own.lit 1 36 wr [_] 1 (by omega) rfl).sl.below (Below.drew (Below.refl (wr.heap.size + 1) _)) (Nat.le_refl _))
            have hdz : wr.drew.heap.size = wr.heap.size := rfl
            have hqb : q.length ≤ 1000000 := by omega
            have hqc : (q.length : Int) ≤ sc := by omega
            have j8 : IntKind.i64.wrap (q.length : Int) = q.length := wrap_i64_nat _ (by omega)
            have j7 : (0 : Int) ≤ q.length := by omega
            have j5 : (q.length : Int) < (q.length : Int) + 1 := by omega
            have j2 : (1 : Int) ≤ (q.length : Int) + 1 := by omega
            have i2 : ((q.length : Int) + 1) - 1 = q.length := by omega
            have i4 : (((q.length : Int) + 1) - 1).toNat = q.length := by omega
            clear hown hc3 r1' hva_ hp HST HRT hbl HF
            go_upto_region 16 with (go_at_call 25; refine (isAct_any _ _).mono ?_; rintro e_ _ ⟨rfl, rfl⟩; rw [HIS.out])
            go_region_law (first
              | (refine step_app_sl (by rfl) _ _ 51 (by rfl) 36 .nilIface 1 16 Try.underlying51 info_prog (by rfl) (by decide) (by decide) (by rfl) HFW.out (by rfl) HL.out (by intro u hu; simp only [List.mem_singleton] at hu; subst hu; rfl) (by omega) (by omega) ?_; intro v5 w5 ho5 hout5; obtain ⟨a5, c5, rfl⟩ := Own.shape ho5; (have H5 := Lib.hid (read_two HR.out HRN.out (by simp) ho5 HVT.out.symm hout5)); clear ho5 hout5))
            all_goals (
              go_wp2
              go_roundw
              case rel => exact ⟨k + 1, _, by omega, by go_num, H5⟩
              case measure => simp [intOf]; omega)
          · have HB := Lib.hid HR.out.2.1
            have HNO := Lib.hid (readW_none (HST.out hp))
            have HIS := Lib.hid (show isActB s = false by simp [isActB]; omega)
            have n15 : (s == 15) = false := by simp; omega
            have hsl : st.length ≤ 16 := by omega
            obtain ⟨sa, sc, rfl⟩ := Own.shape HR.out.1
            have c1 : (s = 30 ∧ st.length < 2) ∨ (100 ≤ s ∧ s ≤ 115 ∧ st.length < 2) ∨ (200 ≤ s ∧ s ≤ 215 ∧ st.length < 1) ∨ (s < 100 ∧ ¬ s = 30) ∨ (115 < s ∧ s < 200) ∨ 215 < s := by omega
            clear hp h1 h2 h3 h4 HST HRT HR
            rcases c1 with ⟨rfl, d1⟩ | ⟨d1, d2, d3⟩ | ⟨d1, d2, d3⟩ | ⟨d1, d2⟩ | ⟨d1, d2⟩ | d1
            all_goals try (have n30 : (s == 30) = false := by (simp; omega))
            all_goals (
              go_wp2_with (go_at_call 25; refine (isAct_any _ _).mono ?_; rintro e_ _ ⟨rfl, rfl⟩; rw [HIS.out])
              go_ret
              exact RetV.mk _ rfl ⟨HNO.out.symm, HB.out⟩)
        · obtain rfl : k = e.length := by omega
          have hr := HR.out.2.2.1
          rw [List.take_length] at hr
          have hown := HR.out.1
          have HB := Lib.hid HR.out.2.1
          have hn := HR.out.2.2.2
          by_cases hs1 : st.length = 1
          · obtain ⟨t, rfl⟩ : ∃ t, st = [t] := by
              match st, hs1 with
              | [t], _ => exact ⟨t, rfl⟩
            have HO := Lib.hid (readW_one hl1 hl2 hr)
            obtain ⟨sa, sc, rfl, hc1, hc2, _, hc3⟩ := Own.open hown
            obtain ⟨g, rfl, _, _⟩ := hc3 (by simp)
            have r1 := own_last (q := []) hown
            simp only [List.length_nil] at r1
            obtain ⟨vt, hvt⟩ : ∃ vt, vt = vP t := ⟨_, rfl⟩
            rw [← hvt] at r1 HO
            clear hown hc3 hr hs1 HR hvt
            go_wp2
            go_ret
            exact RetV.mk _ rfl ⟨HO.out.symm, HB.out⟩
          · have HO := Lib.hid (readW_many hr hs1)
            obtain ⟨sa, sc, rfl⟩ := Own.shape hown
            have hs2 : ((st.length : Int) == 1) = false := by simp; omega
            clear hown hr HR
            go_wp2
            go_ret
            exact RetV.mk _ rfl ⟨HO.out.symm, HB.out⟩
    · have HO := Lib.hid (readW_len (p := e) (by omega))
      go_enter Try.func14, Try.ntmps14
      go_wp2
      go_ret
      exact RetV.mk _ rfl ⟨HO.out.symm, Below.refl _ _⟩
  · have HO := Lib.hid (readW_len (p := e) (by omega))
    go_enter Try.func14, Try.ntmps14
    go_wp2
    go_ret
    exact RetV.mk _ rfl ⟨HO.out.symm, Below.refl _ _⟩
end

section
set_option linter.unusedVariables false

/-- What joined returns. -/
def joinV (s : Int) (xss : List (List Int)) : Option (List Int) := if xss.all katV && decide (xss.flatten.length + 1 ≤ 40) then some (xss.flatten ++ [s]) else none
/-- The steps of an expression, if it fits. -/
def fitK (t : KT) : Option (List Int) := if t.size ≤ 40 then some t.post else none
theorem joinV_bin {p : Bool} {a b : KT} (ha : a.ok 0 = true) (hb : b.ok 0 = true) : joinV (KT.op p) [a.post, b.post] = fitK (.bin p a b) := by
  have h1 := a.size_pos
  have h2 := b.size_pos
  by_cases h : a.size + b.size + 1 ≤ 40
  · simp [joinV, fitK, KT.size, KT.post, katV_post ha (by omega), katV_post hb (by omega), KT.post_length, h]
  · simp [joinV, fitK, KT.size, KT.post_length, h]
theorem joinV_star {a : KT} (ha : a.ok 0 = true) : joinV 21 [a.post] = fitK (.star a) := by
  by_cases h : a.size + 1 ≤ 40
  · simp [joinV, fitK, KT.size, KT.post, katV_post ha (by omega), KT.post_length, h]
  · simp [joinV, fitK, KT.size, KT.post_length, h]
theorem joinV_no {s : Int} {xss : List (List Int)} (k : Nat) (hk : k < xss.length) (h : katV xss[k] = false) : joinV s xss = none := by
  rw [joinV, if_neg]
  simp only [Bool.and_eq_true, List.all_eq_true, not_and]
  intro h1
  have := h1 _ (List.getElem_mem hk)
  rw [h] at this; cases this
theorem joinV_big {s : Int} {xss : List (List Int)} (h : ¬ xss.flatten.length + 1 ≤ 40) : joinV s xss = none := by
  rw [joinV, if_neg]
  simp only [Bool.and_eq_true, decide_eq_true_eq, not_and]
  intro _; exact h
theorem joinV_yes {s : Int} {xss : List (List Int)} (h : xss.flatten.length + 1 ≤ 40) (h1 : ∀ k (hk : k < xss.length), katV xss[k] = true) : joinV s xss = some (xss.flatten ++ [s]) := by
  rw [joinV, if_pos]
  simp only [Bool.and_eq_true, decide_eq_true_eq, List.all_eq_true]
  refine ⟨fun x hx => ?_, h⟩
  obtain ⟨k, hk, rfl⟩ := List.mem_iff_getElem.1 hx
  exact h1 k hk
theorem katV_len {e : List Int} (h : katV e = true) : e.length ≤ 40 := by
  simp only [katV, Bool.and_eq_true, decide_eq_true_eq] at h
  exact h.1.2
/-- What joined leaves behind some parts. -/
def JoinTo (w wr : World) (xss : List (List Int)) (k : Nat) (v : Value) (out : List Int) : Prop :=
  OwnI w.heap.size wr.heap.size 3 wr v out ∧ Below w.heap.size w wr ∧ out = (xss.take k).flatten ∧ out.length ≤ 40 * k ∧ ∀ i (hi : i < xss.length), i < k → katV xss[i] = true
/-- An expression comes back, and whether there is one. -/
def RetO (r : Option (List Int)) (w : World) : Ending → World → Prop := RetCB fun u b w' => b = r.isSome ∧ OwnI w.heap.size w'.heap.size 3 w' u (r.getD []) ∧ Below w.heap.size w w'
theorem RetO.no {r : Option (List Int)} {w w' : World} {e : Ending} (he : e = .returned (.tuple #[.slice none 0 0, .bool false])) (h : r = none) (hb : Below w.heap.size w w') : RetO r w e w' := by
  subst h
  exact ⟨_, _, he, rfl, Own.nil _ _ _ _ _, hb⟩
theorem RetO.yes {r : Option (List Int)} {w w' : World} {e : Ending} {u : Value} {xs : List Int} (he : e = .returned (.tuple #[u, .bool true])) (h : r = some xs) (ho : OwnI w.heap.size w'.heap.size 3 w' u xs) (hb : Below w.heap.size w w') : RetO r w e w' := by
  subst h
  exact ⟨_, _, he, rfl, ho, hb⟩

set_option maxRecDepth 100000 in
set_option maxHeartbeats 3200000 in
theorem joined_any (lo hi : Nat) (v : Value) (xss : List (List Int)) (s : Int) (w : World) (hx : SlLL lo hi w v xss) (hh : hi ≤ w.heap.size) (hm : xss.length ≤ 10) (hm2 : ∀ x ∈ xss, x.length ≤ 1048576) :
    Calls Try.prog 92 #[.int .i64 s, v] w (RetO (joinV s xss) w) := by
  have HX := Lib.hid hx
  have HM := Lib.hid hm2
  obtain ⟨a, cap, rfl, hcap, hcm⟩ := hx.shape
  unfold maxLen at hcm
  clear hx hm2
  go_enter Try.func92, Try.ntmps92
  go_wp2
  go_loopw [6, 11] (fun v i wr => ∃ (k : Nat) (out : List Int), k ≤ xss.length ∧ i = .int .i64 k ∧ Hid (JoinTo w wr xss k v out)) (fun _ i _ => xss.length - (intOf i).toNat)
  case atStart => exact ⟨0, [], by omega, rfl, Lib.hid ⟨Own.nil _ _ _ _ _, Below.refl _ _, by simp, by simp, fun i _ h => by omega⟩⟩
  case round =>
    obtain ⟨k, out, hk, rfl, HR⟩ := hrel
    have hsz := HR.out.2.1.size
    have hol := HR.out.2.2.2.1
    by_cases hlt : k < xss.length
    · obtain ⟨b, off, u, rfl, _, _, _, hcell, hu⟩ := (HX.out.below HR.out.2.1 hh).get k hlt
      have hul := HM.out _ (List.getElem_mem hlt)
      have HU := Lib.hid hu
      have HKV := Lib.hid (impl_KatValid lo hi u xss[k] wr hu hul)
      have HNO := Lib.hid (fun h : katV xss[k] = false => joinV_no (s := s) k hlt h)
      have HST := Lib.hid (show xss.take (k + 1) = xss.take k ++ [xss[k]] from List.take_succ_eq_append_getElem hlt)
      have HLT := Lib.hid (fun h : katV xss[k] = true => katV_len h)
      have HIN := Lib.hid (fun h : katV xss[k] = true => (show ∀ i (hi : i < xss.length), i < k + 1 → katV xss[i] = true from fun i hi h2 => by
        by_cases e : i = k
        · subst e; exact h
        · exact HR.out.2.2.2.2 i hi (by omega)))
      obtain ⟨x, hx⟩ : ∃ x, x = xss[k] := ⟨_, rfl⟩
      rw [← hx] at HU HKV HNO HST HLT HIN hul
      obtain ⟨ua, uc, rfl, _, _⟩ := HU.out.shape
      clear hu hx HM
      cases hkv : katV x with
      | false =>
        have HN := Lib.hid (HNO.out hkv)
        rw [hkv] at HKV
        have HB := Lib.hid HR.out.2.1
        clear HNO HLT HIN hkv HR
        go_wp2_with (go_at_call 9; refine HKV.out.mono ?_; rintro e_ _ ⟨rfl, rfl⟩)
        go_ret2
        exact RetO.no rfl HN.out HB.out
      | true =>
        have hxl := HLT.out hkv
        rw [hkv] at HKV
        have HIN' := Lib.hid (HIN.out hkv)
        obtain ⟨oa, oc, rfl, _, _⟩ := Sl.shape HR.out.1.sl
        have hown := HR.out.1
        unfold OwnI at hown
        clear HNO HLT HIN hkv
        go_wp2_with (first | (go_at_call 9; refine HKV.out.mono ?_; rintro e_ _ ⟨rfl, rfl⟩) | (at_builtin; go_loud (refine wpList_app_sl rfl _ _ 23 rfl 3 (.int .i64 0) 1 8 Try.underlying23 info_int rfl (by decide) (by decide) rfl hown rfl HU.out (ints_one _) (by omega) (by omega) ?_)))
        intro v5 w5 h5 _ ho5 _
        have HR5 : Hid (JoinTo w w5 xss (k + 1) v5 (out ++ x)) := Lib.hid ⟨by unfold OwnI; rw [ints_append, List.length_append]; exact h5, Below.outside HR.out.2.1 ho5 (Nat.le_refl _) HR.out.2.1.size, by rw [HST.out, HR.out.2.2.1]; simp, by rw [List.length_append]; omega, HIN'.out⟩
        obtain ⟨a5, c5, rfl⟩ := Own.shape h5
        clear h5 ho5 hown
        go_wp2
        go_roundw
        case rel => exact ⟨k + 1, _, by omega, by go_num, HR5⟩
        case measure => simp [intOf]; omega
    · obtain rfl : k = xss.length := by omega
      have he : out = xss.flatten := by rw [HR.out.2.2.1, List.take_length]
      have HB := Lib.hid HR.out.2.1
      have HALL := Lib.hid (fun k hk => HR.out.2.2.2.2 k hk hk)
      have hown := HR.out.1
      unfold OwnI at hown
      obtain ⟨oa, oc, rfl, _, _⟩ := Sl.shape HR.out.1.sl
      by_cases hbig : out.length + 1 ≤ 40
      · have HY := Lib.hid (joinV_yes (s := s) (by rw [← he]; exact hbig) HALL.out)
        rw [← he] at HY
        clear he HALL HR HM
        go_wp2_with (at_builtin; refine wpList_app_lit _ rfl _ _ 23 rfl 3 (.int .i64 0) 1 8 Try.underlying23 info_int rfl (by decide) (by decide) rfl hown 1 (ints [s]) rfl rfl (ints_one _) rfl (by omega) (by omega) ?_)
        intro v5 w5 h5 ho5 _
        obtain ⟨a5, c5, rfl⟩ := Own.shape h5
        have HF : Hid (OwnI w.heap.size w5.heap.size 3 w5 (.slice a5 (out.length + 1) c5) (out ++ [s]) ∧ Below w.heap.size w w5) := Lib.hid ⟨by unfold OwnI; rw [ints_append, List.length_append]; exact h5, Below.outside HB.out ho5 (Nat.le_refl _) HB.out.size⟩
        clear h5 ho5 hown
        go_wp2
        go_ret2
        exact RetO.yes rfl HY.out HF.out.1 HF.out.2
      · have HN := Lib.hid (joinV_big (s := s) (xss := xss) (by rw [← he]; exact hbig))
        clear he HALL HR HM
        go_wp2_with (at_builtin; refine wpList_app_lit _ rfl _ _ 23 rfl 3 (.int .i64 0) 1 8 Try.underlying23 info_int rfl (by decide) (by decide) rfl hown 1 (ints [s]) rfl rfl (ints_one _) rfl (by omega) (by omega) ?_)
        intro v5 w5 h5 ho5 _
        obtain ⟨a5, c5, rfl⟩ := Own.shape h5
        have HB5 := Lib.hid (Below.outside HB.out ho5 (Nat.le_refl _) HB.out.size)
        clear h5 ho5 hown
        go_wp2
        go_ret2
        exact RetO.no rfl HN.out HB5.out
theorem SlLL.one {lo hi : Nat} {w : World} {u : Value} {x : List Int} (h : SlI lo hi w u x) (hh : hi ≤ w.heap.size) : SlLL 0 (w.heap.size + 1) (w.alloc (.cells #[u] 23)) (.slice (some ⟨w.heap.size, 0, none⟩) 1 1) [x] := by
  refine ⟨some ⟨w.heap.size, 0, none⟩, 1, rfl, Nat.le_refl _, by decide, fun i hi' => ?_⟩
  simp only [List.length_singleton] at hi'
  obtain rfl : i = 0 := by omega
  exact ⟨w.heap.size, 0, u, rfl, Nat.zero_le _, Nat.lt_succ_self _, by simp, (Blk.new w (.cells #[u] 23)).cell 0, (h.below (al_below _ _) hh).wide (Nat.zero_le _) (by omega)⟩
theorem SlLL.two {lo hi lo' hi' : Nat} {w : World} {u v : Value} {x y : List Int} (h : SlI lo hi w u x) (hh : hi ≤ w.heap.size) (h' : SlI lo' hi' w v y) (hh' : hi' ≤ w.heap.size) : SlLL 0 (w.heap.size + 1) (w.alloc (.cells #[u, v] 23)) (.slice (some ⟨w.heap.size, 0, none⟩) 2 2) [x, y] := by
  refine ⟨some ⟨w.heap.size, 0, none⟩, 2, rfl, Nat.le_refl _, by decide, fun i hi' => ?_⟩
  simp only [List.length_cons, List.length_nil] at hi'
  obtain rfl | rfl : i = 0 ∨ i = 1 := by omega
  · exact ⟨w.heap.size, 0, u, rfl, Nat.zero_le _, Nat.lt_succ_self _, by simp, (Blk.new w (.cells #[u, v] 23)).cell 0, (h.below (al_below _ _) hh).wide (Nat.zero_le _) (by omega)⟩
  · exact ⟨w.heap.size, 0, v, rfl, Nat.zero_le _, Nat.lt_succ_self _, by simp, (Blk.new w (.cells #[u, v] 23)).cell 1, (h'.below (al_below _ _) hh').wide (Nat.zero_le _) (by omega)⟩
theorem RetO.back {r : Option (List Int)} {w w' : World} {e : Ending} {o : Obj} (h : RetO r (w.alloc o) e w') : RetO r w e w' := by
  obtain ⟨u, b, h1, h2, h3, h4⟩ := h
  exact ⟨u, b, h1, h2, Own.wide2 h3 (by simp) (Nat.le_refl _), (al_below w o).trans (h4.mono (by simp))⟩

set_option maxRecDepth 100000 in
theorem katThen_any (lo hi lo' hi' : Nat) (va vb : Value) (x y : List Int) (w : World) (hx : SlI lo hi w va x) (hh : hi ≤ w.heap.size) (hy : SlI lo' hi' w vb y) (hh' : hi' ≤ w.heap.size) (hm : x.length ≤ 1048576) (hm' : y.length ≤ 1048576) :
    Calls Try.prog 91 #[va, vb] w (RetO (joinV 19 [x, y]) w) := by
  have HJ := Lib.hid (joined_any 0 (w.heap.size + 1) _ [x, y] 19 _ (SlLL.two hx hh hy hh') (by simp) (by simp) (by intro z hz; simp only [List.mem_cons, List.not_mem_nil, or_false] at hz; rcases hz with rfl | rfl <;> assumption))
  obtain ⟨aa, ac, rfl, _, _⟩ := hx.shape
  obtain ⟨ba, bc, rfl, _, _⟩ := hy.shape
  clear hx hy
  go_enter Try.func91, Try.ntmps91
  go_wp2_with fail
  refine HJ.out.mono ?_
  rintro e w1 h
  have HR := Lib.hid h.back
  obtain ⟨u, b, rfl, -⟩ := h.back
  clear h HJ
  go_wp2
  go_ret2
  exact HR.out
set_option maxRecDepth 100000 in
theorem katPlus_any (lo hi lo' hi' : Nat) (va vb : Value) (x y : List Int) (w : World) (hx : SlI lo hi w va x) (hh : hi ≤ w.heap.size) (hy : SlI lo' hi' w vb y) (hh' : hi' ≤ w.heap.size) (hm : x.length ≤ 1048576) (hm' : y.length ≤ 1048576) :
    Calls Try.prog 97 #[va, vb] w (RetO (joinV 20 [x, y]) w) := by
  have HJ := Lib.hid (joined_any 0 (w.heap.size + 1) _ [x, y] 20 _ (SlLL.two hx hh hy hh') (by simp) (by simp) (by intro z hz; simp only [List.mem_cons, List.not_mem_nil, or_false] at hz; rcases hz with rfl | rfl <;> assumption))
  obtain ⟨aa, ac, rfl, _, _⟩ := hx.shape
  obtain ⟨ba, bc, rfl, _, _⟩ := hy.shape
  clear hx hy
  go_enter Try.func97, Try.ntmps97
  go_wp2_with fail
  refine HJ.out.mono ?_
  rintro e w1 h
  have HR := Lib.hid h.back
  obtain ⟨u, b, rfl, -⟩ := h.back
  clear h HJ
  go_wp2
  go_ret2
  exact HR.out
set_option maxRecDepth 100000 in
theorem katStar_any (lo hi : Nat) (va : Value) (x : List Int) (w : World) (hx : SlI lo hi w va x) (hh : hi ≤ w.heap.size) (hm : x.length ≤ 1048576) :
    Calls Try.prog 102 #[va] w (RetO (joinV 21 [x]) w) := by
  have HJ := Lib.hid (joined_any 0 (w.heap.size + 1) _ [x] 21 _ (SlLL.one hx hh) (by simp) (by simp) (by intro z hz; simp only [List.mem_singleton] at hz; subst hz; assumption))
  obtain ⟨aa, ac, rfl, _, _⟩ := hx.shape
  clear hx
  go_enter Try.func102, Try.ntmps102
  go_wp2_with fail
  refine HJ.out.mono ?_
  rintro e w1 h
  have HR := Lib.hid h.back
  obtain ⟨u, b, rfl, -⟩ := h.back
  clear h HJ
  go_wp2
  go_ret2
  exact HR.out
theorem testNot_any (t : Int) (w : World) (h : inB t 0 15 = true) : Calls Try.prog 18 #[.int .i64 t] w fun e w' => e = .returned (.int .i64 (15 - t)) ∧ w = w' := by
  have h2 : 0 ≤ t ∧ t ≤ 15 := by simpa [inB] using h
  obtain ⟨k, rfl⟩ : ∃ k : Nat, t = k := ⟨t.toNat, by omega⟩
  have hk : k = 0 ∨ k = 1 ∨ k = 2 ∨ k = 3 ∨ k = 4 ∨ k = 5 ∨ k = 6 ∨ k = 7 ∨ k = 8 ∨ k = 9 ∨ k = 10 ∨ k = 11 ∨ k = 12 ∨ k = 13 ∨ k = 14 ∨ k = 15 := by omega
  have HB : Hid (bits .andNot .i64 15 (k : Int) = 15 - (k : Int)) := Lib.hid (by rcases hk with rfl | rfl | rfl | rfl | rfl | rfl | rfl | rfl | rfl | rfl | rfl | rfl | rfl | rfl | rfl | rfl <;> rfl)
  clear hk h2
  go_enter Try.func18, Try.ntmps18
  go_wp2_with (go_at_call 35; refine (testValid_any _ _).mono ?_; rintro e w' ⟨rfl, rfl⟩)
  go_ret
  exact ⟨ret_int HB.out, rfl⟩
end

section
set_option linter.unusedVariables false

theorem fitK_yes {t : KT} (h : t.size ≤ 40) : fitK t = some t.post := if_pos h
theorem fitK_no {t : KT} (h : ¬ t.size ≤ 40) : fitK t = none := if_neg h
theorem RetO.some {r : Option (List Int)} {xs : List Int} {w w' : World} {e : Ending} (h : RetO r w e w') (hr : r = some xs) : ∃ a c, e = .returned (.tuple #[.slice a xs.length c, .bool true]) ∧ OwnI w.heap.size w'.heap.size 3 w' (.slice a xs.length c) xs ∧ Below w.heap.size w w' := by
  subst hr
  obtain ⟨u, b, rfl, rfl, h3, h4⟩ := h
  obtain ⟨a, c, rfl, _, _⟩ := h3.sl.shape
  exact ⟨a, c, rfl, h3, h4⟩
theorem RetO.none {r : Option (List Int)} {w w' : World} {e : Ending} (h : RetO r w e w') (hr : r = none) : ∃ a c, e = .returned (.tuple #[.slice a 0 c, .bool false]) ∧ Below w.heap.size w w' := by
  subst hr
  obtain ⟨u, b, rfl, rfl, h3, h4⟩ := h
  obtain ⟨a, c, rfl, _, _⟩ := h3.sl.shape
  exact ⟨a, c, rfl, h4⟩
theorem RetO.after {r : Option (List Int)} {w w1 w' : World} {e : Ending} (h : RetO r w1 e w') (hb : Below w.heap.size w w1) : RetO r w e w' := by
  obtain ⟨u, b, h1, h2, h3, h4⟩ := h
  exact ⟨u, b, h1, h2, Own.wide2 h3 hb.size (Nat.le_refl _), hb.trans (h4.mono hb.size)⟩
/-- The tree of one step. -/
theorem lit_sl (w : World) (t : Int) : SlI w.heap.size (w.heap.size + 1) (w.alloc (.cells #[.int .i64 t] 3)) (.slice (some ⟨w.heap.size, 0, none⟩) 1 1) (KT.leaf t).post := (Own.lit 1 3 w (ints [t]) 1 (by omega) rfl).sl

set_option maxRecDepth 100000 in
set_option maxHeartbeats 1600000 in
theorem katIf_any (lo hi lo' hi' : Nat) (va vb : Value) (t : Int) (a b : KT) (w : World) (ht : inB t 0 15 = true) (ha : a.ok 0 = true) (hb : b.ok 0 = true) (hx : SlI lo hi w va a.post) (hh : hi ≤ w.heap.size) (hy : SlI lo' hi' w vb b.post) (hh' : hi' ≤ w.heap.size) (hm : a.size ≤ 100000) (hm' : b.size ≤ 100000) :
    Calls Try.prog 96 #[.int .i64 t, va, vb] w (RetO (fitK (.bin true (.bin false (.leaf t) a) (.bin false (.leaf (15 - t)) b))) w) := by
  have ht2 : 0 ≤ t ∧ t ≤ 15 := by simpa [inB] using ht
  have hl1 : (KT.leaf t).ok 0 = true := by simp [KT.ok]; omega
  have hl2 : (KT.leaf (15 - t)).ok 0 = true := by simp [KT.ok]; omega
  have HTN := Lib.hid (fun w => testNot_any t w ht)
  have hpa := a.post_length
  have hpb := b.post_length
  have H1 := Lib.hid (katThen_any w.heap.size (w.heap.size + 1) lo hi _ va _ a.post (w.alloc (.cells #[.int .i64 t] 3)) (lit_sl w t) (by simp) (hx.below (al_below _ _) hh) (by simp; omega) (by simp [KT.post]) (by omega))
  rw [show joinV 19 [(KT.leaf t).post, a.post] = fitK (.bin false (.leaf t) a) from joinV_bin (p := false) hl1 ha] at H1
  have HK := Lib.hid (show KT.ok 0 (.bin false (.leaf t) a) = true by simp only [KT.ok] at hl1 ⊢; rw [hl1, ha]; rfl)
  have HK2 := Lib.hid (show KT.ok 0 (.bin false (.leaf (15 - t)) b) = true by simp only [KT.ok] at hl2 ⊢; rw [hl2, hb]; rfl)
  have H2 := Lib.hid (fun (w1 : World) (hb1 : Below w.heap.size w w1) => by
    have hs := hb1.size
    have := katThen_any w1.heap.size (w1.heap.size + 1) lo' hi' _ vb _ b.post (w1.alloc (.cells #[.int .i64 (15 - t)] 3)) (lit_sl w1 (15 - t)) (by simp) ((hy.below hb1 hh').below (al_below _ _) (by omega)) (by simp; omega) (by simp [KT.post]) (by omega)
    rwa [show joinV 19 [(KT.leaf (15 - t)).post, b.post] = fitK (.bin false (.leaf (15 - t)) b) from joinV_bin (p := false) hl2 hb] at this)
  have HP := Lib.hid (fun (w1 : World) (u v : Value) (lu hu lv hv : Nat) (hu1 : SlI lu hu w1 u (KT.bin false (.leaf t) a).post) (hu2 : hu ≤ w1.heap.size) (hv1 : SlI lv hv w1 v (KT.bin false (.leaf (15 - t)) b).post) (hv2 : hv ≤ w1.heap.size) => by
    have := katPlus_any lu hu lv hv u v _ _ w1 hu1 hu2 hv1 hv2 (by rw [KT.post_length]; simp [KT.size]; omega) (by rw [KT.post_length]; simp [KT.size]; omega)
    rwa [show joinV 20 [(KT.bin false (.leaf t) a).post, (KT.bin false (.leaf (15 - t)) b).post] = _ from joinV_bin (p := true) HK.out HK2.out] at this)
  have HNA := Lib.hid (fun h : ¬ (KT.bin false (.leaf t) a).size ≤ 40 => (show fitK (.bin true (.bin false (.leaf t) a) (.bin false (.leaf (15 - t)) b)) = none from fitK_no (by simp only [KT.size] at h ⊢; omega)))
  have HNB := Lib.hid (fun h : ¬ (KT.bin false (.leaf (15 - t)) b).size ≤ 40 => (show fitK (.bin true (.bin false (.leaf t) a) (.bin false (.leaf (15 - t)) b)) = none from fitK_no (by simp only [KT.size] at h ⊢; omega)))
  obtain ⟨r, hr⟩ : ∃ r, r = fitK (.bin true (.bin false (.leaf t) a) (.bin false (.leaf (15 - t)) b)) := ⟨_, rfl⟩
  rw [← hr] at HNA HNB HP ⊢
  obtain ⟨A, hA⟩ : ∃ A, A = KT.bin false (.leaf t) a := ⟨_, rfl⟩
  obtain ⟨B, hB⟩ : ∃ B, B = KT.bin false (.leaf (15 - t)) b := ⟨_, rfl⟩
  rw [← hA] at H1 HP HNA
  rw [← hB] at H2 HP HNB
  obtain ⟨aa, ac, rfl, _, _⟩ := hx.shape
  obtain ⟨ba, bc, rfl, _, _⟩ := hy.shape
  clear hA hB hr hx hy ha hb hl1 hl2 hpa hpb HK HK2
  by_cases h1 : A.size ≤ 40
  · by_cases h2 : B.size ≤ 40
    · have F1 := Lib.hid (fitK_yes h1)
      have F2 := Lib.hid (fitK_yes h2)
      clear HNA HNB h1 h2
      go_enter Try.func96, Try.ntmps96
      go_wp2_with (first | (go_at_call 35; refine (testValid_any _ _).mono ?_; rintro e w' ⟨rfl, rfl⟩) | fail)
      refine H1.out.mono ?_
      rintro e w1 h
      obtain ⟨xa, xc, rfl, ho1, hb1⟩ := h.back.some F1.out
      have HO1 := Lib.hid ho1
      have HB1 := Lib.hid hb1
      have HC2 := Lib.hid (H2.out w1 hb1)
      have hs1 := hb1.size
      clear h H1 ho1 hb1 H2
      go_wp2_with (first | (go_at_call 18; refine (HTN.out _).mono ?_; rintro e w' ⟨rfl, rfl⟩) | fail)
      refine HC2.out.mono ?_
      rintro e w2 h
      obtain ⟨ya, yc, rfl, ho2, hb2⟩ := h.back.some F2.out
      have HO2 := Lib.hid ho2
      have hs2 := hb2.size
      have HC3 := Lib.hid (HP.out w2 _ _ _ _ _ _ (HO1.out.below hb2 (Nat.le_refl _)).sl hs2 ho2.sl (Nat.le_refl _))
      have HB2 := Lib.hid (HB1.out.trans (hb2.mono hs1))
      clear h HC2 ho2 hb2 HO1 HO2
      go_wp2_with fail
      refine HC3.out.mono ?_
      rintro e w3 h
      have HR := Lib.hid (h.after HB2.out)
      obtain ⟨u, b, rfl, -⟩ := h
      clear HC3
      go_wp2
      go_ret2
      exact HR.out
    · have F1 := Lib.hid (fitK_yes h1)
      have F2 := Lib.hid (fitK_no h2)
      have HN := Lib.hid (HNB.out h2)
      clear HNA HNB h1 h2
      go_enter Try.func96, Try.ntmps96
      go_wp2_with (first | (go_at_call 35; refine (testValid_any _ _).mono ?_; rintro e w' ⟨rfl, rfl⟩) | fail)
      refine H1.out.mono ?_
      rintro e w1 h
      obtain ⟨xa, xc, rfl, ho1, hb1⟩ := h.back.some F1.out
      have HB1 := Lib.hid hb1
      have HC2 := Lib.hid (H2.out w1 hb1)
      have hs1 := hb1.size
      clear h H1 ho1 hb1 H2
      go_wp2_with (first | (go_at_call 18; refine (HTN.out _).mono ?_; rintro e w' ⟨rfl, rfl⟩) | fail)
      refine HC2.out.mono ?_
      rintro e w2 h
      obtain ⟨ya, yc, rfl, hb2⟩ := h.back.none F2.out
      have HB2 := Lib.hid (HB1.out.trans (hb2.mono hs1))
      clear h HC2 hb2
      go_wp2
      go_ret2
      exact RetO.no rfl HN.out HB2.out
  · have F1 := Lib.hid (fitK_no h1)
    have HN := Lib.hid (HNA.out h1)
    clear HNA HNB h1 H2 HP
    go_enter Try.func96, Try.ntmps96
    go_wp2_with (first | (go_at_call 35; refine (testValid_any _ _).mono ?_; rintro e w' ⟨rfl, rfl⟩) | fail)
    refine H1.out.mono ?_
    rintro e w1 h
    obtain ⟨xa, xc, rfl, hb1⟩ := h.back.none F1.out
    have HB1 := Lib.hid hb1
    clear h H1 hb1
    go_wp2
    go_ret2
    exact RetO.no rfl HN.out HB1.out
set_option maxRecDepth 100000 in
set_option maxHeartbeats 1600000 in
theorem katWhile_any (lo hi : Nat) (va : Value) (t : Int) (a : KT) (w : World) (ht : inB t 0 15 = true) (ha : a.ok 0 = true) (hx : SlI lo hi w va a.post) (hh : hi ≤ w.heap.size) (hm : a.size ≤ 100000) :
    Calls Try.prog 101 #[.int .i64 t, va] w (RetO (fitK (.bin false (.star (.bin false (.leaf t) a)) (.leaf (15 - t)))) w) := by
  have ht2 : 0 ≤ t ∧ t ≤ 15 := by simpa [inB] using ht
  have hl1 : (KT.leaf t).ok 0 = true := by simp [KT.ok]; omega
  have hl2 : (KT.leaf (15 - t)).ok 0 = true := by simp [KT.ok]; omega
  have HTN := Lib.hid (fun w => testNot_any t w ht)
  have hpa := a.post_length
  have H1 := Lib.hid (katThen_any w.heap.size (w.heap.size + 1) lo hi _ va _ a.post (w.alloc (.cells #[.int .i64 t] 3)) (lit_sl w t) (by simp) (hx.below (al_below _ _) hh) (by simp; omega) (by simp [KT.post]) (by omega))
  rw [show joinV 19 [(KT.leaf t).post, a.post] = fitK (.bin false (.leaf t) a) from joinV_bin (p := false) hl1 ha] at H1
  have HK := Lib.hid (show KT.ok 0 (.bin false (.leaf t) a) = true by simp only [KT.ok] at hl1 ⊢; rw [hl1, ha]; rfl)
  have HK2 := Lib.hid (show KT.ok 0 (.star (.bin false (.leaf t) a)) = true by simp only [KT.ok] at hl1 ⊢; rw [hl1, ha]; rfl)
  have H2 := Lib.hid (fun (w1 : World) (u : Value) (lu hu : Nat) (hu1 : SlI lu hu w1 u (KT.bin false (.leaf t) a).post) (hu2 : hu ≤ w1.heap.size) => by
    have := katStar_any lu hu u _ w1 hu1 hu2 (by rw [KT.post_length]; simp [KT.size]; omega)
    rwa [show joinV 21 [(KT.bin false (.leaf t) a).post] = _ from joinV_star HK.out] at this)
  have HP := Lib.hid (fun (w1 : World) (u : Value) (lu hu : Nat) (hu1 : SlI lu hu w1 u (KT.star (.bin false (.leaf t) a)).post) (hu2 : hu ≤ w1.heap.size) => by
    have := katThen_any lu hu w1.heap.size (w1.heap.size + 1) u _ _ _ (w1.alloc (.cells #[.int .i64 (15 - t)] 3)) (hu1.below (al_below _ _) hu2) (by simp; omega) (lit_sl w1 (15 - t)) (by simp) (by rw [KT.post_length]; simp [KT.size]; omega) (by simp [KT.post])
    rwa [show joinV 19 [(KT.star (.bin false (.leaf t) a)).post, (KT.leaf (15 - t)).post] = _ from joinV_bin (p := false) HK2.out hl2] at this)
  have HNA := Lib.hid (fun h : ¬ (KT.bin false (.leaf t) a).size ≤ 40 => (show fitK (.bin false (.star (.bin false (.leaf t) a)) (.leaf (15 - t))) = none from fitK_no (by simp only [KT.size] at h ⊢; omega)))
  have HNB := Lib.hid (fun h : ¬ (KT.star (.bin false (.leaf t) a)).size ≤ 40 => (show fitK (.bin false (.star (.bin false (.leaf t) a)) (.leaf (15 - t))) = none from fitK_no (by simp only [KT.size] at h ⊢; omega)))
  obtain ⟨r, hr⟩ : ∃ r, r = fitK (.bin false (.star (.bin false (.leaf t) a)) (.leaf (15 - t))) := ⟨_, rfl⟩
  rw [← hr] at HNA HNB HP ⊢
  obtain ⟨B, hB⟩ : ∃ B, B = KT.star (.bin false (.leaf t) a) := ⟨_, rfl⟩
  rw [← hB] at H2 HP HNB
  obtain ⟨A, hA⟩ : ∃ A, A = KT.bin false (.leaf t) a := ⟨_, rfl⟩
  rw [← hA] at H1 HNA H2
  obtain ⟨aa, ac, rfl, _, _⟩ := hx.shape
  clear hA hB hr hx ha hl1 hl2 hpa HK HK2
  by_cases h1 : A.size ≤ 40
  · by_cases h2 : B.size ≤ 40
    · have F1 := Lib.hid (fitK_yes h1)
      have F2 := Lib.hid (fitK_yes h2)
      clear HNA HNB h1 h2
      go_enter Try.func101, Try.ntmps101
      go_wp2_with (first | (go_at_call 35; refine (testValid_any _ _).mono ?_; rintro e w' ⟨rfl, rfl⟩) | fail)
      refine H1.out.mono ?_
      rintro e w1 h
      obtain ⟨xa, xc, rfl, ho1, hb1⟩ := h.back.some F1.out
      have HB1 := Lib.hid hb1
      have HC2 := Lib.hid (H2.out w1 _ _ _ ho1.sl (Nat.le_refl _))
      have hs1 := hb1.size
      clear h H1 ho1 hb1 H2
      go_wp2_with fail
      refine HC2.out.mono ?_
      rintro e w2 h
      obtain ⟨ya, yc, rfl, ho2, hb2⟩ := h.some F2.out
      have hs2 := hb2.size
      have HC3 := Lib.hid (HP.out w2 _ _ _ ho2.sl (Nat.le_refl _))
      have HB2 := Lib.hid (HB1.out.trans (hb2.mono hs1))
      clear h HC2 ho2 hb2
      go_wp2_with (first | (go_at_call 18; refine (HTN.out _).mono ?_; rintro e w' ⟨rfl, rfl⟩) | fail)
      refine HC3.out.mono ?_
      rintro e w3 h
      have HR := Lib.hid (h.back.after HB2.out)
      obtain ⟨u, b, rfl, -⟩ := h
      clear HC3
      go_wp2
      go_ret2
      exact HR.out
    · have F1 := Lib.hid (fitK_yes h1)
      have F2 := Lib.hid (fitK_no h2)
      have HN := Lib.hid (HNB.out h2)
      clear HNA HNB h1 h2
      go_enter Try.func101, Try.ntmps101
      go_wp2_with (first | (go_at_call 35; refine (testValid_any _ _).mono ?_; rintro e w' ⟨rfl, rfl⟩) | fail)
      refine H1.out.mono ?_
      rintro e w1 h
      obtain ⟨xa, xc, rfl, ho1, hb1⟩ := h.back.some F1.out
      have HB1 := Lib.hid hb1
      have HC2 := Lib.hid (H2.out w1 _ _ _ ho1.sl (Nat.le_refl _))
      have hs1 := hb1.size
      clear h H1 ho1 hb1 H2
      go_wp2_with fail
      refine HC2.out.mono ?_
      rintro e w2 h
      obtain ⟨ya, yc, rfl, hb2⟩ := h.none F2.out
      have HB2 := Lib.hid (HB1.out.trans (hb2.mono hs1))
      clear h HC2 hb2
      go_wp2
      go_ret2
      exact RetO.no rfl HN.out HB2.out
  · have F1 := Lib.hid (fitK_no h1)
    have HN := Lib.hid (HNA.out h1)
    clear HNA HNB h1 H2 HP
    go_enter Try.func101, Try.ntmps101
    go_wp2_with (first | (go_at_call 35; refine (testValid_any _ _).mono ?_; rintro e w' ⟨rfl, rfl⟩) | fail)
    refine H1.out.mono ?_
    rintro e w1 h
    obtain ⟨xa, xc, rfl, hb1⟩ := h.back.none F1.out
    have HB1 := Lib.hid hb1
    clear h H1 hb1
    go_wp2
    go_ret2
    exact RetO.no rfl HN.out HB1.out
end

section
set_option linter.unusedVariables false

def fkP : PT → FuncId
  | .one _ => 85
  | .seq _ _ => 88
  | .ite _ _ _ => 94
  | .wh _ _ => 99
theorem m_kat (T : PT) (f : Nat) (w : World) : (method (f + 1) (tyP T) (rvP T) "loop.example/kleenetests/impl.kat").run Try.prog w = .ok (fkP T, rvP T) w := by
  cases T
  · exact m_kat_one f _ w
  · exact m_kat_seq f _ w
  · exact m_kat_ite f _ w
  · exact m_kat_wh f _ w
set_option maxRecDepth 100000 in
theorem fk_enter (T : PT) (args : Array Value) (w : World) : (callFunc (fkP T) args).run Try.prog w = .ok (.enter (fkP T) args) w := by
  cases T <;> kernel_rfl
/-- What the method kat does with a program. -/
def KatI (T : PT) : Prop := ∀ (w : World), T.kat.size ≤ 100000 → Calls Try.prog (fkP T) #[rvP T] w (RetO (fitK T.kat) w)
/-- The expressions of two programs come back. -/
def RetTwo (a b : KT) (w : World) (e : Ending) (w' : World) : Prop := ∃ u v, e = .returned (.tuple #[u, v, .bool (decide (a.size ≤ 40) && decide (b.size ≤ 40))]) ∧ Below w.heap.size w w' ∧
  (a.size ≤ 40 → b.size ≤ 40 → OwnI w.heap.size w'.heap.size 3 w' u a.post ∧ OwnI w.heap.size w'.heap.size 3 w' v b.post)
theorem RetTwo.no {a b : KT} {w w' : World} {e : Ending} {u v : Value} (he : e = .returned (.tuple #[u, v, .bool false])) (h : ¬ a.size ≤ 40 ∨ ¬ b.size ≤ 40) (hb : Below w.heap.size w w') : RetTwo a b w e w' := by
  refine ⟨u, v, ?_, hb, fun h1 h2 => by omega⟩
  rw [he]
  congr
  simp; omega
theorem RetTwo.yes {a b : KT} {w w' : World} {e : Ending} {u v : Value} (he : e = .returned (.tuple #[u, v, .bool true])) (h1 : a.size ≤ 40) (h2 : b.size ≤ 40) (hb : Below w.heap.size w w') (hu : OwnI w.heap.size w'.heap.size 3 w' u a.post) (hv : OwnI w.heap.size w'.heap.size 3 w' v b.post) : RetTwo a b w e w' := by
  refine ⟨u, v, ?_, hb, fun _ _ => ⟨hu, hv⟩⟩
  rw [he]
  congr
  simp [h1, h2]

set_option maxRecDepth 100000 in
set_option maxHeartbeats 1600000 in
theorem two_any (a b : PT) (ha : KatI a) (hb : KatI b) (w : World) (h1 : a.kat.size ≤ 100000) (h2 : b.kat.size ≤ 100000) : Calls Try.prog 90 #[vP a, vP b] w (RetTwo a.kat b.kat w) := by
  have hm := fun w => m_kat a 225 w
  have hc := fk_enter a
  have hm2 := fun w => m_kat b 225 w
  have hc2 := fk_enter b
  have HA := Lib.hid (ha w h1)
  have HB := Lib.hid fun w' => hb w' h2
  rw [vP_parts a, vP_parts b]
  obtain ⟨ta, hta⟩ : ∃ ta, ta = tyP a := ⟨_, rfl⟩
  obtain ⟨ra, hra⟩ : ∃ ra, ra = rvP a := ⟨_, rfl⟩
  obtain ⟨fa, hfa⟩ : ∃ fa, fa = fkP a := ⟨_, rfl⟩
  obtain ⟨tb, htb⟩ : ∃ tb, tb = tyP b := ⟨_, rfl⟩
  obtain ⟨rb, hrb⟩ : ∃ rb, rb = rvP b := ⟨_, rfl⟩
  obtain ⟨fb, hfb⟩ : ∃ fb, fb = fkP b := ⟨_, rfl⟩
  rw [← hta, ← hra, ← hfa] at hm
  rw [← hfa] at hc
  rw [← htb, ← hrb, ← hfb] at hm2
  rw [← hfb] at hc2
  rw [← hfa, ← hra] at HA
  rw [← hfb, ← hrb] at HB
  rw [← hra, ← hta, ← htb, ← hrb]
  obtain ⟨A, hA⟩ : ∃ A, A = a.kat := ⟨_, rfl⟩
  obtain ⟨B, hB⟩ : ∃ B, B = b.kat := ⟨_, rfl⟩
  rw [← hA] at HA ⊢
  rw [← hB] at HB ⊢
  clear hta hra hfa htb hrb hfb ha hb hA hB h1 h2
  by_cases h1 : A.size ≤ 40
  · have F1 := Lib.hid (fitK_yes h1)
    have HH1 := Lib.hid h1
    clear h1
    go_enter Try.func90, Try.ntmps90
    go_wp2_with fail
    refine HA.out.mono ?_
    rintro e w1 h
    obtain ⟨xa, xc, rfl, ho1, hb1⟩ := h.some F1.out
    have HO1 := Lib.hid ho1
    have HB1 := Lib.hid hb1
    have hs1 := hb1.size
    have HC := Lib.hid (HB.out w1)
    clear h HA HB ho1 hb1
    go_wp2_with fail
    refine HC.out.mono ?_
    rintro e w2 h
    by_cases h2 : B.size ≤ 40
    · obtain ⟨ya, yc, rfl, ho2, hb2⟩ := h.some (fitK_yes h2)
      have HH2 := Lib.hid h2
      have HQ := Lib.hid (And.intro (HB1.out.trans (hb2.mono hs1)) (And.intro (Own.wide2 (HO1.out.below hb2 (Nat.le_refl _)) (Nat.le_refl _) hb2.size) (Own.wide2 ho2 hs1 (Nat.le_refl _))))
      clear h ho2 hb2 HC h2
      go_wp2
      go_ret3
      exact RetTwo.yes rfl HH1.out HH2.out HQ.out.1 HQ.out.2.1 HQ.out.2.2
    · obtain ⟨ya, yc, rfl, hb2⟩ := h.none (fitK_no h2)
      have HQ := Lib.hid (HB1.out.trans (hb2.mono hs1))
      have HN := Lib.hid h2
      clear h hb2 HC h2
      go_wp2
      go_ret3
      exact RetTwo.no rfl (.inr HN.out) HQ.out
  · have F1 := Lib.hid (fitK_no h1)
    have HH1 := Lib.hid h1
    clear h1
    go_enter Try.func90, Try.ntmps90
    go_wp2_with fail
    refine HA.out.mono ?_
    rintro e w1 h
    obtain ⟨xa, xc, rfl, hb1⟩ := h.none F1.out
    have HB1 := Lib.hid hb1
    clear h HA HB hb1
    go_wp2
    go_ret3
    exact RetTwo.no rfl (.inl HH1.out) HB1.out
end

section
set_option linter.unusedVariables false

set_option maxRecDepth 100000 in
theorem katI_one (x : Int) : KatI (.one x) := by
  intro w _
  show Calls Try.prog 85 #[.agg #[.int .i64 x]] w (RetO (fitK (.leaf x)) w)
  obtain ⟨w0, hw0⟩ : ∃ w0, w0 = w.alloc (.cells #[.int .i64 x] 53) := ⟨_, rfl⟩
  obtain ⟨hb0, K_, hs0⟩ := box_facts3 hw0
  have HW := Lib.hid hw0
  have k0 := K_.cell 0
  have HF : Hid (OwnI w.heap.size (w0.alloc (.cells #[.int .i64 x] 3)).heap.size 3 (w0.alloc (.cells #[.int .i64 x] 3)) (.slice (some ⟨w0.heap.size, 0, none⟩) 1 1) [x] ∧ Below w.heap.size w (w0.alloc (.cells #[.int .i64 x] 3))) := Lib.hid ⟨by
    have h0 := Own.lit 1 3 w0 (ints [x]) 1 (by omega) rfl
    exact Own.wide2 h0 (by omega) (by simp), hb0.alloc (by omega) _⟩
  obtain ⟨gx, hgx_⟩ : ∃ gx, gx = w.heap.size := ⟨_, rfl⟩
  rw [← hgx_] at k0
  have HGX := Lib.hid hgx_
  clear hb0 K_ hw0 hgx_
  go_enter Try.func85, Try.ntmps85
  go_upto_region 1 with (rw [← HW.out])
  try rw [← HW.out]
  rw [← HGX.out]
  go_wp2
  go_ret2
  exact RetO.yes rfl (fitK_yes (by simp [KT.size])) HF.out.1 HF.out.2

set_option maxRecDepth 100000 in
set_option maxHeartbeats 1600000 in
theorem katI_seq (a b : PT) (hoa : a.ok = true) (hob : b.ok = true) (ha : KatI a) (hb : KatI b) : KatI (.seq a b) := by
  intro w hm
  simp only [PT.kat, KT.size] at hm
  have hka := PT.kat_ok hoa
  have hkb := PT.kat_ok hob
  show Calls Try.prog 88 #[.agg #[vP a, vP b]] w (RetO (fitK (.bin false a.kat b.kat)) w)
  have HT := Lib.hid fun w' => two_any a b ha hb w' (by omega) (by omega)
  have HP := Lib.hid (fun (w1 : World) (u v : Value) (lu hu lv hv : Nat) (hu1 : SlI lu hu w1 u a.kat.post) (hu2 : hu ≤ w1.heap.size) (hv1 : SlI lv hv w1 v b.kat.post) (hv2 : hv ≤ w1.heap.size) => by
    have := katThen_any lu hu lv hv u v _ _ w1 hu1 hu2 hv1 hv2 (by rw [KT.post_length]; omega) (by rw [KT.post_length]; omega)
    rwa [show joinV 19 [a.kat.post, b.kat.post] = _ from joinV_bin (p := false) hka hkb] at this)
  have HN := Lib.hid (fun h : ¬ (decide (a.kat.size ≤ 40) && decide (b.kat.size ≤ 40)) = true => (show fitK (.bin false a.kat b.kat) = none from fitK_no (by simp [KT.size] at h ⊢; omega)))
  obtain ⟨ya_, za_, hva_⟩ : ∃ y z, vP a = .iface y z := ⟨_, _, vP_parts a⟩
  obtain ⟨yb_, zb_, hvb_⟩ : ∃ y z, vP b = .iface y z := ⟨_, _, vP_parts b⟩
  rw [hva_, hvb_] at HT ⊢
  obtain ⟨r, hr⟩ : ∃ r, r = fitK (.bin false a.kat b.kat) := ⟨_, rfl⟩
  rw [← hr] at HN HP ⊢
  obtain ⟨A, hA⟩ : ∃ A, A = a.kat := ⟨_, rfl⟩
  obtain ⟨B, hB⟩ : ∃ B, B = b.kat := ⟨_, rfl⟩
  rw [← hA] at HT HP HN
  rw [← hB] at HT HP HN
  clear hva_ hvb_ hr hA hB hka hkb hm ha hb hoa hob
  obtain ⟨w0, hw0⟩ : ∃ w0, w0 = w.alloc (.cells #[.iface ya_ za_, .iface yb_ zb_] 55) := ⟨_, rfl⟩
  obtain ⟨hb0, K_, hs0⟩ := box_facts3 hw0
  have HW := Lib.hid hw0
  have HB0 := Lib.hid hb0
  have k0 := K_.cell 0
  have k1 := K_.cell 1
  have HC := Lib.hid (HT.out w0)
  obtain ⟨gx, hgx_⟩ : ∃ gx, gx = w.heap.size := ⟨_, rfl⟩
  rw [← hgx_] at k0 k1
  have HGX := Lib.hid hgx_
  clear hb0 K_ hw0 hgx_ HT
  go_enter Try.func88, Try.ntmps88
  go_upto_region 1 with (rw [← HW.out])
  try rw [← HW.out]
  rw [← HGX.out]
  go_wp2_with fail
  refine HC.out.mono ?_
  rintro e w1 ⟨u, v, rfl, hb1, hown⟩
  have HB1 := Lib.hid (HB0.out.trans (hb1.mono (by omega)))
  have HS := Lib.hid hown
  clear k0 k1 hown HC
  cases hd : (decide (A.size ≤ 40) && decide (B.size ≤ 40)) with
  | false =>
    have HNN := Lib.hid (HN.out (by rw [hd]; simp))
    clear hd hb1
    go_wp2
    go_ret2
    exact RetO.no rfl HNN.out HB1.out
  | true =>
    simp only [Bool.and_eq_true, decide_eq_true_eq] at hd
    obtain ⟨h1, h2⟩ := HS.out hd.1 hd.2
    have hs1 := hb1.size
    have HC := Lib.hid (HP.out w1 u v _ _ _ _ h1.sl (Nat.le_refl _) h2.sl (Nat.le_refl _))
    obtain ⟨ua, uc, rfl, _, _⟩ := h1.sl.shape
    obtain ⟨va, vc, rfl, _, _⟩ := h2.sl.shape
    clear h1 h2 hd hb1 HS HP HN
    go_wp2_with fail
    refine HC.out.mono ?_
    rintro e w3 h
    have HR := Lib.hid (h.after HB1.out)
    obtain ⟨u, b, rfl, -⟩ := h
    clear HC
    go_wp2
    go_ret2
    exact HR.out

set_option maxRecDepth 100000 in
set_option maxHeartbeats 1600000 in
theorem katI_ite (t : Int) (a b : PT) (ht : inB t 0 15 = true) (hoa : a.ok = true) (hob : b.ok = true) (ha : KatI a) (hb : KatI b) : KatI (.ite t a b) := by
  intro w hm
  simp only [PT.kat, KT.size] at hm
  have hka := PT.kat_ok hoa
  have hkb := PT.kat_ok hob
  show Calls Try.prog 94 #[.agg #[.int .i64 t, vP a, vP b]] w (RetO (fitK (.bin true (.bin false (.leaf t) a.kat) (.bin false (.leaf (15 - t)) b.kat))) w)
  have HT := Lib.hid fun w' => two_any a b ha hb w' (by omega) (by omega)
  have HP := Lib.hid (fun (w1 : World) (u v : Value) (lu hu lv hv : Nat) (hu1 : SlI lu hu w1 u a.kat.post) (hu2 : hu ≤ w1.heap.size) (hv1 : SlI lv hv w1 v b.kat.post) (hv2 : hv ≤ w1.heap.size) => katIf_any lu hu lv hv u v t a.kat b.kat w1 ht hka hkb hu1 hu2 hv1 hv2 (by omega) (by omega))
  have HN := Lib.hid (fun h : ¬ (decide (a.kat.size ≤ 40) && decide (b.kat.size ≤ 40)) = true => (show fitK (.bin true (.bin false (.leaf t) a.kat) (.bin false (.leaf (15 - t)) b.kat)) = none from fitK_no (by simp [KT.size] at h ⊢; omega)))
  obtain ⟨ya_, za_, hva_⟩ : ∃ y z, vP a = .iface y z := ⟨_, _, vP_parts a⟩
  obtain ⟨yb_, zb_, hvb_⟩ : ∃ y z, vP b = .iface y z := ⟨_, _, vP_parts b⟩
  rw [hva_, hvb_] at HT ⊢
  obtain ⟨r, hr⟩ : ∃ r, r = fitK (.bin true (.bin false (.leaf t) a.kat) (.bin false (.leaf (15 - t)) b.kat)) := ⟨_, rfl⟩
  rw [← hr] at HN HP ⊢
  obtain ⟨A, hA⟩ : ∃ A, A = a.kat := ⟨_, rfl⟩
  obtain ⟨B, hB⟩ : ∃ B, B = b.kat := ⟨_, rfl⟩
  rw [← hA] at HT HP HN
  rw [← hB] at HT HP HN
  clear hva_ hvb_ hr hA hB hka hkb hm ha hb hoa hob
  obtain ⟨w0, hw0⟩ : ∃ w0, w0 = w.alloc (.cells #[.int .i64 t, .iface ya_ za_, .iface yb_ zb_] 57) := ⟨_, rfl⟩
  obtain ⟨hb0, K_, hs0⟩ := box_facts3 hw0
  have HW := Lib.hid hw0
  have HB0 := Lib.hid hb0
  have KX := Lib.hid K_
  have hgl := K_.lt
  have k1 := K_.cell 1
  have k2 := K_.cell 2
  have HC := Lib.hid (HT.out w0)
  obtain ⟨gx, hgx_⟩ : ∃ gx, gx = w.heap.size := ⟨_, rfl⟩
  rw [← hgx_] at k1 k2 KX hgl
  have HGX := Lib.hid hgx_
  clear hb0 K_ hw0 hgx_ HT
  go_enter Try.func94, Try.ntmps94
  go_upto_region 1 with (rw [← HW.out])
  try rw [← HW.out]
  rw [← HGX.out]
  go_wp2_with fail
  refine HC.out.mono ?_
  rintro e w1 ⟨u, v, rfl, hb1, hown⟩
  have HB1 := Lib.hid (HB0.out.trans (hb1.mono (by omega)))
  have HS := Lib.hid hown
  have KY := Lib.hid (KX.out.below hb1 hgl)
  clear k1 k2 hown HC KX
  cases hd : (decide (A.size ≤ 40) && decide (B.size ≤ 40)) with
  | false =>
    have HNN := Lib.hid (HN.out (by rw [hd]; simp))
    clear hd hb1
    go_wp2
    go_ret2
    exact RetO.no rfl HNN.out HB1.out
  | true =>
    simp only [Bool.and_eq_true, decide_eq_true_eq] at hd
    obtain ⟨h1, h2⟩ := HS.out hd.1 hd.2
    have hs1 := hb1.size
    have HC := Lib.hid (HP.out w1 u v _ _ _ _ h1.sl (Nat.le_refl _) h2.sl (Nat.le_refl _))
    obtain ⟨ua, uc, rfl, _, _⟩ := h1.sl.shape
    obtain ⟨va, vc, rfl, _, _⟩ := h2.sl.shape
    have y0 := KY.out.cell 0
    clear h1 h2 hd hb1 HS HP HN
    go_wp2_with fail
    refine HC.out.mono ?_
    rintro e w3 h
    have HR := Lib.hid (h.after HB1.out)
    obtain ⟨u, b, rfl, -⟩ := h
    clear HC
    go_wp2
    go_ret2
    exact HR.out

set_option maxRecDepth 100000 in
set_option maxHeartbeats 1600000 in
theorem katI_wh (t : Int) (a : PT) (ht : inB t 0 15 = true) (hoa : a.ok = true) (ha : KatI a) : KatI (.wh t a) := by
  intro w hm
  simp only [PT.kat, KT.size] at hm
  have hka := PT.kat_ok hoa
  show Calls Try.prog 99 #[.agg #[.int .i64 t, vP a]] w (RetO (fitK (.bin false (.star (.bin false (.leaf t) a.kat)) (.leaf (15 - t)))) w)
  have hmm := fun w => m_kat a 225 w
  have hc := fk_enter a
  have HA := Lib.hid (ha (w.alloc (.cells #[.int .i64 t, vP a] 59)) (by omega))
  have HP := Lib.hid (fun (w1 : World) (u : Value) (lu hu : Nat) (hu1 : SlI lu hu w1 u a.kat.post) (hu2 : hu ≤ w1.heap.size) => katWhile_any lu hu u t a.kat w1 ht hka hu1 hu2 (by omega))
  have HN := Lib.hid (fun h : ¬ a.kat.size ≤ 40 => (show fitK (.bin false (.star (.bin false (.leaf t) a.kat)) (.leaf (15 - t))) = none from fitK_no (by simp [KT.size] at h ⊢; omega)))
  rw [vP_parts a] at HA ⊢
  obtain ⟨r, hr⟩ : ∃ r, r = fitK (.bin false (.star (.bin false (.leaf t) a.kat)) (.leaf (15 - t))) := ⟨_, rfl⟩
  rw [← hr] at HN HP ⊢
  obtain ⟨A, hA⟩ : ∃ A, A = a.kat := ⟨_, rfl⟩
  rw [← hA] at HA HP HN
  obtain ⟨ta, hta⟩ : ∃ ta, ta = tyP a := ⟨_, rfl⟩
  obtain ⟨ra, hra⟩ : ∃ ra, ra = rvP a := ⟨_, rfl⟩
  obtain ⟨fa, hfa⟩ : ∃ fa, fa = fkP a := ⟨_, rfl⟩
  rw [← hta, ← hra, ← hfa] at hmm
  rw [← hfa] at hc
  rw [← hfa, ← hra, ← hta] at HA
  rw [← hra, ← hta]
  clear hta hra hfa ha hka hm hr hA hoa ht
  obtain ⟨w0, hw0⟩ : ∃ w0, w0 = w.alloc (.cells #[.int .i64 t, .iface ta ra] 59) := ⟨_, rfl⟩
  obtain ⟨hb0, K_, hs0⟩ := box_facts3 hw0
  rw [← hw0] at HA
  have HW := Lib.hid hw0
  have KX := Lib.hid K_
  have HB0 := Lib.hid hb0
  have hgl := K_.lt
  have k1 := K_.cell 1
  obtain ⟨gx, hgx_⟩ : ∃ gx, gx = w.heap.size := ⟨_, rfl⟩
  rw [← hgx_] at KX k1 hgl
  have HGX := Lib.hid hgx_
  clear hb0 K_ hw0 hgx_
  go_enter Try.func99, Try.ntmps99
  go_upto_region 1 with (rw [← HW.out])
  try rw [← HW.out]
  rw [← HGX.out]
  go_wp2_with fail
  refine HA.out.mono ?_
  rintro e w1 h
  by_cases h1 : A.size ≤ 40
  · obtain ⟨xa, xc, rfl, ho1, hb1⟩ := h.some (fitK_yes h1)
    have hs1 := hb1.size
    have KY := Lib.hid (KX.out.below hb1 hgl)
    have HB1 := Lib.hid (HB0.out.trans (hb1.mono (by omega)))
    have HC := Lib.hid (HP.out w1 _ _ _ ho1.sl (Nat.le_refl _))
    have y0 := KY.out.cell 0
    clear h k1 KX ho1 hb1 HA HP HN h1
    go_wp2_with fail
    refine HC.out.mono ?_
    rintro e w3 h
    have HR := Lib.hid (h.after HB1.out)
    obtain ⟨u, b, rfl, -⟩ := h
    clear HC
    go_wp2
    go_ret2
    exact HR.out
  · obtain ⟨xa, xc, rfl, hb1⟩ := h.none (fitK_no h1)
    have HB1 := Lib.hid (HB0.out.trans (hb1.mono (by omega)))
    have HNN := Lib.hid (HN.out h1)
    clear h k1 KX hb1 HA HP HN h1
    go_wp2
    go_ret2
    exact RetO.no rfl HNN.out HB1.out
theorem katI_any : ∀ (T : PT), T.ok = true → KatI T
  | .one w, h => katI_one w
  | .seq a b, h => by
    simp only [PT.ok, Bool.and_eq_true] at h
    exact katI_seq a b h.1 h.2 (katI_any a h.1) (katI_any b h.2)
  | .ite t a b, h => by
    simp only [PT.ok, Bool.and_eq_true] at h
    exact katI_ite t a b h.1.1 h.1.2 h.2 (katI_any a h.1.2) (katI_any b h.2)
  | .wh t a, h => by
    simp only [PT.ok, Bool.and_eq_true] at h
    exact katI_wh t a h.1 h.2 (katI_any a h.2)
end

section
set_option linter.unusedVariables false

/-! Where programs end. -/
theorem kat_size : ∀ T : PT, T.kat.size ≤ 6 * T.size
  | .one _ => by simp [PT.kat, KT.size, PT.size]
  | .seq a b => by have := kat_size a; have := kat_size b; simp [PT.kat, KT.size, PT.size]; omega
  | .ite _ a b => by have := kat_size a; have := kat_size b; simp [PT.kat, KT.size, PT.size]; omega
  | .wh _ a => by have := kat_size a; simp [PT.kat, KT.size, PT.size]; omega
/-- The state to which a program leads. -/
noncomputable def endV (M : Mo) (p : List Int) (st : Int) : Int :=
  if (progK p).isSome && certB M && inB st 0 (M.n - 1) then
    (if ((rowsV M ((progK p).getD [])).getD st.toNat 0).toNat = 0 then -1 else ((tzN ((rowsV M ((progK p).getD [])).getD st.toNat 0).toNat : Nat) : Int))
  else -1
theorem endV_no1 {M : Mo} {p : List Int} {st : Int} (h : progK p = none) : endV M p st = -1 := by simp [endV, h]
theorem endV_no2 {M : Mo} {p : List Int} {st : Int} (h : certB M = false) : endV M p st = -1 := by simp [endV, h]
theorem endV_no3 {M : Mo} {p : List Int} {st : Int} (h : inB st 0 (M.n - 1) = false) : endV M p st = -1 := by simp [endV, h]
theorem progK_open {p e : List Int} (h : progK p = some e) : ∃ T : PT, T.ok = true ∧ p = T.post ∧ T.size ≤ 16 ∧ T.kat.size ≤ 40 ∧ e = T.kat.post ∧ treeP p = T ∧ katV e = true ∧ treeOf e = T.kat := by
  unfold progK at h
  split at h
  · rename_i hc
    simp only [Bool.and_eq_true, decide_eq_true_eq] at hc
    obtain ⟨T, h1, h2, h3, h4⟩ := progV_tree hc.1
    have ht := treeP_of h3
    rw [ht] at h hc
    injection h with h
    subst h
    exact ⟨T, h1, h2.symm, h4, hc.2, rfl, ht, katV_post (PT.kat_ok h1) hc.2, treeOf_post (PT.kat_ok h1)⟩
  · cases h
theorem progK_tree {T : PT} (h : T.ok = true) (hs : T.size ≤ 16) : progK T.post = if T.kat.size ≤ 40 then some T.kat.post else none := by
  rw [progK, progV_post h hs, treeP_of (runP_post T h [])]
  simp
/-- A row of the program's expression: no state, or one. -/
theorem end_row {M : Mo} {p e : List Int} {s : Nat} (hp : progK p = some e) (hM : certB M = true) (hs : s < M.n.toNat) :
    s < (rowsV M e).length ∧ ((rowsV M e).getD s 0).toNat < 32 ∧ ((((rowsV M e).getD s 0).toNat = 0 ∧ ∀ t, ¬ den (leafM M) (treeP p).kat s t) ∨
      (sole ((rowsV M e).getD s 0).toNat = true ∧ tzN ((rowsV M e).getD s 0).toNat < M.n.toNat ∧ den (leafM M) (treeP p).kat s (tzN ((rowsV M e).getD s 0).toNat))) ∧ ∃ x : Nat, (rowsV M e).getD s 0 = x := by
  obtain ⟨T, h1, h2, h3, h4, h5, h6, h7, h8⟩ := progK_open hp
  have hm := certB_mod hM
  have hn5 : M.n.toNat ≤ 5 := by
    simp only [modB, inB, Bool.and_eq_true, decide_eq_true_eq] at hm
    omega
  have hS := machM_sure hM
  have he : rowsV M e = rowsR M.n.toNat (den (leafM M) T.kat) := by rw [rowsV, hm, h7, h8]; rfl
  have hl : s < (rowsV M e).length := by rw [he, rowsR_length]; exact hs
  have hg : (rowsV M e).getD s 0 = ((bitsN M.n.toNat (den (leafM M) T.kat s) : Nat) : Int) := by
    rw [List.getD_eq_getElem?_getD, List.getElem?_eq_getElem hl, Option.getD_some]
    simp only [he]
    exact rowsR_get _ _ s (by rw [rowsR_length]; exact hs)
  have hlt := bitsN_lt (den (leafM M) T.kat s) M.n.toNat
  have hlt2 : bitsN M.n.toNat (den (leafM M) T.kat s) < 32 := Nat.lt_of_lt_of_le hlt (Nat.pow_le_pow_right (by omega) hn5 : 2 ^ M.n.toNat ≤ 2 ^ 5)
  rw [hg, Int.toNat_natCast, h6]
  refine ⟨hl, hlt2, ?_, _, rfl⟩
  by_cases hex : ∃ t, den (leafM M) T.kat s t
  · obtain ⟨t, ht⟩ := hex
    have htn := hS.closed h1 s t hs ht
    have hx : bitsN M.n.toNat (den (leafM M) T.kat s) = 2 ^ t := by
      refine (bitsN_eq (Nat.pow_lt_pow_right (by omega) htn) fun k hk => ?_).symm
      rw [Nat.testBit_two_pow, decide_eq_true_eq]
      constructor
      · rintro rfl; exact ht
      · intro hk2; exact hS.det h1 hs ht hk2
    have h5t := sole_two (k := t) (by omega)
    rw [hx]
    refine .inr ⟨h5t.1, by rw [h5t.2]; exact htn, by rw [h5t.2]; exact ht⟩
  · refine .inl ⟨?_, fun t ht => hex ⟨t, ht⟩⟩
    have h0 : (0 : Nat) = bitsN M.n.toNat (den (leafM M) T.kat s) := bitsN_eq (Nat.pos_of_ne_zero (by simp)) fun k _ => by
      simp only [Nat.zero_testBit, Bool.false_eq_true, false_iff]
      exact fun h => hex ⟨k, h⟩
    exact h0.symm
theorem endV_some {M : Mo} {p e : List Int} {s : Nat} (hp : progK p = some e) (hM : certB M = true) (hs : s < M.n.toNat) :
    endV M p s = if ((rowsV M e).getD s 0).toNat = 0 then -1 else ((tzN ((rowsV M e).getD s 0).toNat : Nat) : Int) := by
  rw [endV, hp, hM, show inB (s : Int) 0 (M.n - 1) = true by simp [inB]; omega]
  simp
/-- Where it leads, if it leads anywhere. -/
theorem endV_den {M : Mo} {p e : List Int} {s : Nat} (hp : progK p = some e) (hM : certB M = true) (hs : s < M.n.toNat) :
    (endV M p s = -1 ∧ ∀ t, ¬ den (leafM M) (treeP p).kat s t) ∨ ∃ t : Nat, endV M p s = t ∧ t < M.n.toNat ∧ den (leafM M) (treeP p).kat s t := by
  rw [endV_some hp hM hs]
  obtain ⟨h1, h2, h3, _⟩ := end_row hp hM hs
  rcases h3 with ⟨h3, h4⟩ | ⟨h3, h4, h5⟩
  · rw [if_pos h3]; exact .inl ⟨rfl, h4⟩
  · rw [if_neg (fun h => by rw [h] at h3; cases h3)]
    exact .inr ⟨_, rfl, h4, h5⟩

/-! Codes of programs. -/
theorem code_ins {N : Int} : ∀ (T : PT), T.ok = true → ∀ n : Nat, (n : Int) + (T.code n).length < N → ∀ x ∈ T.code n, insB N x = true
  | .one w, h, n, hn, x, hx => by
    simp only [PT.code] at hx
    split at hx
    · cases hx
    · simp only [List.mem_singleton] at hx
      subst hx
      simp only [PT.ok, inB, Bool.and_eq_true, decide_eq_true_eq] at h
      simp [insB, inB]; omega
  | .seq a b, h, n, hn, x, hx => by
    simp only [PT.ok, Bool.and_eq_true] at h
    simp only [PT.code, List.length_append, List.mem_append] at hn hx
    rcases hx with hx | hx
    · exact code_ins a h.1 n (by omega) x hx
    · exact code_ins b h.2 _ (by omega) x hx
  | .ite t a b, h, n, hn, x, hx => by
    simp only [PT.ok, Bool.and_eq_true] at h
    have ht := h.1.1
    simp only [inB, Bool.and_eq_true, decide_eq_true_eq] at ht
    simp only [PT.code, List.length_append, List.mem_append, List.length_singleton, List.mem_singleton] at hn hx
    rcases hx with ((rfl | hx) | rfl) | hx
    · simp [insB, inB]; omega
    · exact code_ins a h.1.2 (n + 1) (by omega) x hx
    · simp [insB, inB]; omega
    · exact code_ins b h.2 _ (by omega) x hx
  | .wh t a, h, n, hn, x, hx => by
    simp only [PT.ok, Bool.and_eq_true] at h
    have ht := h.1
    simp only [inB, Bool.and_eq_true, decide_eq_true_eq] at ht
    simp only [PT.code, List.length_append, List.mem_append, List.length_singleton, List.mem_singleton] at hn hx
    rcases hx with (rfl | hx) | rfl
    · simp [insB, inB]; omega
    · exact code_ins a h.2 (n + 1) (by omega) x hx
    · simp [insB, inB]; omega
theorem code_two : ∀ (T : PT) (n : Nat), (T.code n).length ≤ 2 * T.size
  | .one w, n => by simp only [PT.code, PT.size]; split <;> simp
  | .seq a b, n => by
    have h1 := code_two a n
    have h2 := code_two b (n + (a.code n).length)
    simp only [PT.code, PT.size, List.length_append]
    omega
  | .ite t a b, n => by
    have h1 := code_two a (n + 1)
    have h2 := code_two b (n + (a.code (n + 1)).length + 2)
    simp only [PT.code, PT.size, List.length_append, List.length_singleton]
    omega
  | .wh t a, n => by
    have h1 := code_two a (n + 1)
    simp only [PT.code, PT.size, List.length_append, List.length_singleton]
    omega
theorem codeV_tree {T : PT} (h : T.ok = true) (hs : T.size ≤ 16) : codeV (T.code 0 ++ [endI]) = true := by
  have hl := code_two T 0
  have hN : (((T.code 0 ++ [endI]).length : Nat) : Int) = ((T.code 0).length : Int) + 1 := by simp
  refine codeV_iff.2 ⟨by simp, by simp; omega, fun i hi => ?_, ?_⟩
  · rw [insAt_get hi, hN]
    have hm : (T.code 0 ++ [endI])[i] ∈ T.code 0 ++ [endI] := List.getElem_mem hi
    rcases List.mem_append.1 hm with hm | hm
    · exact code_ins T h 0 (by omega) _ hm
    · simp only [List.mem_singleton] at hm
      rw [hm]
      simp [insB, endI]
  · have : insAt (T.code 0 ++ [endI]) ((T.code 0 ++ [endI]).length - 1) = endI := by
      rw [insAt_get (by simp)]
      simp
    rw [this]; decide
theorem lies_code (T : PT) : Lies (T.code 0 ++ [endI]) 0 (T.code 0) := fun i hi => by
  rw [Nat.zero_add, insAt_get (by simp; omega), List.getElem_append_left hi]
/-- The machine does what the program says. -/
theorem machine_ends {M : Mo} {p e : List Int} {s : Nat} (hp : progK p = some e) (hM : certB M = true) (hs : s < M.n.toNat) : (crV M ((treeP p).code 0 ++ [endI]) s).1 = endV M p s := by
  obtain ⟨T, h1, h2, h3, h4, h5, h6, h7, h8⟩ := progK_open hp
  have hv := codeV_tree h1 h3
  have hS := machM_sure hM
  have hd := endV_den hp hM hs
  rw [h6] at hd ⊢
  obtain ⟨c, hc⟩ : ∃ c, c = T.code 0 ++ [endI] := ⟨_, rfl⟩
  have hL : Lies c 0 (T.code 0) := by rw [hc]; exact lies_code T
  have hend : insAt c (0 + (T.code 0).length) = endI := by rw [hc, insAt_get (by simp)]; simp
  rw [← hc] at hv ⊢
  have hc0 := codeV_iff.1 hv
  rw [crV, hM, hv, show inB (s : Int) 0 (M.n - 1) = true by simp [inB]; omega]
  simp only [Bool.and_self, if_true, Int.toNat_natCast]
  have hst : ∀ t, stepC (machM M) c (0 + (T.code 0).length, t) = none := fun t => stepC_end (by rw [hend]; rfl)
  rcases hd with ⟨d1, d2⟩ | ⟨t, d1, d2, d3⟩
  · rw [d1]
    cases hr : runS (stepC (machM M) c) (c.length * M.n.toNat) (0, s) with
    | none => rw [runV_none hr]
    | some r =>
      obtain ⟨t, f', r', g1, _, g3, g4⟩ := code_back hS _ T h1 hs hL hr
      exact absurd g1 (d2 t)
  · rw [d1]
    have hst1 := code_fwd hS h1 hs hL d3
    obtain ⟨f', k, hr⟩ := hst1.run (f := 1) (r := ((0 + (T.code 0).length, t), 1)) (runS_end (hst t))
    obtain ⟨k1, k2, k3⟩ := runC_soon (p := (0, s)) hc0 (machM_in hM) ⟨hc0.pos, hs⟩ hr
    obtain ⟨k4, k5, _⟩ := runS_count hr
    rw [runV_some (runS_mono k5 k1)]
end

section
set_option linter.unusedVariables false

theorem readW_no {p : List Int} (h : progV p = false) : readW p = .nilIface := by rw [readW, h]; rfl
theorem readW_yes {p : List Int} (h : progV p = true) : readW p = vP (treeP p) := by rw [readW, h]; rfl
set_option maxRecDepth 100000 in
set_option maxHeartbeats 1600000 in
theorem impl_ProgKat (lo hi : Nat) (v : Value) (p : List Int) (w : World) (hx : SlI lo hi w v p) (hh : hi ≤ w.heap.size) (hm : p.length ≤ 1048576) :
    Calls Try.prog 5 #[v] w (RetO (progK p) w) := by
  have HR := Lib.hid (impl_readProgram lo hi v p w hx hh hm)
  obtain ⟨a, cap, rfl, _, _⟩ := hx.shape
  clear hx
  cases hv : progV p with
  | false =>
    have HK := Lib.hid (show progK p = none by simp [progK, hv])
    rw [readW_no hv] at HR
    clear hv
    go_enter Try.func5, Try.ntmps5
    go_wp2_with fail
    refine HR.out.mono ?_
    rintro e w1 ⟨_, rfl, rfl, hb⟩
    have HB := Lib.hid hb
    clear hb HR
    go_wp2
    go_ret2
    exact RetO.no rfl HK.out HB.out
  | true =>
    obtain ⟨T, h1, h2, h3, h4⟩ := progV_tree hv
    have ht := treeP_of h3
    have HK := Lib.hid (show fitK T.kat = progK p by rw [progK, hv, ht]; simp [fitK])
    have hks := kat_size T
    have HC := Lib.hid fun w' => katI_any T h1 w' (by omega)
    rw [readW_yes hv, ht, vP_parts T] at HR
    have hmm := fun w => m_kat T 225 w
    have hc := fk_enter T
    obtain ⟨ta, hta⟩ : ∃ ta, ta = tyP T := ⟨_, rfl⟩
    obtain ⟨ra, hra⟩ : ∃ ra, ra = rvP T := ⟨_, rfl⟩
    obtain ⟨fa, hfa⟩ : ∃ fa, fa = fkP T := ⟨_, rfl⟩
    rw [← hta, ← hra, ← hfa] at hmm
    rw [← hfa] at hc
    rw [← hfa, ← hra] at HC
    rw [← hra, ← hta] at HR
    rw [HK.out] at HC
    clear hv h1 h2 h3 h4 ht HK hks hta hra hfa
    go_enter Try.func5, Try.ntmps5
    go_wp2_with fail
    refine HR.out.mono ?_
    rintro e w1 ⟨_, rfl, rfl, hb⟩
    have HB := Lib.hid hb
    have HC1 := Lib.hid (HC.out w1)
    clear hb HR HC
    go_wp2_with fail
    refine HC1.out.mono ?_
    rintro e w2 h
    have HF := Lib.hid (h.after HB.out)
    obtain ⟨u, b, rfl, -⟩ := h
    clear HC1
    go_wp2
    go_ret2
    exact HF.out
end
end Go.Proofs.Ytoondakdjhhehaa
