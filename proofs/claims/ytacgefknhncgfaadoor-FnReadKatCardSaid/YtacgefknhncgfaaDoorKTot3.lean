/-
  Texts of walks and plain lemmas for this seat; no condition.
-/
import Derived.Test.YtacgefknhncgfaaDoorKTot2
import Derived.Test.YtacgefknhncgfaaDoorGB
import Derived.Recover
import Derived.Defers
namespace Go.Proofs.YtacgefknhncgfaaDoor
open Go.RowKit
set_option linter.unusedVariables false

set_option maxRecDepth 100000 in
set_option maxHeartbeats 1600000 in
/-- The deferred function behind the reader's panic: it hands back nothing. -/
theorem readKat_catch (g : Nat) (x : Value) (b : Bool) (w : World) (hp : Blk g (.cells #[x] 24) w) (hq : Blk (g + 1) (.cells #[.bool b] 4) w) :
    CallsD Tryd.prog 15 #[.pointer (some ⟨g, 0, none⟩), .pointer (some ⟨g + 1, 0, none⟩)] (.panicking wrongP) w fun e u' w' => e = .returned (.tuple #[]) ∧ u' = .panicking [{ v := .iface 38 (.agg #[]), recovered := true }] ∧
      w' = ((w.alloc (.cells #[] 38)).setCell ⟨g, 0, none⟩ (.slice none 0 0)).setCell ⟨g + 1, 0, none⟩ (.bool false) := by
  unfold wrongP
  have hta : ∀ w : World, (Instr.typeAssert (.iface 38 (.agg #[])) 20 38 true).run Tryd.prog w = .ok (.tuple #[.agg #[], .bool true]) w := fun _ => by rfl
  have hpa := hp.below (al_below w (.cells #[] 38)) hp.lt
  have hqa := hq.below (al_below w (.cells #[] 38)) hq.lt
  have c0 := hpa.cell 0
  have f0 := hpa.free 0
  have c1 : ((w.alloc (.cells #[] 38)).setCell ⟨g, 0, none⟩ (.slice none 0 0)).cell? ⟨g + 1, 0, none⟩ = some (.bool b) := (World.cell?_setCell_other _ _ _ _ (by simp)).trans (hqa.cell 0)
  have f1 : ((w.alloc (.cells #[] 38)).setCell ⟨g, 0, none⟩ (.slice none 0 0)).frozen? ⟨g + 1, 0, none⟩ = false := by
    have hO := Outside.put g 0 (w.alloc (.cells #[] 38)) (.slice none 0 0)
    exact (Blk.outside hqa hO (.inr (by omega))).free 0
  refine callsD_of_wpS Tryd.func15 rfl fun c₀ cs hu => ?_
  apply wpS_seq
  apply wpS_region
  simp [wpOpsS, go_sem, recoverD, hu, Tryd.ntmps15, Exit.thenS]
  refine wpS_of_wp ?_
  change Code.wp _ _ _ { tmps := #[.pointer (some ⟨g, 0, none⟩), .pointer (some ⟨g + 1, 0, none⟩), undef, undef, undef, .iface 38 (.agg #[]), undef, undef, undef, undef, undef], defers := [] } w
  go_wp2
  cases c₀
  simp_all [bodyPostS, results, Tryd.results15]

/-- A value and a truth come back. -/
def RetVK (P : Value → Bool → World → Prop) (e : Ending) (w' : World) : Prop := ∃ v b, e = .returned (.tuple #[v, .bool b]) ∧ P v b w'
theorem readF_long {s : List UInt8} (h : ¬ s.length ≤ 199) : readF s = none := by rw [readF, if_neg h]
theorem readF_at {s : List UInt8} (h : s.length ≤ 199) : readF s = match sumF 200 s with
    | some (e, []) => if katV e then some e else none
    | _ => none := by
  rw [readF, if_pos h, sumF_short h (n := 200) (by omega)]
  cases sumF 100 s with
  | none => rfl
  | some x =>
    obtain ⟨e, r⟩ := x
    cases r <;> rfl

set_option maxRecDepth 100000 in
set_option maxHeartbeats 3200000 in
/-- ReadKat of any text. -/
theorem impl_ReadKat_tot (txt : List UInt8) (s : ByteArray) (hs : s = ⟨txt.toArray⟩) (w : World) (hM : MapT w) (hl : txt.length ≤ 1048576) :
    Calls Tryd.prog 5 #[.string s] w (RetVK fun v ok w' => ok = (readF txt).isSome ∧ OwnI w.heap.size w'.heap.size 3 w' v ((readF txt).getD []) ∧ Below w.heap.size w w') := by
  subst hs
  have hmf : ∀ (fn : Fn) (first cap : Array Value) (w : World), (Instr.makeFunc fn first cap).run Tryd.prog w = .ok (.func fn first cap) w := fun _ _ _ _ => rfl
  have HM := Lib.hid hM.mapB
  clear hM
  by_cases h199 : txt.length ≤ 199
  · have HRF := Lib.hid (readF_at h199)
    obtain ⟨w3, hw3⟩ : ∃ w3, w3 = (((w.alloc (.cells #[.slice none 0 0] 24)).alloc (.cells #[.bool false] 4)).alloc (.cells #[.string ⟨txt.toArray⟩, .int .i64 0] 41)) := ⟨_, rfl⟩
    have hb : Below w.heap.size w w3 := by rw [hw3]; exact (((Below.refl _ _).alloc (Nat.le_refl _) _).alloc (by simp) _).alloc (by simp; omega) _
    have hsz : w3.heap.size = w.heap.size + 3 := by rw [hw3]; simp
    have hh0 : Blk w.heap.size (.cells #[.slice none 0 0] 24) w3 := by
      rw [hw3]
      exact ((Blk.new w _).below ((Below.refl _ _).alloc (Nat.le_refl _) _) (by simp)).below ((Below.refl _ _).alloc (Nat.le_refl _) _) (by simp; omega)
    have hh1 : Blk (w.heap.size + 1) (.cells #[.bool false] 4) w3 := by
      have h := Blk.new (w.alloc (.cells #[.slice none 0 0] 24)) (.cells #[.bool false] 4)
      rw [alloc_size] at h
      rw [hw3]
      exact h.below ((Below.refl _ _).alloc (Nat.le_refl _) _) (by simp)
    have hh2 : Blk (w.heap.size + 2) (.cells #[.string ⟨txt.toArray⟩, .int .i64 0] 41) w3 := by
      have h := Blk.new ((w.alloc (.cells #[.slice none 0 0] 24)).alloc (.cells #[.bool false] 4)) (.cells #[.string ⟨txt.toArray⟩, .int .i64 0] 41)
      rw [alloc_size, alloc_size] at h
      rw [hw3]
      exact h
    have HK := Lib.hid (show KR (w.heap.size + 2) w3 txt txt from ⟨by rw [show w3.heap[w.heap.size + 2]? = _ from hh2]; simp, by simp, Nat.le_refl _, h199⟩)
    have HB := Lib.hid hb
    have HW := Lib.hid hw3
    have H0 := Lib.hid hh0
    have H1 := Lib.hid hh1
    clear hh0 hh1 hh2 hb hw3
    replace HM := Lib.hid (HM.out.below HB.out (Nat.le_refl _))
    go_enter_defers Tryd.func5, Tryd.ntmps5
    go_wp2_with fail
    simp only [← HW.out]
    refine (sumF_tot 200 w.heap.size (w.heap.size + 2) w3 txt txt HK.out (by omega) (by omega) HM.out).mono ?_
    rintro e' w4 (⟨e, r, hp, v, rfl, hown, hk, ho⟩ | ⟨hp, rfl, ho⟩)
    · obtain ⟨a, cap, rfl, _⟩ := Own.open hown
      have hs4 := ho.size
      replace H0 := Lib.hid (Blk.outside H0.out ho (.inl (by omega)))
      replace H1 := Lib.hid (Blk.outside H1.out ho (.inl (by omega)))
      replace HB := Lib.hid (Below.outside HB.out ho (by omega) HB.out.size)
      have HV := Lib.hid hown
      have HP := Lib.hid hp
      obtain ⟨k1, k2, k3, _⟩ := hk
      have c1 : w4.cell? ⟨w.heap.size + 2, 1, none⟩ = some (.int .i64 ((txt.length - r.length : Nat) : Int)) := by rw [Lib.cell_of_heap k1]; rfl
      have helen : e.length ≤ 1048576 := by have := short_sumF 200 _ _ _ hp; omega
      clear k1 k2 ho hown HK hp
--TAIL
      have e0 : w4.cell? ⟨w.heap.size, 0, none⟩ = some (.slice none 0 0) := H0.out.cell 0
      have e1 : w4.cell? ⟨w.heap.size + 1, 0, none⟩ = some (.bool false) := H1.out.cell 0
      have f0 : w4.frozen? ⟨w.heap.size, 0, none⟩ = false := H0.out.free 0
      have f1 : w4.frozen? ⟨w.heap.size + 1, 0, none⟩ = false := H1.out.free 0
      cases r with
      | nil =>
        simp only [List.length_nil, Nat.sub_zero] at c1
        cases hkv : katV e
        · have HRES := Lib.hid (show readF txt = none by rw [HRF.out, HP.out]; simp [hkv])
          go_wp2_with fail
          refine (impl_KatValid _ _ _ e _ HV.out.sl helen).mono ?_
          rintro e' w5 ⟨rfl, rfl⟩
          rw [hkv]
          go_wp2
          obtain ⟨wz, hwz⟩ : ∃ wz, wz = ((w4.setCell ⟨w.heap.size, 0, none⟩ (.slice none 0 0)).setCell ⟨w.heap.size + 1, 0, none⟩ (.bool false)) := ⟨_, rfl⟩
          have hoz : Outside w.heap.size (w.heap.size + 2) w4 wz := by
            rw [hwz]
            exact ((Outside.refl _ _ _).setCell (p := ⟨w.heap.size, 0, none⟩) (Nat.le_refl _) (by show w.heap.size < _; omega) _).setCell (p := ⟨w.heap.size + 1, 0, none⟩) (by show w.heap.size ≤ w.heap.size + 1; omega) (by show w.heap.size + 1 < _; omega) _
          have z0 : wz.cell? ⟨w.heap.size, 0, none⟩ = some (.slice none 0 0) := by
            rw [hwz]
            exact (World.cell?_setCell_other _ _ _ _ (by simp)).trans (World.cell?_setCell_same _ _ _ e0)
          have z1 : wz.cell? ⟨w.heap.size + 1, 0, none⟩ = some (.bool false) := by
            rw [hwz]
            exact World.cell?_setCell_same _ _ _ ((World.cell?_setCell_other _ _ _ _ (by simp)).trans e1)
          simp only [← hwz]
          clear hwz
          refine leaves_cons (f := 15) (args := #[.pointer (some ⟨w.heap.size, 0, none⟩), .pointer (some ⟨w.heap.size + 1, 0, none⟩)]) (by simp) (by simp [go_sem]) ?_
          refine (readKat_idle _ _ _).mono ?_
          rintro e' u' w'' ⟨rfl, rfl, rfl⟩
          simp [Leaves, settle, results, Tryd.results5, go_sem, z0, z1]
          exact ⟨_, _, rfl, by rw [HRES.out]; rfl, by rw [HRES.out]; exact Own.nil _ _ _ _ _, Below.outside HB.out hoz (Nat.le_refl _) HB.out.size⟩
        · have HRES := Lib.hid (show readF txt = some e by rw [HRF.out, HP.out]; simp [hkv])
          go_wp2_with fail
          refine (impl_KatValid _ _ _ e _ HV.out.sl helen).mono ?_
          rintro e' w5 ⟨rfl, rfl⟩
          rw [hkv]
          go_wp2
          obtain ⟨wz, hwz⟩ : ∃ wz, wz = ((w4.setCell ⟨w.heap.size, 0, none⟩ (.slice a e.length cap)).setCell ⟨w.heap.size + 1, 0, none⟩ (.bool true)) := ⟨_, rfl⟩
          have hoz : Outside w.heap.size (w.heap.size + 2) w4 wz := by
            rw [hwz]
            exact ((Outside.refl _ _ _).setCell (p := ⟨w.heap.size, 0, none⟩) (Nat.le_refl _) (by show w.heap.size < _; omega) _).setCell (p := ⟨w.heap.size + 1, 0, none⟩) (by show w.heap.size ≤ w.heap.size + 1; omega) (by show w.heap.size + 1 < _; omega) _
          have z0 : wz.cell? ⟨w.heap.size, 0, none⟩ = some (.slice a e.length cap) := by
            rw [hwz]
            exact (World.cell?_setCell_other _ _ _ _ (by simp)).trans (World.cell?_setCell_same _ _ _ e0)
          have z1 : wz.cell? ⟨w.heap.size + 1, 0, none⟩ = some (.bool true) := by
            rw [hwz]
            exact World.cell?_setCell_same _ _ _ ((World.cell?_setCell_other _ _ _ _ (by simp)).trans e1)
          simp only [← hwz]
          clear hwz
          refine leaves_cons (f := 15) (args := #[.pointer (some ⟨w.heap.size, 0, none⟩), .pointer (some ⟨w.heap.size + 1, 0, none⟩)]) (by simp) (by simp [go_sem]) ?_
          refine (readKat_idle _ _ _).mono ?_
          rintro e' u' w'' ⟨rfl, rfl, rfl⟩
          simp [Leaves, settle, results, Tryd.results5, go_sem, z0, z1]
          exact ⟨_, _, rfl, by rw [HRES.out]; rfl, by rw [HRES.out]; exact (HV.out.outside hoz (.inr (by omega))).wide2 (by omega) hoz.size, Below.outside HB.out hoz (Nat.le_refl _) HB.out.size⟩
      | cons c r =>
        have HRES := Lib.hid (show readF txt = none by rw [HRF.out, HP.out])
        simp only [List.length_cons] at c1 k3
        have l1 : (((txt.length - (r.length + 1) : Nat) : Int) < (txt.length : Int)) := by omega
        obtain ⟨at_, hat⟩ : ∃ n, n = txt.length - (r.length + 1) := ⟨_, rfl⟩
        rw [← hat] at c1 l1
        clear hat
        go_wp2
        obtain ⟨wz, hwz⟩ : ∃ wz, wz = ((w4.setCell ⟨w.heap.size, 0, none⟩ (.slice none 0 0)).setCell ⟨w.heap.size + 1, 0, none⟩ (.bool false)) := ⟨_, rfl⟩
        have hoz : Outside w.heap.size (w.heap.size + 2) w4 wz := by
          rw [hwz]
          exact ((Outside.refl _ _ _).setCell (p := ⟨w.heap.size, 0, none⟩) (Nat.le_refl _) (by show w.heap.size < _; omega) _).setCell (p := ⟨w.heap.size + 1, 0, none⟩) (by show w.heap.size ≤ w.heap.size + 1; omega) (by show w.heap.size + 1 < _; omega) _
        have z0 : wz.cell? ⟨w.heap.size, 0, none⟩ = some (.slice none 0 0) := by
          rw [hwz]
          exact (World.cell?_setCell_other _ _ _ _ (by simp)).trans (World.cell?_setCell_same _ _ _ e0)
        have z1 : wz.cell? ⟨w.heap.size + 1, 0, none⟩ = some (.bool false) := by
          rw [hwz]
          exact World.cell?_setCell_same _ _ _ ((World.cell?_setCell_other _ _ _ _ (by simp)).trans e1)
        simp only [← hwz]
        clear hwz
        refine leaves_cons (f := 15) (args := #[.pointer (some ⟨w.heap.size, 0, none⟩), .pointer (some ⟨w.heap.size + 1, 0, none⟩)]) (by simp) (by simp [go_sem]) ?_
        refine (readKat_idle _ _ _).mono ?_
        rintro e' u' w'' ⟨rfl, rfl, rfl⟩
        simp [Leaves, settle, results, Tryd.results5, go_sem, z0, z1]
        exact ⟨_, _, rfl, by rw [HRES.out]; rfl, by rw [HRES.out]; exact Own.nil _ _ _ _ _, Below.outside HB.out hoz (Nat.le_refl _) HB.out.size⟩
    · have HRES := Lib.hid (show readF txt = none by rw [HRF.out, hp])
      have hs4 := ho.size
      replace H0 := Lib.hid (Blk.outside H0.out ho (.inl (by omega)))
      replace H1 := Lib.hid (Blk.outside H1.out ho (.inl (by omega)))
      replace HB := Lib.hid (Below.outside HB.out ho (by omega) HB.out.size)
      clear ho hp HK
      refine leaves_cons (f := 15) (args := #[.pointer (some ⟨w.heap.size, 0, none⟩), .pointer (some ⟨w.heap.size + 1, 0, none⟩)]) (by simp) (by simp [go_sem]) ?_
      refine (readKat_catch _ _ _ w4 H0.out H1.out).mono ?_
      rintro e' u' w'' ⟨rfl, rfl, hwz⟩
      have hz4 : (w4.alloc (.cells #[] 38)).heap.size = w4.heap.size + 1 := alloc_size _ _
      have hoz : Outside w.heap.size (w.heap.size + 2) (w4.alloc (.cells #[] 38)) w'' := by
        rw [hwz]
        exact ((Outside.refl _ _ _).setCell (p := ⟨w.heap.size, 0, none⟩) (Nat.le_refl _) (by show w.heap.size < _; omega) _).setCell (p := ⟨w.heap.size + 1, 0, none⟩) (by show w.heap.size ≤ w.heap.size + 1; omega) (by show w.heap.size + 1 < _; omega) _
      have e0 := (H0.out.below (al_below w4 (.cells #[] 38)) H0.out.lt).cell 0
      have e1 := (H1.out.below (al_below w4 (.cells #[] 38)) H1.out.lt).cell 0
      have z0 : w''.cell? ⟨w.heap.size, 0, none⟩ = some (.slice none 0 0) := by
        rw [hwz]
        exact (World.cell?_setCell_other _ _ _ _ (by simp)).trans (World.cell?_setCell_same _ _ _ e0)
      have z1 : w''.cell? ⟨w.heap.size + 1, 0, none⟩ = some (.bool false) := by
        rw [hwz]
        exact World.cell?_setCell_same _ _ _ ((World.cell?_setCell_other _ _ _ _ (by simp)).trans e1)
      clear hwz
      simp [Leaves, settle, results, Tryd.results5, go_sem, z0, z1]
      exact ⟨_, _, rfl, by rw [HRES.out]; rfl, by rw [HRES.out]; exact Own.nil _ _ _ _ _, Below.outside (HB.out.trans ((al_below w4 _).mono HB.out.size)) hoz (Nat.le_refl _) (by have := HB.out.size; omega)⟩
  · have HRES := Lib.hid (readF_long h199)
    obtain ⟨w2, hw2⟩ : ∃ w2, w2 = ((w.alloc (.cells #[.slice none 0 0] 24)).alloc (.cells #[.bool false] 4)) := ⟨_, rfl⟩
    have hb : Below w.heap.size w w2 := by rw [hw2]; exact ((Below.refl _ _).alloc (Nat.le_refl _) _).alloc (by simp) _
    have hsz : w2.heap.size = w.heap.size + 2 := by rw [hw2]; simp
    have H0 : Hid (Blk w.heap.size (.cells #[.slice none 0 0] 24) w2) := by
      rw [hw2]
      exact Lib.hid ((Blk.new w _).below ((Below.refl _ _).alloc (Nat.le_refl _) _) (by simp))
    have H1 : Hid (Blk (w.heap.size + 1) (.cells #[.bool false] 4) w2) := by
      have h := Blk.new (w.alloc (.cells #[.slice none 0 0] 24)) (.cells #[.bool false] 4)
      rw [alloc_size] at h
      rw [hw2]
      exact Lib.hid h
    have HB := Lib.hid hb
    have e0 : w2.cell? ⟨w.heap.size, 0, none⟩ = some (.slice none 0 0) := H0.out.cell 0
    have e1 : w2.cell? ⟨w.heap.size + 1, 0, none⟩ = some (.bool false) := H1.out.cell 0
    have f0 : w2.frozen? ⟨w.heap.size, 0, none⟩ = false := H0.out.free 0
    have f1 : w2.frozen? ⟨w.heap.size + 1, 0, none⟩ = false := H1.out.free 0
    rw [hw2] at e0 e1 f0 f1
    have HW2 := Lib.hid hw2
    clear hw2 hb
    go_enter_defers Tryd.func5, Tryd.ntmps5
    go_wp2
    simp [bodyPostD, Leaves, results, Tryd.results5, go_sem, e0, e1]
    rw [← HW2.out]
    exact ⟨_, _, rfl, by rw [HRES.out]; rfl, by rw [HRES.out]; exact Own.nil _ _ _ _ _, HB.out⟩
end Go.Proofs.YtacgefknhncgfaaDoor
