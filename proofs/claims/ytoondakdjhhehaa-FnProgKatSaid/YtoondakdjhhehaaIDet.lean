/-
  Texts of walks and plain lemmas for this seat; no condition.
-/
import Derived.Test.YtoondakdjhhehaaGT
import Derived.Test.YtoondakdjhhehaaGA
import Derived.Deep.DrawnRows
namespace Go.Proofs.Ytoondakdjhhehaa
open Go.RowKit
set_option linter.unusedVariables false

/-- How many parts there are behind an atom and the first j actions. -/
def leftTo (t : KT) (α : Nat) : Nat → Nat
  | 0 => 0
  | j + 1 => leftTo t α j + (moveP t (3 * α + j)).length
theorem leftTo_three (t : KT) (α : Nat) : leftTo t α 3 = leftN t α := by simp [leftTo, leftN]
theorem leftTo_le {t : KT} (ht : t.ok 0 = true) (hs : t.size ≤ 1640) {α : Nat} : ∀ j, j ≤ 3 → leftTo t α j ≤ j * 1640
  | 0, _ => by simp [leftTo]
  | j + 1, hj => by
    have ih := leftTo_le ht hs (α := α) j (by omega)
    have h := partsV_len ht (α := α) (c := 16 + (j : Int)) (by omega)
    have e : moveP t (3 * α + j) = partsV t α (16 + (j : Int)) := by
      unfold moveP
      rw [show (3 * α + j) / 3 = α by omega, show (3 * α + j) % 3 = j by omega]
    rw [leftTo, e]
    omega
set_option maxRecDepth 100000 in
set_option maxHeartbeats 3200000 in
/-- Programs never choose. -/
theorem det_program (lo hi : Nat) (v : Value) (T : PT) (w : World) (hx : SlI lo hi w v T.kat.post) (hh : hi ≤ w.heap.size) (hT : T.ok = true) (hsz : T.kat.size ≤ 40) :
    Calls Try.prog 10 #[v] w fun e w' => e = .returned (.bool true) ∧ Below w.heap.size w w' := by
  have hok := PT.kat_ok hT
  have hpl := T.kat.post_length
  have HKV := Lib.hid (impl_KatValid lo hi v T.kat.post w hx (by omega))
  rw [katV_post hok hsz] at HKV
  have HAC := Lib.hid (allParts_any lo hi v T.kat w hx hh hok hsz)
  have HD : Hid (∀ x ∈ allV T.kat.post, ∃ q : KT, q.ok 0 = true ∧ q.size ≤ 1640 ∧ q.post = x ∧ (∀ α, α < 4 → leftN q α ≤ 1 ∧ (leftN q α = 0 ∨ (endsK q).testBit α = false)) ∧ ∀ (α : Nat) (c : Int) (p : KT), α < 4 → 16 ≤ c → c ≤ 18 → ptK q α c p → p.post.length ≤ 100000) := Lib.hid (by
    intro x hx
    obtain ⟨q, ⟨hq1, hq2⟩, rfl⟩ := allV_kept hok hsz Dt.kept ⟨hok, PT.dt hT⟩ x hx
    obtain ⟨r, hr1, hr2⟩ := allV_kept hok hsz (Cl.kept hok) (List.mem_cons_self ..) q.post hx
    have he : r = q := by
      rw [← treeOf_post hq1, ← hr2, treeOf_post ((Cl.kept hok).ok hr1)]
    subst he
    exact ⟨r, hq1, Cl.size hr1 hsz, rfl, fun α hα => left_dt hq1 hq2 hα, fun α c p h1 h2 h3 h4 => by
      have := Cl.size ((Cl.kept hok).pt hr1 h1 h2 h4) hsz
      rw [p.post_length]; omega⟩)
  obtain ⟨o, ho⟩ : ∃ o, o = allV T.kat.post := ⟨_, rfl⟩
  rw [← ho] at HAC HD
  obtain ⟨a, cap, rfl, _, _⟩ := hx.shape
  clear hx ho hok hpl hT
  go_enter Try.func10, Try.ntmps10
  go_wp2_with (go_at_call 9; refine HKV.out.mono ?_; rintro e_ _ ⟨rfl, rfl⟩)
  refine HAC.out.mono ?_
  rintro e1 w1 ⟨v1, rfl, ⟨ss, hll⟩, hb1⟩
  have hs1 := hb1.size
  have HL := Lib.hid hll.sl
  have HB := Lib.hid hb1
  obtain ⟨oa, oc, rfl, hol, hom⟩ := hll.sl.shape
  unfold maxLen at hom
  clear hll hb1 HAC
  go_wp2
  go_loopw [15] (fun i wr => ∃ k : Nat, k ≤ o.length ∧ i = .int .i64 k ∧ Hid (Below w1.heap.size w1 wr)) (fun i _ => o.length - (intOf i).toNat)
  case atStart => exact ⟨0, by omega, rfl, Lib.hid (Below.refl _ _)⟩
  case round =>
    obtain ⟨k, hk, rfl, HQ⟩ := hrel
    have hzr := HQ.out.size
    by_cases hlt : k < o.length
    · obtain ⟨b5, off5, u5, rfl, _, _, _, hc5, hu5⟩ := (HL.out.below HQ.out (Nat.le_refl _)).get k hlt
      obtain ⟨q, q1, q2, q3, q4, q5⟩ := HD.out _ (List.getElem_mem hlt)
      rw [← q3] at hu5
      have HU5 := Lib.hid hu5
      have hqp := q.post_length
      have HBC := Lib.hid (implBuildL _ q.post q wr (SlI.rd hu5 (by omega)) (by rw [hqp]; omega) (runK_post 0 q q1 []))
      have HEC := Lib.hid fun (w' : World) (hb : Below wr.heap.size wr w') => ends_any _ _ _ q w' (hu5.below hb (by omega)) (by have := hb.size; omega) (by omega) q1
      have HQL := Lib.hid q4
      have HQO := Lib.hid q1
      have HPT := Lib.hid q5
      have hend := ends_le q1
      obtain ⟨pa5, pc5, rfl, _, _⟩ := hu5.shape
      obtain ⟨n5, hn5⟩ : ∃ n5, n5 = q.post.length := ⟨_, rfl⟩
      rw [← hn5] at HBC HEC hc5
      clear hu5 q3 q4 q1 q5 hqp hn5
      go_wp2_with fail
      refine HBC.out.mono ?_
      rintro e2 w2 ⟨p2, rfl, hb2, hrt2⟩
      have hz2 := hb2.size
      obtain ⟨pp2, rfl⟩ := hrt2.isPtr
      have HRT := Lib.hid hrt2
      have HB2 := Lib.hid hb2
      clear hb2 hrt2 HBC hc5
      go_wp2
      go_loopw [21] (fun i wx => ∃ α : Nat, α ≤ 4 ∧ i = .int .i64 α ∧ Hid (Below w2.heap.size w2 wx)) (fun i _ => 4 - (intOf i).toNat)
      case atStart => exact ⟨0, by omega, rfl, Lib.hid (Below.refl _ _)⟩
      case round =>
        obtain ⟨α, hα, rfl, HA⟩ := hrel
        have hzx := HA.out.size
        by_cases hlt2 : α < 4
        · have hd2 : decide ((α : Int) < 4) = true := by simp; omega
          rename World => wx0
          go_wp2
          go_loopw [7, 8] (fun lv i wx => ∃ j : Nat, j ≤ 3 ∧ lv = .int .i64 (leftTo q α j : Nat) ∧ i = .int .i64 (16 + (j : Int)) ∧ Hid (Below w2.heap.size w2 wx)) (fun _ i _ => 19 - (intOf i).toNat)
          case atStart => exact ⟨0, by omega, rfl, rfl, HA⟩
          case round =>
            clear HA hzx
            rename World => wx
            obtain ⟨j, hj, rfl, rfl, HA⟩ := hrel
            have hzx := HA.out.size
            have HLT := Lib.hid (leftTo_le HQO.out q2 (α := α) j hj)
            by_cases hlt3 : j < 3
            · have hd3 : decide ((16 : Int) + (j : Int) ≤ 18) = true := by simp; omega
              have hl3 := HLT.out
              have hl4 : leftTo q α j ≤ 4920 := by omega
              have HLN := Lib.hid (leftTo_le HQO.out q2 (α := α) (j + 1) (by omega))
              have HMP : Hid (leftTo q α (j + 1) = leftTo q α j + (partsV q α (16 + (j : Int))).length) := Lib.hid (by
                rw [leftTo, moveP, show (3 * α + j) / 3 = α by omega, show (3 * α + j) % 3 = j by omega])
              have HPC := Lib.hid (parts_any q _ _ wx α (16 + (j : Int)) (HRT.out.below HA.out) HQO.out (by omega) hlt2 (by omega) (by omega) (fun x hx => by
                obtain ⟨p, h1, rfl⟩ := (partsV_mem HQO.out).1 hx
                exact HPT.out _ _ _ hlt2 (by omega) (by omega) h1))
              obtain ⟨L, hL⟩ : ∃ L, L = leftTo q α j := ⟨_, rfl⟩
              rw [← hL] at hl4 HMP ⊢
              obtain ⟨pl, hpl⟩ : ∃ pl, pl = (partsV q α (16 + (j : Int))).length := ⟨_, rfl⟩
              have HPL := Lib.hid hpl
              have hpl2 : pl ≤ 1640 := by rw [hpl]; have := partsV_len HQO.out (α := α) (c := 16 + (j : Int)) (by omega); omega
              rw [← hpl] at HMP
              clear hl3 hL hpl HLT HLN
              go_wp2_with fail
              refine HPC.out.mono ?_
              rintro e3 w3 ⟨v3, rfl, ⟨sp, h3_⟩, hb3_⟩
              obtain ⟨pva, pvc, rfl, _, _⟩ := h3_.sl.shape
              have HA3 := Lib.hid (HA.out.trans (hb3_.mono hzx))
              rw [← HPL.out]
              clear h3_ hb3_ HPC
              go_wp2
              go_roundw
              case rel => exact ⟨j + 1, by omega, by rw [HMP.out]; push_cast; rfl, by go_num, HA3⟩
              case measure => simp [intOf]; omega
            · obtain rfl : j = 3 := by omega
              have hd3 : decide ((16 : Int) + ((3 : Nat) : Int) ≤ 18) = false := by decide
              obtain ⟨g1, g2⟩ := HQL.out α hlt2
              have HTH := Lib.hid (leftTo_three q α)
              have HEW := Lib.hid (HEC.out wx (HB2.out.trans (HA.out.mono (by omega))))
              obtain ⟨L, hL⟩ : ∃ L, L = leftTo q α 3 := ⟨_, rfl⟩
              have hl1 : L ≤ 1 := by rw [hL, HTH.out]; exact g1
              rw [← hL] at HTH ⊢
              rw [← HTH.out] at g2
              clear g1 hL HTH HLT
              rcases Nat.eq_zero_or_pos L with hL0 | hL1
              · subst hL0
                clear g2
                go_wp2
                go_roundw
                case rel => exact ⟨α + 1, by omega, by go_num, HA⟩
                case measure => simp [intOf]; omega
              · obtain rfl : L = 1 := by omega
                have hbt : (endsK q).testBit α = false := by
                  rcases g2 with h | h
                  · omega
                  · exact h
                obtain ⟨E, hE⟩ : ∃ E, E = endsK q := ⟨_, rfl⟩
                rw [← hE] at hbt HEW hend
                have HHO := Lib.hid (holds_any E α (by omega) hlt2)
                rw [hb_bit, hbt] at HHO
                clear g2 hbt hE
                go_wp2_with fail
                refine HEW.out.mono ?_
                rintro e4 w4 ⟨rfl, hb4⟩
                have HA4 := Lib.hid (HA.out.trans (hb4.mono hzx))
                clear hb4 HEW
                go_wp2_with (go_at_call 23; refine (HHO.out _).mono ?_; rintro e_ _ ⟨rfl, rfl⟩)
                go_roundw
                case rel => exact ⟨α + 1, by omega, by go_num, HA4⟩
                case measure => simp [intOf]; omega
        · obtain rfl : α = 4 := by omega
          have HF := Lib.hid ((HQ.out.trans (HB2.out.mono hzr)).trans (HA.out.mono (by omega)))
          go_wp2
          go_roundw
          case rel => exact ⟨k + 1, by omega, by go_num, HF⟩
          case measure => simp [intOf]; omega
    · obtain rfl : k = o.length := by omega
      have HF := Lib.hid (HB.out.trans (HQ.out.mono hs1))
      go_wp2
      go_ret
      exact ⟨rfl, HF.out⟩
end Go.Proofs.Ytoondakdjhhehaa
