/-
  Texts of walks and plain lemmas for this seat; no condition.
-/
import Derived.Test.YtacgefknhncgfaaDoorSTextA
import Derived.Test.YtacgefknhncgfaaDoorDKat
import Derived.Test.YtacgefknhncgfaaDoorGB
import Derived.Deep.RegionWith
import Derived.Deep.DrawnRows
import Derived.Deep.DeepCutAuto
namespace Go.Proofs.YtacgefknhncgfaaDoor
open Go.RowKit
set_option linter.unusedVariables false

/-- A string comes back. -/
def RetSt (P : ByteArray → World → Prop) (e : Ending) (w' : World) : Prop := ∃ s : ByteArray, e = .returned (.string s) ∧ P s w'
theorem three_str (z : Nat) (h : z < 3) : ∃ l : List UInt8, (#[.string ⟨#[59]⟩, .string ⟨#[43]⟩, .string ⟨#[42, 43]⟩] : Array Value)[z]? = some (.string ⟨l.toArray⟩) ∧ l.length ≤ 2 := by
  match z, h with
  | 0, _ => exact ⟨[59], rfl, by decide⟩
  | 1, _ => exact ⟨[43], rfl, by decide⟩
  | 2, _ => exact ⟨[42, 43], rfl, by decide⟩
theorem six_str (z : Nat) (h : z < 6) : ∃ s : ByteArray, (#[.string ⟨#[]⟩, .string ⟨#[97]⟩, .string ⟨#[42]⟩, .string ⟨#[40]⟩, .string ⟨#[41]⟩, .string ⟨#[43]⟩] : Array Value)[z]? = some (.string s) ∧ s.size ≤ 6 := by
  match z, h with
  | 0, _ => exact ⟨_, rfl, by decide⟩
  | 1, _ => exact ⟨_, rfl, by decide⟩
  | 2, _ => exact ⟨_, rfl, by decide⟩
  | 3, _ => exact ⟨_, rfl, by decide⟩
  | 4, _ => exact ⟨_, rfl, by decide⟩
  | 5, _ => exact ⟨_, rfl, by decide⟩
theorem ba_size (l : List UInt8) : (ByteArray.mk l.toArray).size = l.length := by simp [ByteArray.size]
theorem belg {w w1 w2 : World} (h : Below w1.heap.size w1 w2) (k : Grew w w1) : Below w.heap.size w w2 := k.out.trans (h.mono k.out.size)
theorem newb {w w2 : World} {o : Obj} (h : Below (w.alloc o).heap.size (w.alloc o) w2) : Blk w.heap.size o w2 := (Blk.new w o).below h (by simp)
theorem newb2 {w w2 : World} {o : Obj} (h : Below (w.alloc o).drew.heap.size (w.alloc o).drew w2) : Blk w.heap.size o w2 := (Blk.new w o).below (w := (w.alloc o)) ⟨h.os, h.tape, h.output, h.size, h.block⟩ (by simp)
/-- The reader reads on, and what was there is there. -/
def GotR (g : Nat) (w wx : World) : Prop := Below w.heap.size w wx ∧ Rd g wx 900
theorem gotr1 {g c : Nat} {w w5 w8 : World} (HW : Below w.heap.size w w5) (O : Outside g (g + 1) w5 w8) (R : Rd g w8 c) (hg : w.heap.size ≤ g) (hc : c ≤ 900) : GotR g w w8 :=
  ⟨Below.outside HW O hg HW.size, R.mono hc⟩
theorem gotr2 {g c : Nat} {w w5 w8 : World} (o : Obj) (HW : Below w.heap.size w w5) (O : Outside g (g + 1) w5 w8) (R : Rd g w8 c) (hg : w.heap.size ≤ g) (hc : c ≤ 900) : GotR g w (w8.alloc o) :=
  ⟨(Below.outside HW O hg HW.size).alloc (Nat.le_trans HW.size O.size) _, (R.al _).mono hc⟩

set_option maxRecDepth 100000 in
set_option maxHeartbeats 12800000 in
theorem DrawReadKat_any (v : Value) (xs : List Int) (w : World) (h : SlB 0 w.heap.size w v xs) :
    Calls Tryd.prog 4 #[v] w (RetSt fun s w' => s.size ≤ 500 ∧ Below w.heap.size w w') := by
  go_enter Tryd.func4, Tryd.ntmps4
  go_wp2_with fail
  refine (l20Open_any _ xs _ h).mono ?_
  rintro e w1 ⟨_, rfl, g, rfl, hg, hb, hr⟩
  have hs1 := hb.size
  have HW := Lib.hid hb
  have HR := Lib.hid hr
  clear hb hr h
  go_wp2_with fail
  refine (l20Kat_any g 0 6 0 _ HR.out (by omega) (by omega) (by omega) (by omega)).mono ?_
  rintro e w2 ⟨v2, rfl, es, o2, hl2, h_, r_⟩
  have hs2 := h_.size
  replace HW := Lib.hid (Below.outside HW.out h_ (by omega) (by omega))
  replace HR := Lib.hid r_
  have OE := Lib.hid o2
  clear h_ r_ o2
  go_wp2_with fail
  refine (spec_KatText_any _ _ _ es _ OE.out.sl (by omega) (Nat.le_refl _)).mono ?_
  rintro e w3 ⟨rfl, hb⟩
  have hs3 := hb.size
  replace HW := Lib.hid (HW.out.trans (hb.mono (by omega)))
  replace HR := Lib.hid (HR.out.below hb HR.out.lt)
  have hlt := katTxt_len es
  obtain ⟨t, ht⟩ : ∃ t, t = katTxt es := ⟨_, rfl⟩
  rw [← ht] at hlt ⊢
  clear hb OE ht
  obtain ⟨K1, hK1⟩ : ∃ K1 : Nat, K1 = 403 := ⟨_, rfl⟩
  have hgw : w.heap.size ≤ g := by omega
  go_wp2_with fail
  refine (pick_any g _ 2 _ HR.out (by omega)).mono ?_
  rintro e w5 ⟨q5, rfl, i_, h_, r_⟩
  clear i_
  have hs5 := h_.size
  replace HW := Lib.hid (Below.outside HW.out h_ (by omega) (by omega))
  replace HR := Lib.hid r_
  have hg0 := HR.out.lt
  clear h_ r_
  go_upto_if 13 with fail
  go_cut [4] (fun p wx => ∃ s : ByteArray, s.size ≤ K1 ∧ p = .string s ∧ Hid (GotR g w wx))
  case first =>
    cases hq : q5 == 0
    · go_wp2_with fail
      go_meet
      exact ⟨⟨t.toArray⟩, by show t.toArray.size ≤ K1; simp; omega, rfl, Lib.hid ⟨HW.out, HR.out.mono (by omega)⟩⟩
    · go_wp2_with fail
      clear hq
      rename_i hbig J1_ K1_ h1_ h2_
      clear hbig
      have p1 : ¬ 9223372036854775807 < 1 + t.length := by omega
      have p2 : ¬ 9223372036854775807 < 1 + t.length + 1 := by omega
      go_region_with (first
        | (go_at_call_of 14 (Value.int .i64 3); refine (pick_any g _ 3 _ (by repeat first | with_reducible exact HR.out | with_reducible apply Rd.drew | with_reducible apply Rd.al) (by omega)).mono ?_; rintro e1 w6 ⟨z, rfl, iz_, o1, r1⟩; obtain ⟨iz, iz'⟩ := iz_.lt (by omega); clear iz_; obtain ⟨z, rfl⟩ : ∃ n : Nat, z = n := ⟨z.toNat, by omega⟩; have jz : z < 3 := (by omega); clear iz iz'; obtain ⟨sz, hsz_, hss⟩ := three_str z jz; (have hz1 := o1.size); (have hg1 := r1.lt); (have R1 := Lib.hid r1); clear r1; (have O1 : Hid (Outside g (g + 1) w5 w6) := Lib.hid (o1.grew (by repeat first | with_reducible exact Grew.refl _ | with_reducible apply Grew.drew | with_reducible apply Grew.al))); (have HSZ := Lib.hid hsz_); (have p6 : (z : Int) < 3 := (by omega)); (have p8 : ¬ 9223372036854775807 < 1 + t.length + 1 + sz.length := (by omega)); (have n1 := lit_new w6 (T := 9) HSZ.out); clear hsz_; (with_reducible (first | (have ka : Blk w5.heap.size (.cells #[.string ⟨#[59]⟩, .string ⟨#[43]⟩, .string ⟨#[42, 43]⟩] 9) _ := hop1 o1 hg0; (have cl := (ka.cell z).trans HSZ.out); (have KL := Lib.hid ka); clear ka) | (have ka : Blk w5.heap.size (.cells #[.string ⟨#[59]⟩, .string ⟨#[43]⟩, .string ⟨#[42, 43]⟩] 9) _ := hop3 o1 hg0; (have cl := (ka.cell z).trans HSZ.out); (have KL := Lib.hid ka); clear ka) | skip)); clear o1)
        | (go_at_call 13; refine (l20Kat_any g _ 3 0 _ (by repeat first | with_reducible exact R1.out | with_reducible apply Rd.drew | with_reducible apply Rd.al) (by omega) (by omega) (by omega) (by omega)).mono ?_; rintro e2 w7 ⟨v7, rfl, es7, oo7, hl7, o2, r2⟩; (have hz2 := o2.size); (have hg2 := r2.lt); (have R2 := Lib.hid r2); clear r2; (have O2 : Hid (Outside g (g + 1) w5 w7) := Lib.hid (O1.out.trans (o2.grew (by repeat first | with_reducible exact Grew.refl _ | with_reducible apply Grew.drew | with_reducible apply Grew.al)))); (have n2 := lit_new w7 (T := 9) HSZ.out); (have S7 : Hid (SlI 0 w7.heap.size w7 v7 es7) := Lib.hid (oo7.sl.wide (Nat.zero_le _) (Nat.le_refl _))); clear oo7; (with_reducible (try (first | (have ka := Blk.outside KL.out o2 (.inr (by omega)); clear KL; (have cl2 := (ka.cell z).trans HSZ.out); (have KL := Lib.hid ka); clear ka) | (have ka := Blk.outside (Blk.drew KL.out) o2 (.inr (by omega)); clear KL; (have cl2 := (ka.cell z).trans HSZ.out); (have KL := Lib.hid ka); clear ka)))); (with_reducible (first | (have ka : Blk w6.heap.size (.cells #[.string ⟨#[59]⟩, .string ⟨#[43]⟩, .string ⟨#[42, 43]⟩] 9) _ := hop1 o2 hg1; (have cl3 := (ka.cell z).trans HSZ.out); (have KM := Lib.hid ka); clear ka) | (have ka : Blk w6.heap.size (.cells #[.string ⟨#[59]⟩, .string ⟨#[43]⟩, .string ⟨#[42, 43]⟩] 9) _ := hop3 o2 hg1; (have cl3 := (ka.cell z).trans HSZ.out); (have KM := Lib.hid ka); clear ka) | skip)); clear o2)
        | (go_at_call 12; (with_reducible (first | refine (spec_KatText_any 0 _ _ es7 w7 S7.out (by omega) (Nat.le_refl _)).mono ?_ | refine (spec_KatText_any 0 _ _ es7 w7.drew S7.out (by omega) (Nat.le_refl _)).mono ?_ | refine (spec_KatText_any 0 _ _ es7 (w7.alloc (.cells #[.string ⟨#[59]⟩, .string ⟨#[43]⟩, .string ⟨#[42, 43]⟩] 9)) (S7.out.below (al_below _ _) (Nat.le_refl _)) (by omega) (by simp)).mono ?_ | refine (spec_KatText_any 0 _ _ es7 (w7.alloc (.cells #[.string ⟨#[59]⟩, .string ⟨#[43]⟩, .string ⟨#[42, 43]⟩] 9)).drew (S7.out.below (al_below _ _) (Nat.le_refl _)) (by omega) (by simp)).mono ?_)); rintro e3 w8 ⟨rfl, b3⟩; (have hlt7 := katTxt_len es7); obtain ⟨t7, ht7⟩ : ∃ t7, t7 = katTxt es7 := ⟨_, rfl⟩; rw [← ht7] at hlt7 ⊢; clear ht7; (have p12 : ¬ 9223372036854775807 < 1 + t.length + 1 + sz.length + t7.length := (by omega)); (have GB : Hid (Below w7.heap.size w7 w8) := Lib.hid (belg b3 (by repeat first | with_reducible exact Grew.refl _ | with_reducible apply Grew.drew | with_reducible apply Grew.al))); (have R3 := Lib.hid (R2.out.below GB.out hg2)); (have O3 := Lib.hid (O2.out.below GB.out O2.out.size)); (have n3 := lit_new w8 (T := 9) HSZ.out); (with_reducible (try (have ka := Blk.below KL.out GB.out KL.out.lt; clear KL; (have cl4 := (ka.cell z).trans HSZ.out); (have KL := Lib.hid ka); clear ka))); (with_reducible (try (have ka := Blk.below KM.out GB.out KM.out.lt; clear KM; (have cl5 := (ka.cell z).trans HSZ.out); (have KM := Lib.hid ka); clear ka))); (with_reducible (first | (have ka : Blk w7.heap.size (.cells #[.string ⟨#[59]⟩, .string ⟨#[43]⟩, .string ⟨#[42, 43]⟩] 9) _ := newb b3; (have cl6 := (ka.cell z).trans HSZ.out); clear ka) | (have ka : Blk w7.heap.size (.cells #[.string ⟨#[59]⟩, .string ⟨#[43]⟩, .string ⟨#[42, 43]⟩] 9) _ := newb2 b3; (have cl6 := (ka.cell z).trans HSZ.out); clear ka) | skip)); clear b3))
      all_goals (
        go_wp2_with fail
        go_meet
        refine ⟨_, ?_, rfl, Lib.hid ?_⟩
        · simp only [ByteArray.size_append, ba_size, show (ByteArray.mk #[40]).size = 1 from rfl, show (ByteArray.mk #[41]).size = 1 from rfl]
          omega
        · first | exact gotr1 HW.out O3.out R3.out hgw (by omega) | exact gotr2 _ HW.out O3.out R3.out hgw (by omega))
  case rest =>
    obtain ⟨s4, hs4, rfl, HG⟩ := hcut
    obtain ⟨t4, rfl⟩ : ∃ l : List UInt8, s4 = ⟨l.toArray⟩ := ⟨s4.data.toList, by cases s4; simp⟩
    have hl4 : t4.length ≤ K1 := by have h : t4.toArray.size ≤ K1 := hs4; simpa using h
    obtain ⟨w6, rfl⟩ : ∃ x_, x_ = wc := ⟨_, rfl⟩
    clear HW HR hg0
    have HW := Lib.hid HG.out.1
    have HR := Lib.hid HG.out.2
    clear HG hs4
    have hs6 := HW.out.size
    go_wp2_with fail
    refine (pick_any g _ 3 _ HR.out (by omega)).mono ?_
    rintro e w7 ⟨q7, rfl, i_, h_, r_⟩
    clear i_
    have hs7 := h_.size
    replace HW := Lib.hid (Below.outside HW.out h_ (by omega) (by omega))
    replace HR := Lib.hid r_
    clear h_ r_
    cases hq : q7 == 0
    · go_wp2_with fail
      go_ret
      exact ⟨_, rfl, by show t4.toArray.size ≤ 500; simp; omega, HW.out⟩
    · by_cases h0 : t4.length = 0
      · have hd : decide (0 < (t4.length : Int)) = false := decide_eq_false (by omega)
        go_wp2_with fail
        go_ret
        exact ⟨_, rfl, by show t4.toArray.size ≤ 500; simp; omega, HW.out⟩
      · have hd : decide (0 < (t4.length : Int)) = true := decide_eq_true (by omega)
        go_wp2_with fail
        clear hq hd
        refine (pick_any g _ _ _ HR.out (by omega)).mono ?_
        rintro e w8 ⟨x5, rfl, i_, h_, r_⟩
        obtain ⟨i5, i5'⟩ := i_.lt (by omega)
        clear i_
        have hs8 := h_.size
        replace HW := Lib.hid (Below.outside HW.out h_ (by omega) (by omega))
        replace HR := Lib.hid r_
        clear h_ r_
        obtain ⟨k, rfl⟩ : ∃ k : Nat, x5 = k := ⟨x5.toNat, by omega⟩
        have j5 : k < t4.length := by omega
        have j6 : k + 1 ≤ t4.length := by omega
        have j7 : (k : Int) + 1 ≤ t4.length := by omega
        have j8 : (0 : Int) ≤ (k : Int) + 1 := by omega
        have j9 : IntKind.i64.wrap ((k : Int) + 1) = (k : Int) + 1 := by simp [IntKind.wrap, IntKind.bits, IntKind.signed]; omega
        have j10 : ((k : Int) + 1).toNat = k + 1 := by omega
        clear i5 i5'
        have hlt := HR.out.lt
        go_wp2_with fail
        go_region_with (go_at_call 14; refine (pick_any g _ 6 _ (by repeat first | with_reducible exact HR.out | with_reducible apply Rd.drew | with_reducible apply Rd.al) (by omega)).mono ?_; rintro e w9 ⟨z, rfl, iz_, ho, hr⟩; obtain ⟨iz, iz'⟩ := iz_.lt (by omega); clear iz_; obtain ⟨z, rfl⟩ : ∃ n : Nat, z = n := ⟨z.toNat, by omega⟩; have jz : z < 6 := (by omega); clear iz iz'; obtain ⟨sz, hsz, hss⟩ := six_str z jz; (try (have hz := ((hop1 ho hlt).cell z).trans hsz)); (have hz2 := lit_new w9 (T := 9) hsz); (have HQ : Hid (Outside g (g + 1) w8 w9) := Lib.hid (ho.grew (by repeat first | with_reducible exact Grew.refl _ | with_reducible apply Grew.drew | with_reducible apply Grew.al))); clear ho hr)
        all_goals (
          go_wp2
          go_ret
          refine ⟨_, rfl, ?_, ?_⟩
          · simp [ByteArray.size_append, ByteArray.size_extract]
            omega
          · first
            | exact Below.outside HW.out HQ.out (by omega) (by omega)
            | exact (Below.outside HW.out HQ.out (by omega) (by omega)).trans ((al_below _ _).mono (by have h_ := HQ.out.size; omega)))
end Go.Proofs.YtacgefknhncgfaaDoor
