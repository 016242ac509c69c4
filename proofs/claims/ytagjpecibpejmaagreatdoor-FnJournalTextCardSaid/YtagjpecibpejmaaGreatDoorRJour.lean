/-
  Texts of walks and plain lemmas for this seat; no condition.
-/
import Derived.Test.YtagjpecibpejmaaGreatDoorJrPlain
import Derived.Test.YtagjpecibpejmaaGreatDoorRAct1
import Derived.Test.YtagjpecibpejmaaGreatDoorAcs
import Derived.Test.YtagjpecibpejmaaGreatDoorActInfo
import Derived.Deep.RegionWith
namespace Go.Proofs.YtagjpecibpejmaaGreatDoor
open Go.RowKit

def RetJ (P : Value → Int → World → Prop) (e : Ending) (w' : World) : Prop := ∃ v n, e = .returned (.tuple #[v, .int .i64 n]) ∧ P v n w'
theorem extN (l : List UInt8) (n : Nat) : ByteArray.extract ⟨l.toArray⟩ n l.length = ⟨(l.drop n).toArray⟩ := by
  apply ByteArray.ext
  simp [ByteArray.data_extract]
  exact List.take_of_length_le (by simp)
theorem rdAc_eq (o : Option Ac) : ∃ m ok, m = o.getD zAc ∧ ok = o.isSome ∧ rdAc o = .tuple #[.agg #[.int .i64 m.kind, .int .i64 m.step.which, .bool m.step.back, .int .i64 m.step.at_, .int .i64 m.count], .bool ok] := ⟨_, _, rfl, rfl, rfl⟩
theorem jr_step {l : List UInt8} {xs : List Ac} {n i : Nat} {a : Ac} (h : readJr l = (xs ++ (readJr (l.drop n)).1, n + (readJr (l.drop n)).2)) (hn : nl (l.drop n) = some i) (ha : readAc ((l.drop n).take i) = some a) :
    readJr l = ((xs ++ [a]) ++ (readJr (l.drop (n + (i + 1)))).1, n + (i + 1) + (readJr (l.drop (n + (i + 1)))).2) := by
  rw [h, readJr_more hn ha, List.drop_drop, List.append_assoc]
  simp [Nat.add_assoc]
theorem jr_end {l : List UInt8} {xs : List Ac} {n : Nat} (h : readJr l = (xs ++ (readJr (l.drop n)).1, n + (readJr (l.drop n)).2)) (h0 : readJr (l.drop n) = ([], 0)) : readJr l = (xs, n) := by
  rw [h, h0]; simp

set_option maxRecDepth 100000 in
set_option maxHeartbeats 3200000 in
theorem impl_ReadJournal (l : List UInt8) (s : ByteArray) (hs : s = ⟨l.toArray⟩) (w : World) (hE : Env w) (hl : l.length ≤ 2097152) :
    Calls Tryz.prog 47 #[.string s] w (RetJ fun v n w' => n = (readJr l).2 ∧ OwnA w.heap.size w'.heap.size 51 w' v (readJr l).1 ∧ Below w.heap.size w w') := by
  subst hs
  go_enter Tryz.func47, Tryz.ntmps47
  go_wp2
  go_loopw [4, 5] (fun v i wr => ∃ n : Nat, ∃ xs : List Ac, n ≤ l.length ∧ i = .int .i64 n ∧ xs.length ≤ n ∧ Hid (readJr l = (xs ++ (readJr (l.drop n)).1, n + (readJr (l.drop n)).2)) ∧ Hid (OwnA w.heap.size wr.heap.size 51 wr v xs) ∧ Hid (Below w.heap.size w wr)) (fun _ i _ => l.length - (intOf i).toNat)
  case atStart => exact ⟨0, [], by omega, rfl, Nat.le_refl _, Lib.hid (by simp), Lib.hid (Own.nil _ _ _ _ _), Lib.hid (Below.refl _ _)⟩
  case round =>
    obtain ⟨n, xs, hn, rfl, hxs, HJ, HO, HB⟩ := hrel
    have hd : (l.drop n).length ≤ 2097152 := by rw [List.length_drop]; omega
    go_wp2_with fail
    refine (Cut_any (l.drop n) [10] _ _ (extN l n) rfl _ (hE.below HB.out) hd).mono ?_
    rintro e w1 ⟨rfl, hb⟩
    have hsz := hb.size
    replace HO := Lib.hid (OwnA.below HO.out hb (Nat.le_refl _))
    replace HB := Lib.hid (HB.out.trans (hb.mono HB.out.size))
    clear hb
    have HE := Lib.hid (hE.below HB.out)
    have HN := Lib.hid hn
    cases hnl : nl (l.drop n) with
    | none =>
      have HR := Lib.hid (jr_end HJ.out (readJr_no hnl))
      rw [cut_no hnl]
      clear hnl
      go_wp2_with fail
      refine (impl_ReadAct (l.drop n) _ rfl _ HE.out hd).mono ?_
      rintro e w2 ⟨rfl, hb⟩
      have hs2 := hb.size
      obtain ⟨m, ok, hm, hok, heq⟩ := rdAc_eq (readAc (l.drop n))
      have HQ := Lib.hid heq
      rw [HQ.out]
      clear hm hok heq
      have hba : Below w2.heap.size w2 (w2.alloc (.cells #[.int .i64 m.kind, .int .i64 m.step.which, .bool m.step.back, .int .i64 m.step.at_, .int .i64 m.count] 51)) := (Below.refl _ _).alloc (Nat.le_refl _) _
      replace HB := Lib.hid ((HB.out.trans (hb.mono HB.out.size)).trans (hba.mono (by have := HB.out.size; omega)))
      replace HO := Lib.hid (OwnA.below (OwnA.below HO.out hb hsz) hba (by omega))
      have HS : Hid (wr.heap.size ≤ (w2.alloc (.cells #[.int .i64 m.kind, .int .i64 m.step.which, .bool m.step.back, .int .i64 m.step.at_, .int .i64 m.count] 51)).heap.size) := Lib.hid (by simp; omega)
      clear hb hba
      go_wp2
      go_ret2
      refine ⟨_, _, rfl, ?_, ?_, HB.out⟩
      · rw [HR.out]
      · rw [HR.out]; exact Own.wide HO.out HS.out
    | some i =>
      obtain ⟨_, hi, _⟩ := nl_some hnl
      have hin : n + i < l.length := by rw [List.length_drop] at hi; omega
      have hln : ((l.drop n).take i).length ≤ 2097152 := by rw [List.length_take]; omega
      have HLn : Hid (((l.drop n).take i).length = i) := Lib.hid (by rw [List.length_take]; omega)
      rw [cut_nl hnl]
      have HNL := Lib.hid hnl
      clear hnl hi
      obtain ⟨p, hp⟩ : ∃ p, p = (l.drop n).take i := ⟨_, rfl⟩
      obtain ⟨q, hq⟩ : ∃ q, q = (l.drop n).drop (i + 1) := ⟨_, rfl⟩
      rw [← hp] at hln HLn
      simp only [← hp, ← hq]
      have HP := Lib.hid hp
      clear hp hq
      have hpl : p.length = i := HLn.out
      go_wp2_with fail
      refine (impl_ReadAct p _ rfl _ HE.out hln).mono ?_
      rintro e w2 ⟨rfl, hb⟩
      have hs2 := hb.size
      cases hra : readAc p with
      | none =>
        have HR := Lib.hid (jr_end HJ.out (readJr_bad HNL.out (by rw [← HP.out]; exact hra)))
        rw [rdAc_none]
        clear hra
        have hba : Below w2.heap.size w2 (w2.alloc (.cells #[.int .i64 0, .int .i64 0, .bool false, .int .i64 0, .int .i64 0] 51)) := (Below.refl _ _).alloc (Nat.le_refl _) _
        replace HB := Lib.hid ((HB.out.trans (hb.mono HB.out.size)).trans (hba.mono (by have := HB.out.size; omega)))
        replace HO := Lib.hid (OwnA.below (OwnA.below HO.out hb hsz) hba (by omega))
        have HS : Hid (wr.heap.size ≤ (w2.alloc (.cells #[.int .i64 0, .int .i64 0, .bool false, .int .i64 0, .int .i64 0] 51)).heap.size) := Lib.hid (by simp; omega)
        clear hb hba
        go_wp2
        go_ret2
        refine ⟨_, _, rfl, ?_, ?_, HB.out⟩
        · rw [HR.out]
        · rw [HR.out]; exact Own.wide HO.out HS.out
      | some m =>
        have HR := Lib.hid (jr_step HJ.out HNL.out (by rw [← HP.out]; exact hra))
        rw [rdAc_some]
        clear hra
        replace HB := Lib.hid (HB.out.trans (hb.mono HB.out.size))
        have hown : OwnA w.heap.size wr.heap.size 51 (w2.alloc (.cells #[.int .i64 m.kind, .int .i64 m.step.which, .bool m.step.back, .int .i64 m.step.at_, .int .i64 m.count] 51)) u4 xs := OwnA.below (OwnA.below HO.out hb hsz) ((Below.refl w2.heap.size w2).alloc (Nat.le_refl _) (.cells #[.int .i64 m.kind, .int .i64 m.step.which, .bool m.step.back, .int .i64 m.step.at_, .int .i64 m.count] 51)) (by omega)
        have hs0 := HB.out.size
        clear hb HO
        go_wp2_with (at_builtin; go_loud (refine wpList_app_lit (w2.alloc (.cells #[.int .i64 m.kind, .int .i64 m.step.which, .bool m.step.back, .int .i64 m.step.at_, .int .i64 m.count] 51)) rfl _ _ 65 rfl 51 (.agg #[.int .i64 0, .int .i64 0, .bool false, .int .i64 0, .int .i64 0]) 5 40 Tryz.underlying65 info_act rfl (by decide) (by decide) rfl hown 1 (encAc m) (by rw [alloc_size]; rfl) rfl (by simpa [acs] using acs_one [m]) rfl ?c1 ?c2 ?_))
        case c1 => omega
        case c2 => simp; omega
        intro v' w3 hown' hout _
        have HO' : Hid (OwnA w.heap.size w3.heap.size 51 w3 v' (xs ++ [m])) := by
          refine Lib.hid ?_
          unfold OwnA
          rw [List.length_append, show acs (xs ++ [m]) = acs xs ++ encAc m by simp [acs]]
          exact hown'
        have hba : Below w2.heap.size w2 (w2.alloc (.cells #[.int .i64 m.kind, .int .i64 m.step.which, .bool m.step.back, .int .i64 m.step.at_, .int .i64 m.count] 51)) := (Below.refl _ _).alloc (Nat.le_refl _) _
        have HB' := Lib.hid (Below.outside (HB.out.trans (hba.mono hs0)) hout (Nat.le_refl _) (by simp; omega))
        clear hown hown' hout hba
        go_wp2
        go_roundw
        case rel => exact ⟨n + (i + 1), xs ++ [m], by omega, by go_num, by simp; omega, HR, HO', HB'⟩
        case measure => simp [intOf]; omega
end Go.Proofs.YtagjpecibpejmaaGreatDoor
