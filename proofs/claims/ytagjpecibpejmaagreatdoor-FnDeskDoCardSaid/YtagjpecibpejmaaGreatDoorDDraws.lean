/-
  Texts of walks and plain lemmas for this seat; no condition.
-/
import Derived.Test.YtagjpecibpejmaaGreatDoorDActs
import Derived.Test.YtagjpecibpejmaaGreatDoorAct3
import Derived.Test.YtagjpecibpejmaaGreatDoorJournal
import Derived.Deep.RegionWith
import Derived.Deep.DrawnRows
namespace Go.Proofs.YtagjpecibpejmaaGreatDoor
open Go.RowKit

/-- A block that holds no byte may be written: the reader reads on. -/
theorem Rd.past {g c s : Nat} {w w' : World} {cs : Array Value} {T : TypeId} {f : Nat × Nat} (h : Rd g w c) (hk : Blk s (.cells cs T f) w) (hn : ∀ (j : Nat) (x : Int), cs[j]? ≠ some (.int .u8 x)) (ho : Outside s (s + 1) w w') (hs : s ≠ g) : Rd g w' c := by
  have hg := h.lt
  obtain ⟨a, cap, p, xs, h1, h2, h3, h4, a', cap', e, e1, e2, e3, e4, e5⟩ := h
  refine ⟨a, cap, p, xs, (ho.block g hg (by omega)).trans h1, h2, h3, h4, a', cap', e, e1, e2, e3, e4, fun i hi => ?_⟩
  obtain ⟨b, off, k1, k2, k3, k4, k5⟩ := e5 i hi
  have hb : b ≠ s := by
    intro hb
    subst hb
    rw [hk.cell] at k5
    have hi' : i < xs.length := by simpa using hi
    refine hn (off + i) xs[i] ?_
    rw [k5]
    simp [hi']
  refine ⟨b, off, k1, k2, k3, Nat.lt_of_lt_of_le k4 ho.size, ?_⟩
  rw [World.cell?_of_block (w := w) (a := ⟨b, off + i, none⟩) (ho.block b k4 (by omega))]
  exact k5
theorem nil_no : ∀ (j : Nat) (x : Int), (#[.slice none 0 0, .slice none 0 0, .slice none 0 0, .slice none 0 0] : Array Value)[j]? ≠ some (.int .u8 x) := by
  intro j x h
  match j with
  | 0 => simp at h
  | 1 => simp at h
  | 2 => simp at h
  | 3 => simp at h
  | j + 4 => simp at h
/-- A string comes back. -/
def RetSt (P : ByteArray → World → Prop) (e : Ending) (w' : World) : Prop := ∃ s : ByteArray, e = .returned (.string s) ∧ P s w'
theorem six_str (z : Nat) (h : z < 6) : ∃ s : ByteArray, (#[.string ⟨#[]⟩, .string ⟨#[48]⟩, .string ⟨#[32]⟩, .string ⟨#[10]⟩, .string ⟨#[64]⟩, .string ⟨#[115, 105, 109, 112, 108, 101]⟩] : Array Value)[z]? = some (.string s) ∧ s.size ≤ 6 := by
  match z, h with
  | 0, _ => exact ⟨_, rfl, by decide⟩
  | 1, _ => exact ⟨_, rfl, by decide⟩
  | 2, _ => exact ⟨_, rfl, by decide⟩
  | 3, _ => exact ⟨_, rfl, by decide⟩
  | 4, _ => exact ⟨_, rfl, by decide⟩
  | 5, _ => exact ⟨_, rfl, by decide⟩

set_option maxRecDepth 100000 in
set_option maxHeartbeats 1600000 in
theorem l20Spoil_any (g c : Nat) (t : List UInt8) (w : World) (h : Rd g w c) (hc : c ≤ 1000000) (hl : t.length ≤ 1000000) :
    Calls Tryz.prog 79 #[.pointer (some ⟨g, 0, none⟩), .string ⟨t.toArray⟩] w (RetSt fun s w' => s.size ≤ t.length + 6 ∧ Outside g (g + 1) w w' ∧ Rd g w' (c + 2)) := by
  have hg := h.lt
  have HR := Lib.hid h
  clear h
  by_cases h0 : t.length = 0
  · go_enter Tryz.func79, Tryz.ntmps79
    go_wp2
    go_ret
    exact ⟨_, rfl, by show (1 : Nat) ≤ _; omega, Outside.refl _ _ _, HR.out.mono (by omega)⟩
  · go_enter Tryz.func79, Tryz.ntmps79
    go_wp2_with fail
    refine (pick_any g c _ _ HR.out (by omega)).mono ?_
    rintro e w1 ⟨x5, rfl, i_, ho, hr⟩
    obtain ⟨i5, i5'⟩ := i_.lt (by omega)
    clear i_
    have HO := Lib.hid ho
    replace HR := Lib.hid hr
    clear ho hr
    obtain ⟨k, rfl⟩ : ∃ k : Nat, x5 = k := ⟨x5.toNat, by omega⟩
    have j5 : k < t.length := by omega
    have j6 : k + 1 ≤ t.length := by omega
    have j7 : (k : Int) + 1 ≤ t.length := by omega
    have j8 : (0 : Int) ≤ (k : Int) + 1 := by omega
    have j9 : IntKind.i64.wrap ((k : Int) + 1) = (k : Int) + 1 := by simp [IntKind.wrap, IntKind.bits, IntKind.signed]; omega
    have j10 : ((k : Int) + 1).toNat = k + 1 := by omega
    clear i5 i5'
    have hlt := HR.out.lt
    go_wp2_with fail
    go_region_with (go_at_call 50; refine (pick_any g _ 6 _ (by repeat first | with_reducible exact HR.out | with_reducible apply Rd.drew | with_reducible apply Rd.al) (by omega)).mono ?_; rintro e w8 ⟨z, rfl, iz_, ho, hr⟩; obtain ⟨iz, iz'⟩ := iz_.lt (by omega); clear iz_; obtain ⟨z, rfl⟩ : ∃ n : Nat, z = n := ⟨z.toNat, by omega⟩; have jz : z < 6 := (by omega); clear iz iz'; obtain ⟨sz, hsz, hss⟩ := six_str z jz; (try (have hz := ((hop1 ho hlt).cell z).trans hsz)); (have hz2 := lit_new w8 (T := 9) hsz); (have HQ : Hid (Outside g (g + 1) w1 w8) := Lib.hid (ho.grew (by repeat first | with_reducible exact Grew.refl _ | with_reducible apply Grew.drew | with_reducible apply Grew.al))); (have R8 := Lib.hid hr); clear ho hr)
    all_goals (
      go_wp2
      go_ret
      refine ⟨_, rfl, ?_, ?_⟩
      · simp [ByteArray.size_append, ByteArray.size_extract]
        omega
      · first
        | exact ⟨HO.out.trans HQ.out, R8.out.mono (by omega)⟩
        | exact ⟨(HO.out.trans HQ.out).below (al_below _ _) (Nat.le_trans HO.out.size HQ.out.size), (R8.out.al _).mono (by omega)⟩)


set_option maxRecDepth 100000 in
set_option maxHeartbeats 3200000 in
theorem DrawActText_any (v : Value) (xs : List Int) (w : World) (h : SlB 0 w.heap.size w v xs) :
    Calls Tryz.prog 33 #[v] w (RetAc fun _ w' => Below w.heap.size w w') := by
  obtain ⟨w0, hw0⟩ : ∃ w0, w0 = w.alloc (.cells #[.int .i64 0, .int .i64 0, .bool false, .int .i64 0, .int .i64 0] 51) := ⟨_, rfl⟩
  obtain ⟨hb0, KT_, hs0⟩ := box_facts2 hw0
  have KT := Lib.hid KT_
  have HX : Hid (SlB 0 w0.heap.size w0 v xs) := Lib.hid ⟨(h.1.below hb0 (Nat.le_refl _)).wide (Nat.le_refl _) (by omega), h.2⟩
  have HW := Lib.hid hb0
  clear h hb0 KT_
  go_enter Tryz.func33, Tryz.ntmps33
  go_wp2_with fail
  simp only [← hw0]
  clear hw0
  refine (l20Open_any _ xs _ HX.out).mono ?_
  rintro e w1 ⟨_, rfl, g, rfl, hg, hb, hr⟩
  have hs1 := hb.size
  replace HW := Lib.hid (HW.out.trans (hb.mono (by omega)))
  replace KT := Lib.hid (KT.out.below hb (by omega))
  have HR := Lib.hid hr
  have hgl1 := hr.lt
  clear hb hr HX
  go_wp2_with fail
  refine (l20Desk_any g 0 0 _ HR.out (by omega) (by omega)).mono ?_
  rintro e w2 ⟨y0, y1, y2, y3, rfl, D, od_, hds, h_, r_⟩
  have hs2 := h_.size
  replace HW := Lib.hid (Below.outside HW.out h_ (by omega) (by omega))
  replace KT := Lib.hid (KT.out.outside h_ (.inl (by omega)))
  replace HR := Lib.hid r_
  have OD := Lib.hid od_
  have hgl := HR.out.lt
  clear h_ r_ od_
  go_wp2_with fail
  refine (l20Act_any g _ w1.heap.size w2.heap.size _ _ _ _ D _ HR.out (by omega) OD.out (Nat.le_refl _) (by omega) (by omega)).mono ?_
  rintro e w3 ⟨A, rfl, h_, r_⟩
  have hs3 := h_.size
  replace HW := Lib.hid (Below.outside HW.out h_ (by omega) (by omega))
  replace KT := Lib.hid (KT.out.outside h_ (.inl (by omega)))
  clear h_ r_
  have q0 := KT.out.cell 0
  have q1 := KT.out.cell 1
  have q2 := KT.out.cell 2
  have q3 := KT.out.cell 3
  have q4 := KT.out.cell 4
  have f0 := KT.out.free 0
  have f1 := KT.out.free 1
  have f2 := KT.out.free 2
  have f3 := KT.out.free 3
  have f4 := KT.out.free 4
  obtain ⟨wz, hwz⟩ : ∃ wz, wz = (((((w3.setCell ⟨w.heap.size, 0, none⟩ (.int .i64 A.kind)).setCell ⟨w.heap.size, 1, none⟩ (.int .i64 A.step.which)).setCell ⟨w.heap.size, 2, none⟩ (.bool A.step.back)).setCell ⟨w.heap.size, 3, none⟩ (.int .i64 A.step.at_)).setCell ⟨w.heap.size, 4, none⟩ (.int .i64 A.count)) := ⟨_, rfl⟩
  have KZ := KT.out.set5 (.int .i64 A.kind) (.int .i64 A.step.which) (.bool A.step.back) (.int .i64 A.step.at_) (.int .i64 A.count)
  have HE := Lib.hid (Below.set5 HW.out (Nat.le_refl _) (.int .i64 A.kind) (.int .i64 A.step.which) (.bool A.step.back) (.int .i64 A.step.at_) (.int .i64 A.count))
  rw [← hwz] at KZ HE
  have z0 := KZ.cell 0
  have z1 := KZ.cell 1
  have z2 := KZ.cell 2
  have z3 := KZ.cell 3
  have z4 := KZ.cell 4
  clear KZ
  go_wp2_with fail
  simp only [← hwz]
  clear hwz
  refine bodyPost_ret (v := .agg #[.int .i64 A.kind, .int .i64 A.step.which, .bool A.step.back, .int .i64 A.step.at_, .int .i64 A.count]) (by simp [results, Tryz.results33, go_sem, z0, z1, z2, z3, z4]) rfl ⟨A, rfl, HE.out⟩


set_option maxRecDepth 100000 in
set_option maxHeartbeats 3200000 in
theorem DrawReadAct_any (v : Value) (xs : List Int) (w : World) (h : SlB 0 w.heap.size w v xs) :
    Calls Tryz.prog 37 #[v] w (RetSt fun s w' => s.size ≤ 20 ∧ Below w.heap.size w w') := by
  go_enter Tryz.func37, Tryz.ntmps37
  go_wp2_with fail
  refine (l20Open_any _ xs _ h).mono ?_
  rintro e w1 ⟨_, rfl, g, rfl, hg, hb, hr⟩
  have hs1 := hb.size
  have HW := Lib.hid hb
  have HR := Lib.hid hr
  clear hb hr h
  go_wp2_with fail
  have hgl1 := HR.out.lt
  refine (l20Desk_any g 0 0 _ HR.out (by omega) (by omega)).mono ?_
  rintro e w2 ⟨y0, y1, y2, y3, rfl, D, od_, hds, h_, r_⟩
  have hs2 := h_.size
  replace HW := Lib.hid (Below.outside HW.out h_ (by omega) (by omega))
  replace HR := Lib.hid r_
  have OD := Lib.hid od_
  clear h_ r_ od_
  go_wp2_with fail
  refine (l20Act_any g _ w1.heap.size w2.heap.size _ _ _ _ D _ HR.out (by omega) OD.out (Nat.le_refl _) (by omega) (by omega)).mono ?_
  rintro e w3 ⟨A, rfl, h_, r_⟩
  have hs3 := h_.size
  replace HW := Lib.hid (Below.outside HW.out h_ (by omega) (by omega))
  replace HR := Lib.hid r_
  clear h_ r_ OD
  go_wp2_with fail
  refine (spec_ActText A _).mono ?_
  rintro e w4 ⟨rfl, hb⟩
  have hs4 := hb.size
  replace HW := Lib.hid (HW.out.trans (hb.mono (by omega)))
  replace HR := Lib.hid (HR.out.below hb HR.out.lt)
  clear hb
  have hlt := actText_len A
  obtain ⟨t, ht⟩ : ∃ t, t = actText A := ⟨_, rfl⟩
  rw [← ht] at hlt ⊢
  clear ht
  go_wp2_with fail
  refine (pick_any g _ 3 _ HR.out (by omega)).mono ?_
  rintro e w5 ⟨q5, rfl, i_, h_, r_⟩
  clear i_
  have hs5 := h_.size
  replace HW := Lib.hid (Below.outside HW.out h_ (by omega) (by omega))
  replace HR := Lib.hid r_
  clear h_ r_
  cases hq : q5 == 0
  · go_wp2
    go_ret
    exact ⟨_, rfl, by show t.toArray.size ≤ 20; simp; omega, HW.out⟩
  · go_wp2_with fail
    refine (l20Spoil_any g _ t _ HR.out (by omega) (by omega)).mono ?_
    rintro e w6 ⟨s, rfl, hsz, h_, r_⟩
    have hs6 := h_.size
    replace HW := Lib.hid (Below.outside HW.out h_ (by omega) (by omega))
    clear h_ r_
    go_wp2
    go_ret
    exact ⟨_, rfl, by omega, HW.out⟩


set_option maxRecDepth 100000 in
set_option maxHeartbeats 6400000 in
theorem DrawDeskDo_any (v : Value) (xs : List Int) (w : World) (h : SlB 0 w.heap.size w v xs) :
    Calls Tryz.prog 39 #[v] w fun e w' => ∃ (a b c_ d : Value) (D : Dsk) (A : Ac), e = .returned (.tuple #[aggD a b c_ d, aggA A]) ∧ Below w.heap.size w w' ∧ DeskAt 0 w'.heap.size w' a b c_ d D ∧ D.size ≤ 1048576 := by
  obtain ⟨w00, hw00⟩ : ∃ w00, w00 = w.alloc (.cells #[.slice none 0 0, .slice none 0 0, .slice none 0 0, .slice none 0 0] 58) := ⟨_, rfl⟩
  obtain ⟨hb00, KS_, hs00⟩ := box_facts2 hw00
  have he00 : w00.heap.size = w.heap.size + 1 := by rw [hw00]; exact alloc_size _ _
  obtain ⟨w0, hw0⟩ : ∃ w0, w0 = w00.alloc (.cells #[.int .i64 0, .int .i64 0, .bool false, .int .i64 0, .int .i64 0] 51) := ⟨_, rfl⟩
  obtain ⟨hb0, KT_, hs0⟩ := box_facts2 hw0
  have KS := Lib.hid (KS_.below hb0 KS_.lt)
  have KT : Hid (Blk (w.heap.size + 1) (.cells #[.int .i64 0, .int .i64 0, .bool false, .int .i64 0, .int .i64 0] 51) w0) := by rw [← he00]; exact Lib.hid KT_
  have HX : Hid (SlB 0 w0.heap.size w0 v xs) := Lib.hid ⟨((h.1.below hb00 (Nat.le_refl _)).below hb0 (by omega)).wide (Nat.le_refl _) (by omega), h.2⟩
  have HW := Lib.hid (hb00.trans (hb0.mono (by omega)))
  have HW0 : Hid (w0 = (w.alloc (.cells #[.slice none 0 0, .slice none 0 0, .slice none 0 0, .slice none 0 0] 58)).alloc (.cells #[.int .i64 0, .int .i64 0, .bool false, .int .i64 0, .int .i64 0] 51)) := by rw [hw0, hw00]; exact Lib.hid rfl
  clear h hb0 hb00 KT_ KS_ hw0 hw00
  have hsa : w.heap.size + 2 ≤ w0.heap.size := by omega
  clear he00 hs00 hs0
  go_enter Tryz.func39, Tryz.ntmps39
  go_upto_region 1 with (rw [← HW0.out])
  try rw [← HW0.out]
  clear HW0
  go_wp2_with fail
  refine (l20Open_any _ xs _ HX.out).mono ?_
  rintro e w1 ⟨_, rfl, g, rfl, hg, hb, hr⟩
  have hs1 := hb.size
  replace HW := Lib.hid (HW.out.trans (hb.mono (by omega)))
  replace KT := Lib.hid (KT.out.below hb (by omega))
  replace KS := Lib.hid (KS.out.below hb (by omega))
  have HR := Lib.hid hr
  have hgl1 := hr.lt
  clear hb hr HX
  go_wp2_with fail
  refine (l20Desk_any g 0 12 _ HR.out (by omega) (by omega)).mono ?_
  rintro e w2 ⟨y0, y1, y2, y3, rfl, D, od_, hds, h_, r_⟩
  have hs2 := h_.size
  replace HW := Lib.hid (Below.outside HW.out h_ (by omega) (by omega))
  replace KT := Lib.hid (KT.out.outside h_ (.inl (by omega)))
  replace KS := Lib.hid (KS.out.outside h_ (.inl (by omega)))
  replace HR := Lib.hid r_
  have OD := Lib.hid od_
  clear h_ r_ od_
  obtain ⟨p0, r0, p1, r1, p2, r2, p3, r3, i0, i1, i2, i3, l0, l1, l2, l3⟩ := OD.out.shapes
  subst i0 i1 i2 i3
  clear l0 l1 l2 l3
  obtain ⟨w3, hw3⟩ : ∃ w3, w3 = w2.alloc (.cells #[(.slice p0 D.first.length r0), (.slice p1 D.goal.length r1), (.slice p2 D.made.length r2), (.slice p3 D.now.length r3)] 58) := ⟨_, rfl⟩
  obtain ⟨hb3, KD_, hs3⟩ := box_facts2 hw3
  have KD := Lib.hid KD_
  replace HW := Lib.hid (HW.out.trans (hb3.mono (by omega)))
  replace KT := Lib.hid (KT.out.below hb3 (by omega))
  replace KS := Lib.hid (KS.out.below hb3 (by omega))
  replace OD := Lib.hid (OD.out.below hb3 (Nat.le_refl _))
  replace HR := Lib.hid (HR.out.below hb3 HR.out.lt)
  have HW3 := Lib.hid hw3
  clear hb3 KD_ hw3
  go_upto_region 3 with (rw [← HW3.out])
  try rw [← HW3.out]
  clear HW3
  have O4 := Outside.set4 w.heap.size w3.drew (.slice p0 D.first.length r0) (.slice p1 D.goal.length r1) (.slice p2 D.made.length r2) (.slice p3 D.now.length r3)
  have hdz : w3.drew.heap.size = w3.heap.size := rfl
  obtain ⟨wy, hwy⟩ : ∃ wy, wy = ((((w3.drew.setCell ⟨w.heap.size, 0, none⟩ (.slice p0 D.first.length r0)).setCell ⟨w.heap.size, 1, none⟩ (.slice p1 D.goal.length r1)).setCell ⟨w.heap.size, 2, none⟩ (.slice p2 D.made.length r2)).setCell ⟨w.heap.size, 3, none⟩ (.slice p3 D.now.length r3)) := ⟨_, rfl⟩
  rw [← hwy] at O4
  have hz4 := O4.size
  have HSY := Lib.hid ((KS.out.drew).set4 (.slice p0 D.first.length r0) (.slice p1 D.goal.length r1) (.slice p2 D.made.length r2) (.slice p3 D.now.length r3))
  rw [← hwy] at HSY
  have k_0 := (KD.out.drew).cell 0
  have k_1 := (KD.out.drew).cell 1
  have k_2 := (KD.out.drew).cell 2
  have k_3 := (KD.out.drew).cell 3
  have ky := Blk.outside (KD.out.drew) O4 (.inr (by omega))
  have KDY := Lib.hid ky
  have y_0 := ky.cell 0
  have y_1 := ky.cell 1
  have y_2 := ky.cell 2
  have y_3 := ky.cell 3
  have s_0 := (KS.out.drew).cell 0
  have s_1 := (KS.out.drew).cell 1
  have s_2 := (KS.out.drew).cell 2
  have s_3 := (KS.out.drew).cell 3
  have t_0 := (KS.out.drew).free 0
  have t_1 := (KS.out.drew).free 1
  have t_2 := (KS.out.drew).free 2
  have t_3 := (KS.out.drew).free 3
  have ODD := Lib.hid (OD.out.outside (Outside.drewn (Outside.refl g (g + 1) w3)) (.inr (by omega)))
  have ODY := Lib.hid (DeskAt.outside ODD.out O4 (.inr (by omega)))
  have HRY := Lib.hid (Rd.past HR.out.drew KS.out.drew nil_no O4 (by omega))
  have KTY := Lib.hid (Blk.outside (KT.out.drew) O4 (.inr (by omega)))
  have HBY := Lib.hid (Below.outside (HW.out.drew) O4 (Nat.le_refl _) (by omega))
  have HWY := Lib.hid hwy
  clear hwy O4 ky
  go_region_held3 (fun w' => w'.cell? ⟨w2.heap.size, 0, none⟩ = some (.slice p0 D.first.length r0) ∧ w'.cell? ⟨w2.heap.size, 1, none⟩ = some (.slice p1 D.goal.length r1) ∧ w'.cell? ⟨w2.heap.size, 2, none⟩ = some (.slice p2 D.made.length r2) ∧ w'.cell? ⟨w2.heap.size, 3, none⟩ = some (.slice p3 D.now.length r3)) (first | with_reducible assumption | go_keep) (first
    | (go_at_call 68; refine (l20Act_any g _ w1.heap.size w2.heap.size _ _ _ _ D w3.drew HR.out.drew (by omega) ODD.out (by omega) (by omega) (by omega)).mono ?_; rintro e4 w4 ⟨A, rfl, h_, r_⟩; (have hs4 := h_.size); (have ks4 := Blk.outside KS.out.drew h_ (.inl (by omega))); (have kt4 := Blk.outside KT.out.drew h_ (.inl (by omega))); (have kd4 := Blk.outside KD.out.drew h_ (.inr (by omega))); (have a_0 := ks4.cell 0); (have a_1 := ks4.cell 1); (have a_2 := ks4.cell 2); (have a_3 := ks4.cell 3); (have b_0 := ks4.free 0); (have b_1 := ks4.free 1); (have b_2 := ks4.free 2); (have b_3 := ks4.free 3); (have c_0 := kt4.cell 0); (have c_1 := kt4.cell 1); (have c_2 := kt4.cell 2); (have c_3 := kt4.cell 3); (have c_4 := kt4.cell 4); (have d_0 := kt4.free 0); (have d_1 := kt4.free 1); (have d_2 := kt4.free 2); (have d_3 := kt4.free 3); (have d_4 := kt4.free 4); (have e_0 := kd4.cell 0); (have e_1 := kd4.cell 1); (have e_2 := kd4.cell 2); (have e_3 := kd4.cell 3); (have kda := Blk.outside kd4 (Outside.set4 w.heap.size w4 (.slice p0 D.first.length r0) (.slice p1 D.goal.length r1) (.slice p2 D.made.length r2) (.slice p3 D.now.length r3)) (.inr (by omega))); (have kdb := Blk.outside kd4 (Outside.set5 (w.heap.size + 1) w4 (.int .i64 A.kind) (.int .i64 A.step.which) (.bool A.step.back) (.int .i64 A.step.at_) (.int .i64 A.count)) (.inr (by omega))); (have ksb := Blk.outside ks4 (Outside.set5 (w.heap.size + 1) w4 (.int .i64 A.kind) (.int .i64 A.step.which) (.bool A.step.back) (.int .i64 A.step.at_) (.int .i64 A.count)) (.inl (by omega))); (have kta := Blk.outside kt4 (Outside.set4 w.heap.size w4 (.slice p0 D.first.length r0) (.slice p1 D.goal.length r1) (.slice p2 D.made.length r2) (.slice p3 D.now.length r3)) (.inr (by omega))); (have m_0 := kda.cell 0); (have m_1 := kda.cell 1); (have m_2 := kda.cell 2); (have m_3 := kda.cell 3); (have n_0 := kdb.cell 0); (have n_1 := kdb.cell 1); (have n_2 := kdb.cell 2); (have n_3 := kdb.cell 3); (have u_0 := ksb.cell 0); (have u_1 := ksb.cell 1); (have u_2 := ksb.cell 2); (have u_3 := ksb.cell 3); (have v_0 := ksb.free 0); (have v_1 := ksb.free 1); (have v_2 := ksb.free 2); (have v_3 := ksb.free 3); (have x_0 := kta.cell 0); (have x_1 := kta.cell 1); (have x_2 := kta.cell 2); (have x_3 := kta.cell 3); (have x_4 := kta.cell 4); (have z_0 := kta.free 0); (have z_1 := kta.free 1); (have z_2 := kta.free 2); (have z_3 := kta.free 3); (have z_4 := kta.free 4); (have kdab := Blk.outside kda (Outside.set5 (w.heap.size + 1) ((((w4.setCell ⟨w.heap.size, 0, none⟩ (.slice p0 D.first.length r0)).setCell ⟨w.heap.size, 1, none⟩ (.slice p1 D.goal.length r1)).setCell ⟨w.heap.size, 2, none⟩ (.slice p2 D.made.length r2)).setCell ⟨w.heap.size, 3, none⟩ (.slice p3 D.now.length r3)) (.int .i64 A.kind) (.int .i64 A.step.which) (.bool A.step.back) (.int .i64 A.step.at_) (.int .i64 A.count)) (.inr (by omega))); (have kdba := Blk.outside kdb (Outside.set4 w.heap.size (((((w4.setCell ⟨(w.heap.size + 1), 0, none⟩ (.int .i64 A.kind)).setCell ⟨(w.heap.size + 1), 1, none⟩ (.int .i64 A.step.which)).setCell ⟨(w.heap.size + 1), 2, none⟩ (.bool A.step.back)).setCell ⟨(w.heap.size + 1), 3, none⟩ (.int .i64 A.step.at_)).setCell ⟨(w.heap.size + 1), 4, none⟩ (.int .i64 A.count)) (.slice p0 D.first.length r0) (.slice p1 D.goal.length r1) (.slice p2 D.made.length r2) (.slice p3 D.now.length r3)) (.inr (by omega))); (have mm_0 := kdab.cell 0); (have mm_1 := kdab.cell 1); (have mm_2 := kdab.cell 2); (have mm_3 := kdab.cell 3); (have nn_0 := kdba.cell 0); (have nn_1 := kdba.cell 1); (have nn_2 := kdba.cell 2); (have nn_3 := kdba.cell 3); (have KS4 := Lib.hid ks4); (have KT4 := Lib.hid kt4); (have OD4 := Lib.hid (ODD.out.outside h_ (.inr (by omega)))); (have HB4 := Lib.hid (Below.outside HW.out.drew h_ (by omega) (by omega))); clear ks4 kt4 kd4 kda kdb ksb kta kdab kdba h_ r_)
    | (rw [← HWY.out]; refine (l20Act_any g _ w1.heap.size w2.heap.size _ _ _ _ D wy HRY.out (by omega) ODY.out (by omega) (by omega) (by omega)).mono ?_; rintro e4 w4 ⟨A, rfl, h_, r_⟩; (have hs4 := h_.size); (have ks4 := Blk.outside HSY.out h_ (.inl (by omega))); (have kt4 := Blk.outside KTY.out h_ (.inl (by omega))); (have kd4 := Blk.outside KDY.out h_ (.inr (by omega))); (have c_0 := kt4.cell 0); (have c_1 := kt4.cell 1); (have c_2 := kt4.cell 2); (have c_3 := kt4.cell 3); (have c_4 := kt4.cell 4); (have d_0 := kt4.free 0); (have d_1 := kt4.free 1); (have d_2 := kt4.free 2); (have d_3 := kt4.free 3); (have d_4 := kt4.free 4); (have e_0 := kd4.cell 0); (have e_1 := kd4.cell 1); (have e_2 := kd4.cell 2); (have e_3 := kd4.cell 3); (have kdb := Blk.outside kd4 (Outside.set5 (w.heap.size + 1) w4 (.int .i64 A.kind) (.int .i64 A.step.which) (.bool A.step.back) (.int .i64 A.step.at_) (.int .i64 A.count)) (.inr (by omega))); (have n_0 := kdb.cell 0); (have n_1 := kdb.cell 1); (have n_2 := kdb.cell 2); (have n_3 := kdb.cell 3); (have KS4 := Lib.hid ks4); (have KT4 := Lib.hid kt4); (have OD4 := Lib.hid (ODY.out.outside h_ (.inr (by omega)))); (have HB4 := Lib.hid (Below.outside HBY.out h_ (by omega) (by omega))); clear ks4 kt4 kd4 kdb h_ r_)
    | (rw [← HWY.out]))
  obtain ⟨wa, hwa⟩ : ∃ wa, wa = ((((w4.setCell ⟨w.heap.size, 0, none⟩ (.slice p0 D.first.length r0)).setCell ⟨w.heap.size, 1, none⟩ (.slice p1 D.goal.length r1)).setCell ⟨w.heap.size, 2, none⟩ (.slice p2 D.made.length r2)).setCell ⟨w.heap.size, 3, none⟩ (.slice p3 D.now.length r3)) := ⟨_, rfl⟩
  have OA := Outside.set4 w.heap.size w4 (.slice p0 D.first.length r0) (.slice p1 D.goal.length r1) (.slice p2 D.made.length r2) (.slice p3 D.now.length r3)
  have KSA := KS4.out.set4 (.slice p0 D.first.length r0) (.slice p1 D.goal.length r1) (.slice p2 D.made.length r2) (.slice p3 D.now.length r3)
  rw [← hwa] at OA KSA
  obtain ⟨wz, hwz⟩ : ∃ wz, wz = (((((wa.setCell ⟨(w.heap.size + 1), 0, none⟩ (.int .i64 A.kind)).setCell ⟨(w.heap.size + 1), 1, none⟩ (.int .i64 A.step.which)).setCell ⟨(w.heap.size + 1), 2, none⟩ (.bool A.step.back)).setCell ⟨(w.heap.size + 1), 3, none⟩ (.int .i64 A.step.at_)).setCell ⟨(w.heap.size + 1), 4, none⟩ (.int .i64 A.count)) := ⟨_, rfl⟩
  have OZ := Outside.set5 (w.heap.size + 1) wa (.int .i64 A.kind) (.int .i64 A.step.which) (.bool A.step.back) (.int .i64 A.step.at_) (.int .i64 A.count)
  have KTZ := (Blk.outside KT4.out OA (.inr (by omega))).set5 (.int .i64 A.kind) (.int .i64 A.step.which) (.bool A.step.back) (.int .i64 A.step.at_) (.int .i64 A.count)
  rw [← hwz] at OZ KTZ
  have KSZ := Blk.outside KSA OZ (.inl (by omega))
  have hs_a := OA.size
  have hs_z := OZ.size
  have zs0 := KSZ.cell 0
  have zs1 := KSZ.cell 1
  have zs2 := KSZ.cell 2
  have zs3 := KSZ.cell 3
  have zt0 := KTZ.cell 0
  have zt1 := KTZ.cell 1
  have zt2 := KTZ.cell 2
  have zt3 := KTZ.cell 3
  have zt4 := KTZ.cell 4
  have HE := Lib.hid (Below.outside (Below.outside HB4.out OA (Nat.le_refl _) (by omega)) OZ (by omega) (by omega))
  have ODZ := Lib.hid (((OD4.out.outside OA (.inr (by omega))).outside OZ (.inr (by omega))).wide (Nat.zero_le _) (show _ ≤ wz.heap.size by omega))
  clear KSA KTZ KSZ OA OZ
  simp only [← hwa, ← hwz]
  clear hwa hwz
  go_wp2_with fail
  refine bodyPost_ret (v := .tuple #[.agg #[(.slice p0 D.first.length r0), (.slice p1 D.goal.length r1), (.slice p2 D.made.length r2), (.slice p3 D.now.length r3)], .agg #[(.int .i64 A.kind), (.int .i64 A.step.which), (.bool A.step.back), (.int .i64 A.step.at_), (.int .i64 A.count)]]) (by simp [results, Tryz.results39, go_sem, zs0, zs1, zs2, zs3, zt0, zt1, zt2, zt3, zt4]) rfl ⟨_, _, _, _, D, A, rfl, HE.out, ODZ.out, by omega⟩


set_option maxRecDepth 100000 in
set_option maxHeartbeats 6400000 in
theorem l20Written_any (g c : Nat) (w : World) (h : Rd g w c) (hc : c ≤ 100000) :
    Calls Tryz.prog 85 #[.pointer (some ⟨g, 0, none⟩)] w (RetV fun v w' => ∃ acl lo_ hi_, OwnA lo_ hi_ 51 w' v acl ∧ w.heap.size ≤ lo_ ∧ lo_ ≤ hi_ ∧ hi_ ≤ w'.heap.size ∧ acl.length ≤ 6 ∧ Outside g (g + 1) w w' ∧ Rd g w' (c + 20000)) := by
  have hg := h.lt
  obtain ⟨w0, hw0⟩ : ∃ w0, w0 = w.alloc (.cells #[] 51) := ⟨_, rfl⟩
  have OA : Hid (OwnA w.heap.size (w.heap.size + 1) 51 w0 (.slice (some ⟨w.heap.size, 0, none⟩) 0 0) []) := by
    rw [hw0]
    exact Lib.hid (show Own 5 w.heap.size (w.heap.size + 1) 51 _ _ _ _ from Own.lit 5 51 w [] 0 (by omega) rfl)
  obtain ⟨hb0, _, hs0⟩ := box_facts2 hw0
  have HR := Lib.hid (h.below hb0 hg)
  have HO := Lib.hid ((Outside.refl g (g + 1) w).below hb0 (Nat.le_refl _))
  clear h hb0
  go_enter Tryz.func85, Tryz.ntmps85
  go_wp2_with fail
  simp only [← hw0]
  clear hw0
  refine (l20Desk_any g c 0 _ HR.out (by omega) (by omega)).mono ?_
  rintro e w1 ⟨y0, y1, y2, y3, rfl, D, od_, hds, h_, r_⟩
  have hs1 := h_.size
  replace OA := Lib.hid (OA.out.outside h_ (.inr (by omega)))
  replace HO := Lib.hid (HO.out.trans h_)
  replace HR := Lib.hid r_
  have OD := Lib.hid od_
  clear h_ r_ od_
  go_wp2_with fail
  refine (l20Acts_any g _ w0.heap.size w1.heap.size _ _ _ _ D _ HR.out (by omega) OD.out (Nat.le_refl _) (by omega) (by omega)).mono ?_
  rintro e w2 ⟨va, rfl, la, oa_, hla, h_, r_⟩
  have hs2 := h_.size
  replace OA := Lib.hid (OA.out.outside h_ (.inr (by omega)))
  replace HO := Lib.hid (HO.out.trans h_)
  replace HR := Lib.hid r_
  obtain ⟨xa, xc, rfl⟩ := Own.shape oa_
  have LA : Hid (SlA w1.heap.size w2.heap.size w2 (.slice xa la.length xc) la) := Lib.hid oa_.sl
  clear h_ r_ oa_ OD
  go_wp2_with fail
  go_loopw [3, 5] (fun ov kv wr => ∃ (k : Nat) (acl : List Ac) (oa : Option Addr) (oc : Nat), ov = .slice oa acl.length oc ∧ kv = .int .i64 k ∧ k ≤ la.length ∧ acl.length ≤ k ∧ Hid (w2.heap.size ≤ wr.heap.size ∧ Outside g (g + 1) w wr ∧ Rd g wr (c + 20000) ∧ SlA w1.heap.size w2.heap.size wr (.slice xa la.length xc) la ∧ ∃ lo_ hi_, OwnA lo_ hi_ 51 wr (.slice oa acl.length oc) acl ∧ w.heap.size ≤ lo_ ∧ lo_ ≤ hi_ ∧ hi_ ≤ wr.heap.size ∧ (hi_ ≤ w1.heap.size ∨ w2.heap.size ≤ lo_))) (fun _ k _ => la.length - (intOf k).toNat)
  case atStart => exact ⟨0, [], _, _, rfl, rfl, by omega, by simp, Lib.hid ⟨by omega, HO.out, HR.out.mono (by omega), LA.out, _, _, OA.out, by omega, by omega, by omega, by omega⟩⟩
  case round =>
    clear HO HR LA OA
    obtain ⟨k, acl, oa, oc, rfl, rfl, hk, hak, HQ⟩ := hrel
    obtain ⟨hsr, ho_, hr_, la_, lo_, hi_, oa_, hlo1, hlohi, hhi1, hdj⟩ := HQ.out
    have HO := Lib.hid ho_
    have HR := Lib.hid hr_
    have LA := Lib.hid la_
    have OA := Lib.hid oa_
    clear HQ ho_ hr_ oa_
    by_cases hlt : k < la.length
    · obtain ⟨b, off, e1, hb1, hb2, hb3, q0, q1, q2, q3, q4⟩ := la_.get k hlt
      subst e1
      clear la_
      go_wp2_with fail
      clear q0 q1 q2 q3 q4
      refine (spec_ActText la[k] wr).mono ?_
      rintro e w3 ⟨rfl, hb_⟩
      have hs3 := hb_.size
      replace HR := Lib.hid (HR.out.below hb_ HR.out.lt)
      replace HO := Lib.hid (HO.out.below hb_ (by omega))
      replace LA := Lib.hid (LA.out.below hb_ (by omega))
      replace OA := Lib.hid (OA.out.below hb_ hhi1)
      clear hb_
      obtain ⟨t, ht⟩ : ∃ t, t = actText la[k] := ⟨_, rfl⟩
      rw [← ht]
      clear ht
      cases t
      · go_wp2
        go_roundw
        case rel => exact ⟨k + 1, acl, _, _, rfl, by go_num, by omega, by omega, Lib.hid ⟨by omega, HO.out, HR.out, LA.out, lo_, hi_, OA.out, by omega, by omega, by omega, hdj⟩⟩
        case measure => simp [intOf]; omega
      · obtain ⟨b', off', e1, _, _, _, q0, q1, q2, q3, q4⟩ := LA.out.get k hlt
        injection e1 with e1
        injection e1 with e1 e2
        subst e1 e2
        go_upto_region 5 with (at_builtin; refine wpList_app_lit2 w3 rfl _ _ _ (by rfl) 51 (.agg #[.int .i64 0, .int .i64 0, .bool false, .int .i64 0, .int .i64 0]) 5 40 Tryz.underlying65 info_act rfl (by decide) (by decide) (by rfl) OA.out 1 (encAc la[k]) (by rfl) rfl (encAc_one la[k]) rfl (by omega) (by omega) ?_; intro v9 w9 lo9 hi9 hown9 hrange9 hout9; obtain ⟨a9, c9, rfl⟩ := Own.shape hown9; (have H9 := Lib.hid (And.intro hown9 (And.intro hrange9 hout9))); clear hown9 hrange9 hout9)
        clear q0 q1 q2 q3 q4
        obtain ⟨hown9, hrange9, hout9⟩ := H9.out
        clear H9
        have hs_9 := hout9.size
        replace LA := Lib.hid (LA.out.outside hout9 (by omega))
        replace HO := Lib.hid (HO.out.fresh hout9 (by omega))
        replace HR := Lib.hid (HR.out.outside hout9 (by omega))
        have OA9 : Hid (OwnA lo9 hi9 51 w9 (.slice a9 (acl ++ [la[k]]).length c9) (acl ++ [la[k]])) := Lib.hid (by have h_ := hown9; simpa [OwnA, acs] using h_)
        clear hown9 hout9 OA
        go_wp2
        go_roundw
        case rel => exact ⟨k + 1, acl ++ [la[k]], _, _, by simp, by go_num, by omega, by simp; omega, Lib.hid ⟨by omega, HO.out, HR.out, LA.out, lo9, hi9, OA9.out, by omega, by omega, by omega, by omega⟩⟩
        case measure => simp [intOf]; omega
    · go_wp2
      go_ret
      exact RetV.mk _ rfl ⟨acl, lo_, hi_, OA.out, hlo1, hlohi, hhi1, by omega, HO.out, HR.out⟩

set_option maxRecDepth 100000 in
set_option maxHeartbeats 3200000 in
theorem DrawJournalText_any (v : Value) (xs : List Int) (w : World) (h : SlB 0 w.heap.size w v xs) :
    Calls Tryz.prog 44 #[v] w (RetV fun va w' => ∃ acl : List Ac, acl.length ≤ 7 ∧ Below w.heap.size w w' ∧ SlA 0 w'.heap.size w' va acl) := by
  go_enter Tryz.func44, Tryz.ntmps44
  go_wp2_with fail
  refine (l20Open_any _ xs _ h).mono ?_
  rintro e w1 ⟨_, rfl, g, rfl, hg, hb, hr⟩
  have hs1 := hb.size
  have HW := Lib.hid hb
  have HR := Lib.hid hr
  have hg1 := hr.lt
  clear hb hr h
  go_wp2_with fail
  refine (l20Written_any g 0 _ HR.out (by omega)).mono ?_
  rintro e w2 ⟨va, rfl, acl, lo_, hi_, oa_, hlo1, hlohi, hhi1, hal, h_, r_⟩
  have hs2 := h_.size
  obtain ⟨xa, xc, rfl⟩ := Own.shape oa_
  have OA := Lib.hid oa_
  replace HW := Lib.hid (Below.outside HW.out h_ (by omega) (by omega))
  replace HR := Lib.hid r_
  clear h_ r_ oa_
  go_wp2_with fail
  refine (odd_any g _ 12 _ HR.out (by omega) (by omega)).mono ?_
  rintro e w3 ⟨b, rfl, h_, r_⟩
  have hs3 := h_.size
  replace OA := Lib.hid (OA.out.outside h_ (.inr (by omega)))
  replace HW := Lib.hid (Below.outside HW.out h_ (by omega) (by omega))
  clear h_ r_
  cases b
  · go_wp2
    go_ret
    exact RetV.mk _ rfl ⟨acl, by omega, HW.out, OA.out.sl.wide (by omega) (by omega)⟩
  · go_upto_region 5 with (at_builtin; refine wpList_app_lit2 w3 rfl _ _ _ (by rfl) 51 (.agg #[.int .i64 0, .int .i64 0, .bool false, .int .i64 0, .int .i64 0]) 5 40 Tryz.underlying65 info_act rfl (by decide) (by decide) (by rfl) OA.out 1 (encAc ⟨9, ⟨0, false, 0⟩, 0⟩) (by rfl) rfl (encAc_one ⟨9, ⟨0, false, 0⟩, 0⟩) rfl (by omega) (by omega) ?_; intro v9 w9 lo9 hi9 hown9 hrange9 hout9; obtain ⟨a9, c9, rfl⟩ := Own.shape hown9; (have H9 := Lib.hid (And.intro hown9 (And.intro hrange9 hout9))); clear hown9 hrange9 hout9)
    obtain ⟨hown9, hrange9, hout9⟩ := H9.out
    clear H9
    have hs_9 := hout9.size
    have OA9 : Hid (OwnA lo9 hi9 51 w9 (.slice a9 (acl.length + 1) c9) (acl ++ [⟨9, ⟨0, false, 0⟩, 0⟩])) := Lib.hid (by have h_ := hown9; simpa [OwnA, acs] using h_)
    have hhi9 : hi9 ≤ w9.heap.size := by omega
    have HE := Lib.hid (Below.outside HW.out hout9 (by omega) (by omega))
    clear hown9 hout9 OA
    go_wp2
    go_ret
    exact RetV.mk _ rfl ⟨acl ++ [⟨9, ⟨0, false, 0⟩, 0⟩], by simp; omega, HE.out, OA9.out.sl.wide (by omega) hhi9⟩
end Go.Proofs.YtagjpecibpejmaaGreatDoor
