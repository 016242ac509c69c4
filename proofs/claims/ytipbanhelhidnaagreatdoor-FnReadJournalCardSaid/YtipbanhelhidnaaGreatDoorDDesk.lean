/-
  Texts of walks and plain lemmas for this seat; no condition.
-/
import Derived.Test.YtipbanhelhidnaaGreatDoorDAct
import Derived.Test.YtipbanhelhidnaaGreatDoorGO
import Derived.Test.YtipbanhelhidnaaGreatDoorGM
import Derived.Deep.RegionHeld3
import Derived.Deep.RegionWith
import Derived.Deep.DeepCutAuto
import Derived.Deep.DrawnRows
namespace Go.Proofs.YtipbanhelhidnaaGreatDoor
open Go.RowKit

theorem Outside.grown {g : Nat} {w w' : World} (h : Below w.heap.size w w') : Outside g (g + 1) w w' := Outside.of_below h (Nat.le_refl _)
theorem slM_cap {lo hi n cap : Nat} {w : World} {a : Option Addr} {ms : List Mv} (h : SlM lo hi w (.slice a n cap) ms) : n ≤ cap := by
  obtain ⟨a', c', e, h1, _⟩ := h.shape
  injection e with _ e1 e2
  omega
theorem Blk.fld1 {g : Nat} {e : TypeId} {w : World} {x0 x1 x2 x3 : Value} (h : Blk g (.cells #[x0, x1, x2, x3] e (0, 0)) w) (y : Value) : Blk g (.cells #[x0, y, x2, x3] e (0, 0)) (w.setCell ⟨g, 1, none⟩ y) := by
  have h' : w.heap[g]? = _ := h
  show (w.setCell ⟨g, 1, none⟩ y).heap[g]? = _
  simp [World.setCell, Array.getElem?_modify, h']
theorem Blk.fld2 {g : Nat} {e : TypeId} {w : World} {x0 x1 x2 x3 : Value} (h : Blk g (.cells #[x0, x1, x2, x3] e (0, 0)) w) (y : Value) : Blk g (.cells #[x0, x1, y, x3] e (0, 0)) (w.setCell ⟨g, 2, none⟩ y) := by
  have h' : w.heap[g]? = _ := h
  show (w.setCell ⟨g, 2, none⟩ y).heap[g]? = _
  simp [World.setCell, Array.getElem?_modify, h']
theorem Blk.fld3 {g : Nat} {e : TypeId} {w : World} {x0 x1 x2 x3 : Value} (h : Blk g (.cells #[x0, x1, x2, x3] e (0, 0)) w) (y : Value) : Blk g (.cells #[x0, x1, x2, y] e (0, 0)) (w.setCell ⟨g, 3, none⟩ y) := by
  have h' : w.heap[g]? = _ := h
  show (w.setCell ⟨g, 3, none⟩ y).heap[g]? = _
  simp [World.setCell, Array.getElem?_modify, h']
theorem Outside.drewn {lo hi : Nat} {w w' : World} (h : Outside lo hi w w') : Outside lo hi w w'.drew := ⟨h.os, h.tape, h.output, h.size, h.block⟩
theorem deskDo_size2 (D : Dsk) (A : Ac) : (deskDo D A).1.size ≤ 180 := by
  cases h : deskV D
  · simp [deskDo, h, Dsk.none, Dsk.size]
  · exact deskV_size (deskDo_valid A h)
theorem deskNew_size {xs ys : List Int} (h : xs.length ≤ 60) (k : ys.length ≤ 50) : (deskNew xs ys).size ≤ 180 := by
  unfold deskNew
  split
  · simp [Dsk.size]; omega
  · simp [Dsk.none, Dsk.size]
theorem deskNew_size2 (xs ys : List Int) : (deskNew xs ys).size ≤ 180 := by
  unfold deskNew
  split
  · rename_i hc
    simp only [Bool.and_eq_true] at hc
    have h1 := (kat_len hc.1).2
    have h2 := (kat_len hc.2).2
    simp [Dsk.size]
    omega
  · simp [Dsk.none, Dsk.size]
theorem with_size {F G : List Int} {ms : List Mv} (h : ms.length ≤ 180) : (⟨(deskNew F G).first, (deskNew F G).goal, ms, (proofV F ms).getD []⟩ : Dsk).size ≤ 400 := by
  have h1 : (deskNew F G).first.length ≤ 40 ∧ (deskNew F G).goal.length ≤ 40 := by
    unfold deskNew
    split
    · rename_i hc
      simp only [Bool.and_eq_true] at hc
      exact ⟨(kat_len hc.1).2, (kat_len hc.2).2⟩
    · simp [Dsk.none]
  have h2 : ((proofV F ms).getD []).length ≤ 40 := by
    cases hp : proofV F ms with
    | none => simp
    | some x => exact (kat_len (proofV_kat hp)).2
  simp only [Dsk.size]
  omega
theorem new_cell0 (w : World) (o : Obj) : Blk w.heap.size o (w.alloc o) := Blk.new w o
/-- A desk in a block, and all else that a draw of desks carries. -/
structure Lays (g c gd : Nat) (w wr : World) : Prop where
  out : Outside g (g + 1) w wr
  rd : Rd g wr c
  res : Blk w.heap.size (.cells #[.slice none 0 0, .slice none 0 0, .slice none 0 0, .slice none 0 0] 31) wr
  desk : ∃ (y0 y1 y2 y3 : Value) (D : Dsk) (l h : Nat), Blk gd (.cells #[y0, y1, y2, y3] 31) wr ∧ DeskOwn l h wr y0 y1 y2 y3 D ∧ D.size ≤ 400 ∧ g + 1 ≤ l ∧ w.heap.size + 1 ≤ l ∧ h ≤ wr.heap.size ∧ (gd < l ∨ h ≤ gd)

/-- A new desk, and all else as it was. -/
def GotD (g c : Nat) (wr : World) (gx : Nat) (x0 x1 x2 x3 : Value) (X : Dsk) (lx ux : Nat) (wx : World) : Prop :=
  Blk gx (.cells #[x0, x1, x2, x3] 31) wx ∧ DeskOwn lx ux wx x0 x1 x2 x3 X ∧ X.size ≤ 180 ∧ wr.heap.size ≤ gx ∧ wr.heap.size ≤ lx ∧ (gx < lx ∨ ux ≤ gx) ∧ ux ≤ wx.heap.size ∧ Outside g (g + 1) wr wx ∧ Rd g wx c
theorem gotD1 {g c c' : Nat} {wr w2 : World} {x0 x1 x2 x3 : Value} {X : Dsk} {lx ux : Nat} (o : DeskOwn lx ux w2 x0 x1 x2 x3 X) (hX : X.size ≤ 180) (h : Outside g (g + 1) wr w2) (r : Rd g w2 c') (hc : c' ≤ c) (h1 : wr.heap.size ≤ lx) (h2 : ux ≤ w2.heap.size) :
    GotD g c wr w2.heap.size x0 x1 x2 x3 X lx ux (w2.alloc (.cells #[x0, x1, x2, x3] 31)) :=
  ⟨Blk.new _ _, o.below (al_below _ _) h2, hX, h.size, h1, .inr h2, by simp only [alloc_size]; omega, h.trans (Outside.grown (al_below _ _)), (r.al _).mono hc⟩
theorem gotD2 {g c c' gx : Nat} {wr w2 : World} {x0 x1 x2 x3 y0 y1 y2 y3 : Value} {X : Dsk} {lx ux : Nat} (k : Blk gx (.cells #[y0, y1, y2, y3] 31) w2) (o : DeskOwn lx ux w2 x0 x1 x2 x3 X) (hX : X.size ≤ 180) (h : Outside g (g + 1) wr w2) (r : Rd g w2 c') (hc : c' ≤ c) (h1 : wr.heap.size ≤ lx) (h2 : ux ≤ w2.heap.size) (h3 : wr.heap.size ≤ gx) (h4 : g < gx) (h5 : gx < lx := by omega) :
    GotD g c wr gx x0 x1 x2 x3 X lx ux ((((w2.setCell ⟨gx, 0, none⟩ x0).setCell ⟨gx, 1, none⟩ x1).setCell ⟨gx, 2, none⟩ x2).setCell ⟨gx, 3, none⟩ x3) :=
  ⟨k.set4 _ _ _ _, o.outside (Outside.set4 _ _ _ _ _ _) (.inr (by omega)), hX, h3, h1, .inl h5, by have := (Outside.set4 gx w2 x0 x1 x2 x3).size; omega, h.fresh (Outside.set4 _ _ _ _ _ _) h3, (r.outside (Outside.set4 _ _ _ _ _ _) h4).mono hc⟩

theorem lays_set4 {g c c' gd l h : Nat} {w w2 : World} {x0 x1 x2 x3 y0 y1 y2 y3 : Value} {X : Dsk} (k : Blk gd (.cells #[y0, y1, y2, y3] 31) w2) (o : DeskOwn l h w2 x0 x1 x2 x3 X) (hX : X.size ≤ 400) (ho : Outside g (g + 1) w w2) (r : Rd g w2 c') (kt : Blk w.heap.size (.cells #[.slice none 0 0, .slice none 0 0, .slice none 0 0, .slice none 0 0] 31) w2)
    (hc : c' ≤ c) (h1 : g < l) (h2 : w.heap.size < l) (h3 : h ≤ w2.heap.size) (h4 : gd < l) (h5 : w.heap.size < gd) (h6 : g < gd) :
    Lays g c gd w ((((w2.setCell ⟨gd, 0, none⟩ x0).setCell ⟨gd, 1, none⟩ x1).setCell ⟨gd, 2, none⟩ x2).setCell ⟨gd, 3, none⟩ x3) :=
  have O := Outside.set4 gd w2 x0 x1 x2 x3
  ⟨ho.fresh O (by omega), (r.outside O h6).mono hc, kt.outside O (.inl h5), _, _, _, _, X, l, h, k.set4 _ _ _ _, o.outside O (.inr h4), hX, h1, h2, Nat.le_trans h3 O.size, .inl h4⟩

set_option maxRecDepth 100000 in
set_option maxHeartbeats 12800000 in
theorem l20Desk_any (g c : Nat) (n : Int) (w : World) (h : Rd g w c) (hc : c ≤ 100000) (hn : n ≤ 1000) :
    Calls Tryz.prog 24 #[.pointer (some ⟨g, 0, none⟩), .int .i64 n] w (RetD fun a b c_ d w' => ∃ D : Dsk, DeskAt w.heap.size w'.heap.size w' a b c_ d D ∧ D.size ≤ 1000 ∧ Outside g (g + 1) w w' ∧ Rd g w' (c + 10000)) := by
  have hg := h.lt
  obtain ⟨w0, hw0⟩ : ∃ w0, w0 = w.alloc (.cells #[.slice none 0 0, .slice none 0 0, .slice none 0 0, .slice none 0 0] 31) := ⟨_, rfl⟩
  obtain ⟨hb0, KT_, hs0⟩ := box_facts2 hw0
  have KT := Lib.hid KT_
  have HR := Lib.hid (h.below hb0 hg)
  have HO := Lib.hid ((Outside.refl g (g + 1) w).below hb0 (Nat.le_refl _))
  clear h hb0 KT_
  go_enter Tryz.func24, Tryz.ntmps24
  go_wp2_with fail
  simp only [← hw0]
  clear hw0
  refine (l20Bound_any g c 0 _ HR.out (by omega) (by omega)).mono ?_
  rintro e w1 ⟨v1, rfl, xs, ox_, lx_, h_, r_⟩
  have hs_w1 := h_.size
  replace KT := Lib.hid (KT.out.outside h_ (.inr (by omega)))
  replace HO := Lib.hid (HO.out.trans h_)
  replace HR := Lib.hid r_
  clear h_ r_
  obtain ⟨xa, xc, rfl, _, _⟩ := Sl.shape ox_
  have OX := Lib.hid ox_
  clear ox_
  go_upto_if 16 with fail
  go_cut [5] (fun v wx => ∃ (za : Option Addr) (zc : Nat) (zs : List Int) (l h : Nat), v = .slice za zs.length zc ∧ zs.length ≤ 16 ∧ Hid (SlI l h wx (.slice za zs.length zc) zs ∧ g + 1 ≤ l ∧ w.heap.size ≤ l ∧ h ≤ wx.heap.size ∧ Outside g (g + 1) w wx ∧ Rd g wx (c + 2000) ∧ Blk w.heap.size (.cells #[.slice none 0 0, .slice none 0 0, .slice none 0 0, .slice none 0 0] 31) wx))
  case first =>
    by_cases hl : 16 < xs.length
    · go_wp2_with fail
      go_meet
      exact ⟨_, _, [10, 16, 19, 21], _, _, rfl, by simp, Lib.hid ⟨(OwnI.sl (show OwnI w1.heap.size (w1.heap.size + 1) 3 _ _ _ from Own.lit 1 3 w1 (ints [10, 16, 19, 21]) 4 (by omega) rfl)), by omega, by omega, by simp, HO.out.below (al_below _ _) (by omega), HR.out.al _, KT.out.al⟩⟩
    · go_wp2_with fail
      go_meet
      exact ⟨_, _, xs, _, _, rfl, by omega, Lib.hid ⟨OX.out, by omega, by omega, Nat.le_refl _, HO.out, HR.out, KT.out⟩⟩
  case rest =>
    obtain ⟨za, zc, zs, l1, h1, rfl, hz16, HQ⟩ := hcut
    obtain ⟨w2, rfl⟩ : ∃ x_, x_ = wc := ⟨_, rfl⟩
    obtain ⟨ox_, hl1, hl1', hh1, ho_, hr_, kt_⟩ := HQ.out
    clear HQ OX HO HR KT
    have OX := Lib.hid ox_
    have HO := Lib.hid ho_
    have HR := Lib.hid hr_
    have KT := Lib.hid kt_
    have hsz2 := kt_.lt
    clear ox_ ho_ hr_ kt_
    go_wp2_with fail
    refine (l20Kat_any g _ 2 0 _ HR.out (by omega) (by omega) (by omega) (by omega)).mono ?_
    rintro e w3 ⟨v2, rfl, ys, oy_, ly_, h_, r_⟩
    have hs_w3 := h_.size
    replace KT := Lib.hid (KT.out.outside h_ (.inr (by omega)))
    replace OX := Lib.hid (OX.out.outside h_ (.inr (by omega)))
    replace HO := Lib.hid (HO.out.trans h_)
    replace HR := Lib.hid r_
    clear h_ r_
    obtain ⟨ya, yc, rfl, _, _⟩ := Sl.shape oy_.sl
    have OY := Lib.hid oy_.sl
    clear oy_
    obtain ⟨w4, hw_⟩ : ∃ w_, w_ = w3.alloc (.cells #[] 39) := ⟨_, rfl⟩
    obtain ⟨hb_, K_, hs_w4⟩ := box_facts2 hw_
    replace HR := Lib.hid (HR.out.below hb_ HR.out.lt)
    have h_ := Outside.of_below (lo := g) (hi := g + 1) hb_ (Nat.le_refl _)
    replace KT := Lib.hid (KT.out.outside h_ (.inr (by omega)))
    replace OX := Lib.hid (OX.out.outside h_ (.inr (by omega)))
    replace OY := Lib.hid (OY.out.outside h_ (.inr (by omega)))
    replace HO := Lib.hid (HO.out.trans h_)
    clear h_ hb_
    have OM : Hid (SlM w3.heap.size (w3.heap.size + 1) w4 (.slice (some ⟨w3.heap.size, 0, none⟩) 0 0) []) := by
      rw [hw_]
      exact Lib.hid (Own.sl (show Own 3 w3.heap.size (w3.heap.size + 1) 39 _ _ _ _ from Own.lit 3 39 w3 [] 0 (by omega) rfl))
    go_wp2_with fail
    simp only [← hw_]
    clear hw_ K_
    refine (spec_DeskNew _ _ _ _ _ _ zs ys w4 OX.out OY.out (by omega) (by omega) (by omega) (by omega)).mono ?_
    rintro e w5 ⟨y0, y1, y2, y3, rfl, od_, hb_⟩
    replace HR := Lib.hid (HR.out.below hb_ HR.out.lt)
    have h_ := Outside.of_below (lo := g) (hi := g + 1) hb_ (Nat.le_refl _)
    have hs_w5 := h_.size
    replace KT := Lib.hid (KT.out.outside h_ (.inr (by omega)))
    replace OX := Lib.hid (OX.out.outside h_ (.inr (by omega)))
    replace OY := Lib.hid (OY.out.outside h_ (.inr (by omega)))
    replace OM := Lib.hid (OM.out.outside h_ (.inr (by omega)))
    replace HO := Lib.hid (HO.out.trans h_)
    clear h_ hb_
    have OD := Lib.hid od_
    clear od_
    have hds := deskNew_size (xs := zs) (ys := ys) (by omega) (by omega)
    obtain ⟨D, hD⟩ : ∃ D, D = deskNew zs ys := ⟨_, rfl⟩
    rw [← hD] at OD hds
    clear hD OY
    obtain ⟨p0, r0, p1, r1, p2, r2, p3, r3, i0, i1, i2, i3⟩ := OD.out.open
    subst i0 i1 i2 i3
    obtain ⟨w6, hw_⟩ : ∃ w_, w_ = w5.alloc (.cells #[.slice p0 D.first.length r0, .slice p1 D.goal.length r1, .slice p2 D.made.length r2, .slice p3 D.now.length r3] 31) := ⟨_, rfl⟩
    obtain ⟨hb_, K_, hs_w6⟩ := box_facts2 hw_
    replace HR := Lib.hid (HR.out.below hb_ HR.out.lt)
    have h_ := Outside.of_below (lo := g) (hi := g + 1) hb_ (Nat.le_refl _)
    replace KT := Lib.hid (KT.out.outside h_ (.inr (by omega)))
    replace OX := Lib.hid (OX.out.outside h_ (.inr (by omega)))
    replace OM := Lib.hid (OM.out.outside h_ (.inr (by omega)))
    replace OD := Lib.hid (OD.out.outside h_ (.inr (by omega)))
    replace HO := Lib.hid (HO.out.trans h_)
    clear h_ hb_
    have KD := Lib.hid K_
    go_wp2_with fail
    simp only [← hw_]
    clear hw_ K_
    refine (pick_any g _ 5 _ HR.out (by omega)).mono ?_
    rintro e w7 ⟨q5, rfl, i_, h_, r_⟩
    have hs_w7 := h_.size
    replace KT := Lib.hid (KT.out.outside h_ (.inr (by omega)))
    replace OX := Lib.hid (OX.out.outside h_ (.inr (by omega)))
    replace OM := Lib.hid (OM.out.outside h_ (.inr (by omega)))
    replace OD := Lib.hid (OD.out.outside h_ (.inr (by omega)))
    replace KD := Lib.hid (KD.out.outside h_ (.inr (by omega)))
    replace HO := Lib.hid (HO.out.trans h_)
    replace HR := Lib.hid r_
    clear h_ r_
    obtain ⟨i1_, i2_⟩ := i_.lt (by omega)
    clear i_
    obtain ⟨k5, rfl⟩ : ∃ k : Nat, q5 = k := ⟨q5.toNat, by omega⟩
    have hgu := KD.out.lt
    have hLays : Lays g (c + 3000 + 200 * (4 - k5)) w5.heap.size w w7 := ⟨HO.out, HR.out.mono (by omega), KT.out, _, _, _, _, D, _, _, KD.out, OD.out, by omega, by omega, by omega, by omega, by omega⟩
    have HL := Lib.hid hLays
    clear hLays OD HO HR KT KD hds
    go_wp2_with fail
    go_loopw [7, 9] (fun mv kv wr => ∃ (j : Nat) (ma : Option Addr) (mc : Nat) (ms : List Mv), mv = .slice ma ms.length mc ∧ kv = .int .i64 j ∧ j ≤ 4 ∧ ms.length ≤ 180 ∧ Hid (Lays g (c + 3000 + 200 * (4 - j)) w5.heap.size w wr ∧ SlI l1 h1 wr (.slice za zs.length zc) zs ∧ w2.heap.size ≤ wr.heap.size ∧ w5.heap.size < wr.heap.size ∧ ∃ l2 h2, SlM l2 h2 wr (.slice ma ms.length mc) ms ∧ g + 1 ≤ l2 ∧ w.heap.size ≤ l2 ∧ h2 ≤ wr.heap.size ∧ (w5.heap.size < l2 ∨ h2 ≤ w5.heap.size))) (fun _ k _ => (intOf k).toNat)
    case atStart => exact ⟨k5, _, _, [], rfl, rfl, by omega, by simp, Lib.hid ⟨HL.out, OX.out, by omega, by omega, _, _, OM.out, by omega, by omega, by omega, by omega⟩⟩
    case round =>
      clear HL OX OM
      obtain ⟨j, ma, mc, ms, rfl, rfl, hj4, hm60, HQ⟩ := hrel
      obtain ⟨hL_, ox_, hsr, hgr, l2, h2, om_, hl2, hl2', hh2, hd2⟩ := HQ.out
      obtain ⟨ho_, hr_, kt_, y0, y1, y2, y3, D, l, h, kd_, od_, hds, hl, hl', hh, hdd⟩ := hL_
      have HO := Lib.hid ho_
      have HR := Lib.hid hr_
      have KT := Lib.hid kt_
      have KD := Lib.hid kd_
      have OD := Lib.hid od_
      have OX := Lib.hid ox_
      have OM := Lib.hid om_
      clear HQ ho_ hr_ kt_ kd_ od_ ox_ om_
      by_cases hpos : 0 < j
      · skip
        go_upto_region 10 with fail
        go_cut [10, 11] (fun p_ q_ wx => ∃ (gx : Nat) (t : Bool) (x0 x1 x2 x3 : Value) (X : Dsk) (lx ux : Nat), p_ = .pointer (some ⟨gx, 0, none⟩) ∧ q_ = .bool t ∧ Hid (GotD g (c + 3000 + 200 * (4 - (j - 1))) wr gx x0 x1 x2 x3 X lx ux wx))
        case first =>
          have hg0 := HR.out.lt
          have hgs : ∀ w' : World, Outside g (g + 1) wr w' → w'.cell? ⟨w5.heap.size, 0, none⟩ = some y0 ∧ w'.cell? ⟨w5.heap.size, 1, none⟩ = some y1 ∧ w'.cell? ⟨w5.heap.size, 2, none⟩ = some y2 ∧ w'.cell? ⟨w5.heap.size, 3, none⟩ = some y3 := fun w' ho => ⟨(KD.out.outside ho (.inr (by omega))).cell 0, (KD.out.outside ho (.inr (by omega))).cell 1, (KD.out.outside ho (.inr (by omega))).cell 2, (KD.out.outside ho (.inr (by omega))).cell 3⟩
          have hoA : Outside g (g + 1) wr wr.drew := (Outside.refl _ _ _).drewn
          have hoB : Outside g (g + 1) wr (wr.alloc (.cells #[.slice none 0 0, .slice none 0 0, .slice none 0 0, .slice none 0 0] 31)).drew := (Outside.grown (al_below wr (.cells #[.slice none 0 0, .slice none 0 0, .slice none 0 0, .slice none 0 0] 31))).drewn
          have hS := hgs wr (Outside.refl _ _ _)
          have hSA := hgs _ hoA
          have hSB := hgs _ hoB
          have hdB : (wr.alloc (.cells #[.slice none 0 0, .slice none 0 0, .slice none 0 0, .slice none 0 0] 31)).drew.heap.size = wr.heap.size + 1 := alloc_size _ _
          have hdA : wr.drew.heap.size = wr.heap.size := rfl
          have HGS := Lib.hid hgs
          clear hgs
          go_region_held3 (fun w' => w'.cell? ⟨w5.heap.size, 0, none⟩ = some y0 ∧ w'.cell? ⟨w5.heap.size, 1, none⟩ = some y1 ∧ w'.cell? ⟨w5.heap.size, 2, none⟩ = some y2 ∧ w'.cell? ⟨w5.heap.size, 3, none⟩ = some y3) (first | with_reducible assumption | go_keep) (first
            | (go_at_call 52; refine (l20Act_any g _ l h _ _ _ _ D wr.drew (HR.out) (by omega) (OD.out.at.outside hoA (.inr (by omega))) (by omega) hl (by omega)).mono ?_; rintro e1 w1_ ⟨A, rfl, h_, r_⟩; (have hz1 := h_.size); (have ho1 := Outside.trans hoA h_); (have hS1 := HGS.out _ ho1); (have hSN1 := HGS.out _ (ho1.trans (Outside.grown (al_below _ (.cells #[.slice none 0 0, .slice none 0 0, .slice none 0 0, .slice none 0 0] 31))))); (have hz1n : (w1_.alloc (.cells #[.slice none 0 0, .slice none 0 0, .slice none 0 0, .slice none 0 0] 31)).heap.size = w1_.heap.size + 1 := alloc_size _ _); (have R1 := Lib.hid r_); clear h_ r_)
            | (go_at_call 52; refine (l20Act_any g _ l h _ _ _ _ D (wr.alloc (.cells #[.slice none 0 0, .slice none 0 0, .slice none 0 0, .slice none 0 0] 31)).drew (HR.out.al _) (by omega) (OD.out.at.outside hoB (.inr (by omega))) (by omega) hl (by omega)).mono ?_; rintro e1 w1_ ⟨A, rfl, h_, r_⟩; (have hz1 := h_.size); (have ho1 := Outside.trans hoB h_); (have hS1 := HGS.out _ ho1); (have hSN1 := HGS.out _ (ho1.trans (Outside.grown (al_below _ (.cells #[.slice none 0 0, .slice none 0 0, .slice none 0 0, .slice none 0 0] 31))))); (have hz1n : (w1_.alloc (.cells #[.slice none 0 0, .slice none 0 0, .slice none 0 0, .slice none 0 0] 31)).heap.size = w1_.heap.size + 1 := alloc_size _ _); (have R1 := Lib.hid r_); (have KN := Lib.hid (hop1 h_ hg0)); clear h_ r_)
            | (go_at_call 51; refine (spec_DeskDo l h _ _ _ _ D A w1_ (OD.out.at.outside ho1 (.inr (by omega))) (by omega) (by omega)).mono ?_; rintro e2 w2_ ⟨x0, x1, x2, x3, t, rfl, o_, rfl, hb_⟩; (have hX := deskDo_size2 D A); obtain ⟨X, tt, hXe⟩ : ∃ X tt, deskDo D A = (X, tt) := ⟨_, _, rfl⟩; rw [hXe] at o_ hX ⊢; obtain ⟨z0, z1, z2, z3, z4, z5, z6, z7, i0, i1, i2, i3⟩ := o_.open; subst i0 i1 i2 i3; (have hz2 := hb_.size); (have ho2 := Outside.trans ho1 (Outside.grown (g := g) hb_)); (have hS2 := HGS.out _ ho2); (have hSN2 := HGS.out _ (ho2.trans (Outside.grown (al_below _ (.cells #[.slice none 0 0, .slice none 0 0, .slice none 0 0, .slice none 0 0] 31))))); (have hSL := HGS.out _ (ho2.trans (Outside.grown (al_below _ (.cells #[.slice z0 X.first.length z1, .slice z2 X.goal.length z3, .slice z4 X.made.length z5, .slice z6 X.now.length z7] 31))))); (have hS40 := HGS.out _ (Outside.fresh ho2 (Outside.set4 wr.heap.size w2_ (.slice z0 X.first.length z1) (.slice z2 X.goal.length z3) (.slice z4 X.made.length z5) (.slice z6 X.now.length z7)) (by omega))); (have hS41 := HGS.out _ (Outside.fresh ho2 (Outside.set4 w1_.heap.size w2_ (.slice z0 X.first.length z1) (.slice z2 X.goal.length z3) (.slice z4 X.made.length z5) (.slice z6 X.now.length z7)) (by omega))); (have R2 := Lib.hid (R1.out.below hb_ R1.out.lt)); (try (have kn := KN.out.below hb_ (by omega); (have c0 := kn.cell 0); (have c1 := kn.cell 1); (have c2 := kn.cell 2); (have c3 := kn.cell 3); (have f0 := kn.free 0); (have f1 := kn.free 1); (have f2 := kn.free 2); (have f3 := kn.free 3); (have KM := Lib.hid kn); clear kn)); (have O2 := Lib.hid o_); clear hb_ o_ hXe)
            | (go_at_call 51; refine (spec_DeskDo l h _ _ _ _ D A (w1_.alloc (.cells #[.slice none 0 0, .slice none 0 0, .slice none 0 0, .slice none 0 0] 31)) (OD.out.at.outside (ho1.trans (Outside.grown (al_below _ _))) (.inr (by omega))) (by omega) (by omega)).mono ?_; rintro e2 w2_ ⟨x0, x1, x2, x3, t, rfl, o_, rfl, hb_⟩; (have hX := deskDo_size2 D A); obtain ⟨X, tt, hXe⟩ : ∃ X tt, deskDo D A = (X, tt) := ⟨_, _, rfl⟩; rw [hXe] at o_ hX ⊢; obtain ⟨z0, z1, z2, z3, z4, z5, z6, z7, i0, i1, i2, i3⟩ := o_.open; subst i0 i1 i2 i3; (have hz2 := hb_.size); (have ho2 := Outside.trans (ho1.trans (Outside.grown (al_below _ _))) (Outside.grown (g := g) hb_)); (have hS2 := HGS.out _ ho2); (have hSN2 := HGS.out _ (ho2.trans (Outside.grown (al_below _ (.cells #[.slice none 0 0, .slice none 0 0, .slice none 0 0, .slice none 0 0] 31))))); (have hSL := HGS.out _ (ho2.trans (Outside.grown (al_below _ (.cells #[.slice z0 X.first.length z1, .slice z2 X.goal.length z3, .slice z4 X.made.length z5, .slice z6 X.now.length z7] 31))))); (have hS40 := HGS.out _ (Outside.fresh ho2 (Outside.set4 wr.heap.size w2_ (.slice z0 X.first.length z1) (.slice z2 X.goal.length z3) (.slice z4 X.made.length z5) (.slice z6 X.now.length z7)) (by omega))); (have hS41 := HGS.out _ (Outside.fresh ho2 (Outside.set4 w1_.heap.size w2_ (.slice z0 X.first.length z1) (.slice z2 X.goal.length z3) (.slice z4 X.made.length z5) (.slice z6 X.now.length z7)) (by omega))); (have kn := (Blk.new w1_ (.cells #[.slice none 0 0, .slice none 0 0, .slice none 0 0, .slice none 0 0] 31)).below hb_ (by omega)); (have R2 := Lib.hid ((R1.out.al _).below hb_ (R1.out.al (.cells #[.slice none 0 0, .slice none 0 0, .slice none 0 0, .slice none 0 0] 31)).lt)); (have c0 := kn.cell 0); (have c1 := kn.cell 1); (have c2 := kn.cell 2); (have c3 := kn.cell 3); (have f0 := kn.free 0); (have f1 := kn.free 1); (have f2 := kn.free 2); (have f3 := kn.free 3); (have KM := Lib.hid kn); clear kn; (have O2 := Lib.hid o_); clear hb_ o_ hXe))
          all_goals (
            go_wp2_with fail
            go_meet
            with_reducible first
              | exact ⟨_, _, _, _, _, _, _, _, _, rfl, rfl, Lib.hid (gotD1 O2.out hX ho2 R2.out (by omega) (by omega) (by omega))⟩
              | exact ⟨_, _, _, _, _, _, _, _, _, rfl, rfl, Lib.hid (gotD2 KM.out O2.out hX ho2 R2.out (by omega) (by omega) (by omega) (by omega) (by omega))⟩)
        case rest =>
          obtain ⟨gx, t, x0, x1, x2, x3, X, lx, ux, rfl, rfl, HQ⟩ := hcut
          obtain ⟨wx, rfl⟩ : ∃ x_, x_ = wc := ⟨_, rfl⟩
          obtain ⟨kx_, oxd_, hXs, hgx, hlx, hdx, hux, h_, r_⟩ := HQ.out
          have KX := Lib.hid kx_
          have OXD := Lib.hid oxd_
          have hs_x := h_.size
          have hgxu := kx_.lt
          replace KT := Lib.hid (KT.out.outside h_ (.inr (by omega)))
          replace KD := Lib.hid (KD.out.outside h_ (.inr (by omega)))
          replace OD := Lib.hid (OD.out.outside h_ (.inr (by omega)))
          replace OX := Lib.hid (OX.out.outside h_ (.inr (by omega)))
          replace OM := Lib.hid (OM.out.outside h_ (.inr (by omega)))
          replace HO := Lib.hid (HO.out.trans h_)
          replace HR := Lib.hid r_
          clear HQ kx_ oxd_ h_ r_
          obtain ⟨u0, v0, u1, v1, u2, v2, u3, v3, i0, i1, i2, i3⟩ := OXD.out.open
          subst i0 i1 i2 i3
          have m60 : X.made.length ≤ 180 := by unfold Dsk.size at hXs; omega
          cases t
          · go_wp2
            go_roundw
            case rel => exact ⟨j - 1, _, _, ms, rfl, by first | go_num | (congr 1; omega), by omega, by omega, Lib.hid ⟨⟨HO.out, HR.out, KT.out, y0, y1, y2, y3, D, l, h, KD.out, OD.out, hds, hl, hl', by omega, hdd⟩, OX.out, by omega, by omega, l2, h2, OM.out, hl2, hl2', by omega, hd2⟩⟩
            case measure => simp [intOf]; omega
          · skip
            have a0 := KX.out.cell 0
            have a1 := KX.out.cell 1
            have a2 := KX.out.cell 2
            have a3 := KX.out.cell 3
            have b0 := KD.out.cell 0
            have b1 := KD.out.cell 1
            have b2 := KD.out.cell 2
            have b3 := KD.out.cell 3
            have f0 := KD.out.free 0
            have f1 := KD.out.free 1
            have f2 := KD.out.free 2
            have f3 := KD.out.free 3
            obtain ⟨wz, hwz⟩ : ∃ wz, wz = ((((wx.setCell ⟨w5.heap.size, 0, none⟩ (.slice u0 X.first.length v0)).setCell ⟨w5.heap.size, 1, none⟩ (.slice u1 X.goal.length v1)).setCell ⟨w5.heap.size, 2, none⟩ (.slice u2 X.made.length v2)).setCell ⟨w5.heap.size, 3, none⟩ (.slice u3 X.now.length v3)) := ⟨_, rfl⟩
            have OZ := Outside.set4 w5.heap.size wx (.slice u0 X.first.length v0) (.slice u1 X.goal.length v1) (.slice u2 X.made.length v2) (.slice u3 X.now.length v3)
            have KZ := KD.out.set4 (.slice u0 X.first.length v0) (.slice u1 X.goal.length v1) (.slice u2 X.made.length v2) (.slice u3 X.now.length v3)
            rw [← hwz] at OZ KZ
            have e2 := (KX.out.outside OZ (.inr (by omega))).cell 2
            have HKZ := Lib.hid KZ
            have hs_z := OZ.size
            have OXZ := Lib.hid (OXD.out.outside OZ (.inr (by omega)))
            have HNW := Lib.hid (And.intro (HO.out.fresh OZ (by omega)) (And.intro (HR.out.outside OZ (by omega)) (And.intro (KT.out.outside OZ (.inl (by omega))) (OX.out.outside OZ (.inl (by omega))))))
            have HWZ := Lib.hid hwz
            clear hwz OZ KZ
            go_upto_region 13 with (rw [← HWZ.out])
            try rw [← HWZ.out]
            clear a0 a1 a2 a3 b0 b1 b2 b3 f0 f1 f2 f3 HWZ
            go_wp2
            go_roundw
            case rel => exact ⟨j - 1, _, _, X.made, rfl, by first | go_num | (congr 1; omega), by omega, by omega, Lib.hid ⟨⟨HNW.out.1, HNW.out.2.1, HNW.out.2.2.1, _, _, _, _, X, lx, ux, HKZ.out, OXZ.out, by omega, by omega, by omega, by omega, by omega⟩, HNW.out.2.2.2, by omega, by omega, lx, ux, OXZ.out.at.made, by omega, by omega, by omega, by omega⟩⟩
            case measure => simp [intOf]; omega
      · skip
        obtain rfl : j = 0 := by omega
        go_wp2_with fail
        refine (pick_any g _ 2 _ HR.out (by omega)).mono ?_
        rintro e w8 ⟨q14, rfl, i_, h_, r_⟩
        have hs_w8 := h_.size
        replace KT := Lib.hid (KT.out.outside h_ (.inr (by omega)))
        replace KD := Lib.hid (KD.out.outside h_ (.inr (by omega)))
        replace OD := Lib.hid (OD.out.outside h_ (.inr (by omega)))
        replace OX := Lib.hid (OX.out.outside h_ (.inr (by omega)))
        replace OM := Lib.hid (OM.out.outside h_ (.inr (by omega)))
        replace HO := Lib.hid (HO.out.trans h_)
        replace HR := Lib.hid r_
        clear h_ r_
        clear i_
        have hcap := slM_cap OM.out
        go_upto_if 44 with fail
        go_cut [] (fun wx => Hid (Lays g (c + 4100) w5.heap.size w wx))
        case first =>
          cases hq14 : q14 == 0
          · go_wp2_with fail
            go_meet
            exact Lib.hid ⟨HO.out, HR.out.mono (by omega), KT.out, y0, y1, y2, y3, D, l, h, KD.out, OD.out, hds, hl, hl', by omega, hdd⟩
          · skip
            have k_0 := KD.out.cell 0
            have k_1 := KD.out.cell 1
            have k_2 := KD.out.cell 2
            have k_3 := KD.out.cell 3
            go_wp2_with fail
            clear k_0 k_1 k_2 k_3
            refine (spec_DeskNew _ _ _ _ _ _ zs D.now w8 OX.out OD.out.at.now (by omega) (by omega) (by omega) (by unfold Dsk.size at hds; omega)).mono ?_
            rintro e w9 ⟨a0, a1, a2, a3, rfl, on_, hb_⟩
            replace HR := Lib.hid (HR.out.below hb_ HR.out.lt)
            have h_ := Outside.of_below (lo := g) (hi := g + 1) hb_ (Nat.le_refl _)
            have hs_w9 := h_.size
            replace KT := Lib.hid (KT.out.outside h_ (.inr (by omega)))
            replace KD := Lib.hid (KD.out.outside h_ (.inr (by omega)))
            replace OD := Lib.hid (OD.out.outside h_ (.inr (by omega)))
            replace OX := Lib.hid (OX.out.outside h_ (.inr (by omega)))
            replace OM := Lib.hid (OM.out.outside h_ (.inr (by omega)))
            replace HO := Lib.hid (HO.out.trans h_)
            clear h_ hb_
            have ON := Lib.hid on_
            clear on_
            have hns := deskNew_size2 zs D.now
            obtain ⟨N, hN⟩ : ∃ N, N = deskNew zs D.now := ⟨_, rfl⟩
            rw [← hN] at ON hns
            clear hN
            obtain ⟨p0, r0, p1, r1, p2, r2, p3, r3, i0, i1, i2, i3⟩ := ON.out.open
            subst i0 i1 i2 i3
            have b_0 := KD.out.cell 0
            have b_1 := KD.out.cell 1
            have b_2 := KD.out.cell 2
            have b_3 := KD.out.cell 3
            have f_0 := KD.out.free 0
            have f_1 := KD.out.free 1
            have f_2 := KD.out.free 2
            have f_3 := KD.out.free 3
            obtain ⟨wz, hwz⟩ : ∃ wz, wz = ((((w9.setCell ⟨w5.heap.size, 0, none⟩ (.slice p0 N.first.length r0)).setCell ⟨w5.heap.size, 1, none⟩ (.slice p1 N.goal.length r1)).setCell ⟨w5.heap.size, 2, none⟩ (.slice p2 N.made.length r2)).setCell ⟨w5.heap.size, 3, none⟩ (.slice p3 N.now.length r3)) := ⟨_, rfl⟩
            have OZ := Outside.set4 (w5.heap.size) w9 (.slice p0 N.first.length r0) (.slice p1 N.goal.length r1) (.slice p2 N.made.length r2) (.slice p3 N.now.length r3)
            have KZ := KD.out.set4 (.slice p0 N.first.length r0) (.slice p1 N.goal.length r1) (.slice p2 N.made.length r2) (.slice p3 N.now.length r3)
            rw [← hwz] at OZ KZ
            have hs_wz := OZ.size
            have KDZ := Lib.hid KZ
            have ODZ := Lib.hid (ON.out.outside OZ (.inr (by omega)))
            have HOZ := Lib.hid (HO.out.fresh OZ (by omega))
            have HRZ := Lib.hid (HR.out.outside OZ (by omega))
            have KTZ := Lib.hid (KT.out.outside OZ (.inl (by omega)))
            have OMZ := Lib.hid (OM.out.outside OZ (by omega))
            have HWZ := Lib.hid hwz
            clear OZ KZ hwz
            go_upto_region 16 with (rw [← HWZ.out])
            try rw [← HWZ.out]
            clear b_0 b_1 b_2 b_3 f_0 f_1 f_2 f_3 HWZ KD OD HO HR KT OM OX ON
            have KD := Lib.hid KDZ.out
            have OD := Lib.hid ODZ.out
            have HO := Lib.hid HOZ.out
            have HR := Lib.hid HRZ.out
            have KT := Lib.hid KTZ.out
            have OM := Lib.hid OMZ.out
            clear KDZ ODZ HOZ HRZ KTZ OMZ
            go_wp2_with fail
            refine (pick_any g _ 2 _ HR.out (by omega)).mono ?_
            rintro e w10 ⟨q16, rfl, i_, h_, r_⟩
            have hs_w10 := h_.size
            replace KT := Lib.hid (KT.out.outside h_ (.inr (by omega)))
            replace KD := Lib.hid (KD.out.outside h_ (.inr (by omega)))
            replace OD := Lib.hid (OD.out.outside h_ (.inr (by omega)))
            replace OM := Lib.hid (OM.out.outside h_ (.inr (by omega)))
            replace HO := Lib.hid (HO.out.trans h_)
            replace HR := Lib.hid r_
            clear h_ r_
            clear i_
            cases hq16 : q16 == 0
            · go_wp2_with fail
              go_meet
              exact Lib.hid ⟨HO.out, HR.out.mono (by omega), KT.out, _, _, _, _, N, _, _, KD.out, OD.out, by omega, by omega, by omega, by omega, by omega⟩
            · skip
              have hm1 : (0 : Int) ≤ (ms.length : Int) + 1 := by omega
              have hm1w : IntKind.i64.wrap ((ms.length : Int) + 1) = (ms.length : Int) + 1 := by simp [IntKind.wrap, IntKind.bits, IntKind.signed]; omega
              have hg0 := HR.out.lt
              have hgs : ∀ w' : World, Outside g (g + 1) w10 w' → w'.cell? ⟨w5.heap.size, 0, none⟩ = some (.slice p0 N.first.length r0) ∧ w'.cell? ⟨w5.heap.size, 1, none⟩ = some (.slice p1 N.goal.length r1) ∧ w'.cell? ⟨w5.heap.size, 2, none⟩ = some (.slice p2 N.made.length r2) ∧ w'.cell? ⟨w5.heap.size, 3, none⟩ = some (.slice p3 N.now.length r3) := fun w' ho => ⟨(KD.out.outside ho (.inr (by omega))).cell 0, (KD.out.outside ho (.inr (by omega))).cell 1, (KD.out.outside ho (.inr (by omega))).cell 2, (KD.out.outside ho (.inr (by omega))).cell 3⟩
              have hoA : Outside g (g + 1) w10 w10.drew := (Outside.refl _ _ _).drewn
              have hSA := hgs _ hoA
              have HGS := Lib.hid hgs
              clear hgs
              go_upto_region 17 with fail
              go_region_with (first
                | (go_at_call 19; refine (pick_any g _ _ _ (by first | with_reducible exact HR.out | with_reducible exact HR.out.drew) (by omega)).mono ?_; rintro e11 w11 ⟨q17, rfl, i_, h_, r_⟩; obtain ⟨i1_, i2_⟩ := i_.lt (by omega); clear i_; obtain ⟨j17, rfl⟩ : ∃ k : Nat, q17 = k := ⟨q17.toNat, by omega⟩; (have hj17 : j17 ≤ ms.length := by omega); (have hjI : (j17 : Int) ≤ (mc : Int) := by omega); (have hj0 : (0 : Int) ≤ (j17 : Int) := by omega); (have ho11 := Outside.trans hoA h_); (have hS11 := HGS.out _ ho11); (have hs_11 := ho11.size); (have R11 := Lib.hid r_); clear h_ r_)
                | (go_at_call 53; refine (spec_l10WithG _ _ _ _ _ _ _ _ _ N (ms.take j17) w11 (OD.out.at.outside ho11 (.inr (by omega))) (by omega) (by omega) ((OM.out.outside ho11 (.inr (by omega))).front j17 hj17) (by omega) (by simp; omega)).mono ?_; rintro e12 w12 ⟨x0, x1, x2, x3, rfl, o_, hb_⟩; (have hX := with_size (F := N.first) (G := N.goal) (ms := ms.take j17) (by simp; omega)); obtain ⟨X, hXe⟩ : ∃ X : Dsk, X = ⟨(deskNew N.first N.goal).first, (deskNew N.first N.goal).goal, ms.take j17, (proofV N.first (ms.take j17)).getD []⟩ := ⟨_, rfl⟩; rw [← hXe] at o_ hX; clear hXe; obtain ⟨z0, z1, z2, z3, z4, z5, z6, z7, i0, i1, i2, i3⟩ := o_.open; subst i0 i1 i2 i3; (have ho12 := Outside.trans ho11 (Outside.grown (g := g) hb_)); (have kd := Blk.outside KD.out ho12 (.inr (by omega))); (have c0 := kd.cell 0); (have c1 := kd.cell 1); (have c2 := kd.cell 2); (have c3 := kd.cell 3); (have f0 := kd.free 0); (have f1 := kd.free 1); (have f2 := kd.free 2); (have f3 := kd.free 3); (have KM := Lib.hid kd); clear kd; (have hs_12 := hb_.size); (have R12 := Lib.hid (R11.out.below hb_ R11.out.lt)); (have O12 := Lib.hid o_); clear o_ hb_))
              all_goals (
                go_wp2_with fail
                go_meet
                with_reducible exact Lib.hid (lays_set4 KM.out O12.out hX (HO.out.trans ho12) R12.out (KT.out.outside ho12 (.inr (by omega))) (by omega) (by omega) (by omega) (by omega) (by omega) (by omega) (by omega)))
        case rest =>
          obtain ⟨w20, rfl⟩ : ∃ x_, x_ = wc := ⟨_, rfl⟩
          clear HO HR KT KD OD OX OM
          obtain ⟨ho_, hr_, kt_, y0, y1, y2, y3, D, l, h, kd_, od_, hds, hl, hl', hh, hdd⟩ := hcut.out
          have HO := Lib.hid ho_
          have HR := Lib.hid hr_
          have KT := Lib.hid kt_
          have KD := Lib.hid kd_
          have OD := Lib.hid od_
          have hgdl : w5.heap.size < w20.heap.size := kd_.lt
          clear hcut ho_ hr_ kt_ kd_ od_
          have hwg : w.heap.size + 1 ≤ w5.heap.size := by omega
          have hggd : g < w5.heap.size := by omega
          clear hs_w1 lx_ ly_ hl1 hl1' hh1 hsz2 hz16 hs_w3 hs_w4 hs_w5 hs_w6 hs_w7 i1_ i2_ hgu hs0 hm60 hsr hgr hl2 hl2' hh2 hd2 hs_w8 hcap
          obtain ⟨p0, r0, p1, r1, p2, r2, p3, r3, i0, i1, i2, i3⟩ := OD.out.open
          subst i0 i1 i2 i3
          go_wp2_with fail
          refine (odd_any g _ n _ HR.out (by omega) (by omega)).mono ?_
          rintro e w21 ⟨b18, rfl, h_, r_⟩
          have hs_w21 := h_.size
          replace KT := Lib.hid (KT.out.outside h_ (.inr (by omega)))
          replace KD := Lib.hid (KD.out.outside h_ (.inr (by omega)))
          replace OD := Lib.hid (OD.out.outside h_ (.inr (by omega)))
          replace HO := Lib.hid (HO.out.trans h_)
          replace HR := Lib.hid r_
          clear h_ r_

          cases b18
          · skip
            have b_0 := KD.out.cell 0
            have b_1 := KD.out.cell 1
            have b_2 := KD.out.cell 2
            have b_3 := KD.out.cell 3
            have t_0 := KT.out.cell 0
            have t_1 := KT.out.cell 1
            have t_2 := KT.out.cell 2
            have t_3 := KT.out.cell 3
            have g_0 := KT.out.free 0
            have g_1 := KT.out.free 1
            have g_2 := KT.out.free 2
            have g_3 := KT.out.free 3
            obtain ⟨wz, hwz⟩ : ∃ wz, wz = ((((w21.setCell ⟨w.heap.size, 0, none⟩ (.slice p0 D.first.length r0)).setCell ⟨w.heap.size, 1, none⟩ (.slice p1 D.goal.length r1)).setCell ⟨w.heap.size, 2, none⟩ (.slice p2 D.made.length r2)).setCell ⟨w.heap.size, 3, none⟩ (.slice p3 D.now.length r3)) := ⟨_, rfl⟩
            have OZ := Outside.set4 w.heap.size w21 (.slice p0 D.first.length r0) (.slice p1 D.goal.length r1) (.slice p2 D.made.length r2) (.slice p3 D.now.length r3)
            have KZ := KT.out.set4 (.slice p0 D.first.length r0) (.slice p1 D.goal.length r1) (.slice p2 D.made.length r2) (.slice p3 D.now.length r3)
            rw [← hwz] at OZ KZ
            have z0 := KZ.cell 0
            have z1 := KZ.cell 1
            have z2 := KZ.cell 2
            have z3 := KZ.cell 3
            have HE := Lib.hid (And.intro (HO.out.fresh OZ (by omega)) ((HR.out.outside OZ (by omega)).mono (show _ ≤ c + 10000 by omega)))
            have HF := Lib.hid ((OD.out.at).outside OZ (.inr (by omega)))
            have hs_z := OZ.size
            clear KZ OZ
            go_wp2_with fail
            simp only [← hwz]
            clear hwz
            refine bodyPost_ret (v := .agg #[(.slice p0 D.first.length r0), (.slice p1 D.goal.length r1), (.slice p2 D.made.length r2), (.slice p3 D.now.length r3)]) (by simp [results, Tryz.results24, go_sem, z0, z1, z2, z3]) rfl (RetD.mk _ _ _ _ rfl ⟨D, HF.out.wide (by omega) (by omega), by omega, HE.out⟩)
          · skip
            go_wp2_with fail
            refine (pick_any g _ 4 _ HR.out (by omega)).mono ?_
            rintro e w22 ⟨q19, rfl, i_, h_, r_⟩
            have hs_w22 := h_.size
            replace KT := Lib.hid (KT.out.outside h_ (.inr (by omega)))
            replace KD := Lib.hid (KD.out.outside h_ (.inr (by omega)))
            replace OD := Lib.hid (OD.out.outside h_ (.inr (by omega)))
            replace HO := Lib.hid (HO.out.trans h_)
            replace HR := Lib.hid r_
            clear h_ r_
            clear i_
            obtain ⟨l1_, u1_, l2_, u2_, l3_, u3_, l4_, u4_, o1_, o2_, o3_, o4_, r1_, r2_, r3_, r4_, d12, d13, d14, d23, d24, d34⟩ := OD.out.ranges
            have W1 := Lib.hid o1_.sl
            have W2 := Lib.hid o2_.sl
            have W3 := Lib.hid o3_.sl
            have W4 := Lib.hid o4_.sl
            have P3 := Lib.hid o3_
            have P4 := Lib.hid o4_
            clear o1_ o2_ o3_ o4_
            have hsz : D.first.length + D.goal.length + D.made.length + D.now.length ≤ 400 := hds
            by_cases e0 : q19 = 0
            · subst e0
              have b_0 := KD.out.cell 0
              have b_1 := KD.out.cell 1
              have b_2 := KD.out.cell 2
              have b_3 := KD.out.cell 3
              have f_0 := KD.out.free 0
              have f_1 := KD.out.free 1
              have f_2 := KD.out.free 2
              have f_3 := KD.out.free 3
              go_upto_region 27 with (at_builtin; refine wpList_app_lit2 w22 rfl _ _ _ (by rfl) 3 (.int .i64 0) 1 8 Tryz.underlying28 info_int rfl (by omega) (by omega) (by rfl) P4.out 1 (ints [21]) (by rfl) rfl (by intro u hu; simp [ints] at hu; subst hu; rfl) rfl (by omega) (by omega) ?_; intro v23 w23 lo23 hi23 hown23 hrange23 hout23; obtain ⟨a23, c23, rfl⟩ := Own.shape hown23; (have kd23 := Blk.outside KD.out hout23 (by omega)); (have d_3 := kd23.cell 3); (have e_3 := kd23.free 3); (have H23 := Lib.hid (And.intro kd23 (And.intro hown23 (And.intro hrange23 hout23)))); clear kd23 hown23 hrange23 hout23)
              clear d_3 e_3
              obtain ⟨_, hown23, hrange23, hout23⟩ := H23.out
              clear H23
              have hs_23 := hout23.size
              replace KD := Lib.hid (KD.out.outside hout23 (by omega))
              replace KT := Lib.hid (KT.out.outside hout23 (.inl (by omega)))
              replace HO := Lib.hid (HO.out.fresh hout23 (by omega))
              replace HR := Lib.hid (HR.out.outside hout23 (by omega))
              replace W1 := Lib.hid (W1.out.outside hout23 (by omega))
              replace W2 := Lib.hid (W2.out.outside hout23 (by omega))
              replace W3 := Lib.hid (W3.out.outside hout23 (by omega))
              replace W4 := Lib.hid (show SlI lo23 hi23 w23 _ (D.now ++ [21]) from by have h_ := hown23.sl; simpa [SlI, ints] using h_)
              have hlo23 : w.heap.size + 1 ≤ lo23 := by omega
              have hhi23 : hi23 ≤ w23.heap.size := by omega
              have hgd23 : w5.heap.size < lo23 ∨ hi23 ≤ w5.heap.size := by omega
              clear hown23 hrange23 hout23 b_0 b_1 b_2 b_3 f_0 f_1 f_2 f_3 P3 P4
              obtain ⟨wq, hwq⟩ : ∃ wq, wq = w23.setCell ⟨w5.heap.size, 3, none⟩ (.slice a23 (D.now.length + 1) c23) := ⟨_, rfl⟩
              have OQ := Outside.pute w5.heap.size 3 w23 (.slice a23 (D.now.length + 1) c23)
              have KQ := Blk.fld3 KD.out (.slice a23 (D.now.length + 1) c23)
              rw [← hwq] at OQ KQ
              have hs_q := OQ.size
              replace KD := Lib.hid KQ
              replace HO := Lib.hid (HO.out.fresh OQ (by omega))
              replace HR := Lib.hid (HR.out.outside OQ (by omega))
              replace KT := Lib.hid (KT.out.outside OQ (.inl (by omega)))
              replace W1 := Lib.hid (W1.out.outside OQ (by omega))
              replace W2 := Lib.hid (W2.out.outside OQ (by omega))
              replace W3 := Lib.hid (W3.out.outside OQ (by omega))
              replace W4 := Lib.hid (W4.out.outside OQ (by omega))
              simp only [← hwq]
              clear hwq OQ KQ
              have b_0 := KD.out.cell 0
              have b_1 := KD.out.cell 1
              have b_2 := KD.out.cell 2
              have b_3 := KD.out.cell 3
              have t_0 := KT.out.cell 0
              have t_1 := KT.out.cell 1
              have t_2 := KT.out.cell 2
              have t_3 := KT.out.cell 3
              have g_0 := KT.out.free 0
              have g_1 := KT.out.free 1
              have g_2 := KT.out.free 2
              have g_3 := KT.out.free 3
              obtain ⟨wz, hwz⟩ : ∃ wz, wz = ((((wq.setCell ⟨w.heap.size, 0, none⟩ (.slice p0 D.first.length r0)).setCell ⟨w.heap.size, 1, none⟩ (.slice p1 D.goal.length r1)).setCell ⟨w.heap.size, 2, none⟩ (.slice p2 D.made.length r2)).setCell ⟨w.heap.size, 3, none⟩ (.slice a23 (D.now.length + 1) c23)) := ⟨_, rfl⟩
              have OZ := Outside.set4 w.heap.size wq (.slice p0 D.first.length r0) (.slice p1 D.goal.length r1) (.slice p2 D.made.length r2) (.slice a23 (D.now.length + 1) c23)
              have KZ := KT.out.set4 (.slice p0 D.first.length r0) (.slice p1 D.goal.length r1) (.slice p2 D.made.length r2) (.slice a23 (D.now.length + 1) c23)
              rw [← hwz] at OZ KZ
              have z0 := KZ.cell 0
              have z1 := KZ.cell 1
              have z2 := KZ.cell 2
              have z3 := KZ.cell 3
              have HE := Lib.hid (And.intro (HO.out.fresh OZ (by omega)) ((HR.out.outside OZ (by omega)).mono (show _ ≤ c + 10000 by omega)))
              have HF := Lib.hid (((show DeskAt (w.heap.size + 1) wq.heap.size wq (.slice p0 D.first.length r0) (.slice p1 D.goal.length r1) (.slice p2 D.made.length r2) (.slice a23 (D.now.length + 1) c23) ⟨D.first, D.goal, D.made, D.now ++ [21]⟩ from ⟨W1.out.wide (by omega) (by omega), W2.out.wide (by omega) (by omega), W3.out.wide (by omega) (by omega), W4.out.wide (by omega) (by omega)⟩)).outside OZ (.inr (by omega)))
              have hs_z := OZ.size
              clear KZ OZ
              go_wp2_with fail
              simp only [← hwz]
              clear hwz
              refine bodyPost_ret (v := .agg #[(.slice p0 D.first.length r0), (.slice p1 D.goal.length r1), (.slice p2 D.made.length r2), (.slice a23 (D.now.length + 1) c23)]) (by simp [results, Tryz.results24, go_sem, z0, z1, z2, z3]) rfl (RetD.mk _ _ _ _ rfl ⟨⟨D.first, D.goal, D.made, D.now ++ [21]⟩, HF.out.wide (by omega) (by omega), by simp [Dsk.size]; omega, HE.out⟩)
            · by_cases e1 : q19 = 1
              · subst e1
                have b_0 := KD.out.cell 0
                have b_1 := KD.out.cell 1
                have b_2 := KD.out.cell 2
                have b_3 := KD.out.cell 3
                have f_0 := KD.out.free 0
                have f_1 := KD.out.free 1
                have f_2 := KD.out.free 2
                have f_3 := KD.out.free 3
                have KD22 := KD
                obtain ⟨w23, hw_⟩ : ∃ w_, w_ = w22.alloc (.cells #[] 3) := ⟨_, rfl⟩
                have W5 := Lib.hid (nil_own w22).sl
                rw [← hw_] at W5
                obtain ⟨hb_, K_, hs_23⟩ := box_facts2 hw_
                replace HR := Lib.hid (HR.out.below hb_ HR.out.lt)
                have hout23 := Outside.of_below (lo := g) (hi := g + 1) hb_ (Nat.le_refl _)
                replace KD := Lib.hid (KD.out.outside hout23 (.inr (by omega)))
                replace KT := Lib.hid (KT.out.outside hout23 (.inr (by omega)))
                replace HO := Lib.hid (HO.out.trans hout23)
                replace W1 := Lib.hid (W1.out.outside hout23 (.inr (by omega)))
                replace W3 := Lib.hid (W3.out.outside hout23 (.inr (by omega)))
                replace W4 := Lib.hid (W4.out.outside hout23 (.inr (by omega)))
                replace W2 := W5
                clear W5 hb_ K_ hout23 b_0 b_1 b_2 b_3 f_0 f_1 f_2 f_3
                have H22 := Lib.hid hw_
                clear hw_
                have k22 := (KD22.out.al (x := .cells #[] 3))
                have d_1 := k22.cell 1
                have e_1 := k22.free 1
                clear k22
                go_upto_region 27 with fail
                simp only [← H22.out]
                clear d_1 e_1 H22 KD22
                obtain ⟨wq, hwq⟩ : ∃ wq, wq = w23.setCell ⟨w5.heap.size, 1, none⟩ (.slice (some ⟨w22.heap.size, 0, none⟩) 0 0) := ⟨_, rfl⟩
                have OQ := Outside.pute w5.heap.size 1 w23 (.slice (some ⟨w22.heap.size, 0, none⟩) 0 0)
                have KQ := Blk.fld1 KD.out (.slice (some ⟨w22.heap.size, 0, none⟩) 0 0)
                rw [← hwq] at OQ KQ
                have hs_q := OQ.size
                replace KD := Lib.hid KQ
                replace HO := Lib.hid (HO.out.fresh OQ (by omega))
                replace HR := Lib.hid (HR.out.outside OQ (by omega))
                replace KT := Lib.hid (KT.out.outside OQ (.inl (by omega)))
                replace W1 := Lib.hid (W1.out.outside OQ (by omega))
                replace W2 := Lib.hid (W2.out.outside OQ (by omega))
                replace W3 := Lib.hid (W3.out.outside OQ (by omega))
                replace W4 := Lib.hid (W4.out.outside OQ (by omega))
                simp only [← hwq]
                clear hwq OQ KQ
                have b_0 := KD.out.cell 0
                have b_1 := KD.out.cell 1
                have b_2 := KD.out.cell 2
                have b_3 := KD.out.cell 3
                have t_0 := KT.out.cell 0
                have t_1 := KT.out.cell 1
                have t_2 := KT.out.cell 2
                have t_3 := KT.out.cell 3
                have g_0 := KT.out.free 0
                have g_1 := KT.out.free 1
                have g_2 := KT.out.free 2
                have g_3 := KT.out.free 3
                obtain ⟨wz, hwz⟩ : ∃ wz, wz = ((((wq.setCell ⟨w.heap.size, 0, none⟩ (.slice p0 D.first.length r0)).setCell ⟨w.heap.size, 1, none⟩ (.slice (some ⟨w22.heap.size, 0, none⟩) 0 0)).setCell ⟨w.heap.size, 2, none⟩ (.slice p2 D.made.length r2)).setCell ⟨w.heap.size, 3, none⟩ (.slice p3 D.now.length r3)) := ⟨_, rfl⟩
                have OZ := Outside.set4 w.heap.size wq (.slice p0 D.first.length r0) (.slice (some ⟨w22.heap.size, 0, none⟩) 0 0) (.slice p2 D.made.length r2) (.slice p3 D.now.length r3)
                have KZ := KT.out.set4 (.slice p0 D.first.length r0) (.slice (some ⟨w22.heap.size, 0, none⟩) 0 0) (.slice p2 D.made.length r2) (.slice p3 D.now.length r3)
                rw [← hwz] at OZ KZ
                have z0 := KZ.cell 0
                have z1 := KZ.cell 1
                have z2 := KZ.cell 2
                have z3 := KZ.cell 3
                have HE := Lib.hid (And.intro (HO.out.fresh OZ (by omega)) ((HR.out.outside OZ (by omega)).mono (show _ ≤ c + 10000 by omega)))
                have HF := Lib.hid (((show DeskAt (w.heap.size + 1) wq.heap.size wq (.slice p0 D.first.length r0) (.slice (some ⟨w22.heap.size, 0, none⟩) 0 0) (.slice p2 D.made.length r2) (.slice p3 D.now.length r3) ⟨D.first, [], D.made, D.now⟩ from ⟨W1.out.wide (by omega) (by omega), W2.out.wide (by omega) (by omega), W3.out.wide (by omega) (by omega), W4.out.wide (by omega) (by omega)⟩)).outside OZ (.inr (by omega)))
                have hs_z := OZ.size
                clear KZ OZ
                go_wp2_with fail
                simp only [← hwz]
                clear hwz
                refine bodyPost_ret (v := .agg #[(.slice p0 D.first.length r0), (.slice (some ⟨w22.heap.size, 0, none⟩) 0 0), (.slice p2 D.made.length r2), (.slice p3 D.now.length r3)]) (by simp [results, Tryz.results24, go_sem, z0, z1, z2, z3]) rfl (RetD.mk _ _ _ _ rfl ⟨⟨D.first, [], D.made, D.now⟩, HF.out.wide (by omega) (by omega), by simp [Dsk.size]; omega, HE.out⟩)
              · by_cases e2 : q19 = 2
                · subst e2
                  have t_0 := KT.out.cell 0
                  have t_1 := KT.out.cell 1
                  have t_2 := KT.out.cell 2
                  have t_3 := KT.out.cell 3
                  have g_0 := KT.out.free 0
                  have g_1 := KT.out.free 1
                  have g_2 := KT.out.free 2
                  have g_3 := KT.out.free 3
                  obtain ⟨wz, hwz⟩ : ∃ wz, wz = ((((w22.setCell ⟨w.heap.size, 0, none⟩ (.slice none 0 0)).setCell ⟨w.heap.size, 1, none⟩ (.slice none 0 0)).setCell ⟨w.heap.size, 2, none⟩ (.slice none 0 0)).setCell ⟨w.heap.size, 3, none⟩ (.slice none 0 0)) := ⟨_, rfl⟩
                  have OZ := Outside.set4 w.heap.size w22 (.slice none 0 0) (.slice none 0 0) (.slice none 0 0) (.slice none 0 0)
                  have KZ := KT.out.set4 (.slice none 0 0) (.slice none 0 0) (.slice none 0 0) (.slice none 0 0)
                  rw [← hwz] at OZ KZ
                  have z0 := KZ.cell 0
                  have z1 := KZ.cell 1
                  have z2 := KZ.cell 2
                  have z3 := KZ.cell 3
                  have HE := Lib.hid (And.intro (HO.out.fresh OZ (by omega)) ((HR.out.outside OZ (by omega)).mono (show _ ≤ c + 10000 by omega)))
                  have hs_z := OZ.size
                  have HF := Lib.hid (DeskOwn.nils w.heap.size wz.heap.size (by omega) wz).at
                  clear KZ OZ
                  go_wp2_with fail
                  simp only [← hwz]
                  clear hwz
                  refine bodyPost_ret (v := .agg #[.slice none 0 0, .slice none 0 0, .slice none 0 0, .slice none 0 0]) (by simp [results, Tryz.results24, go_sem, z0, z1, z2, z3]) rfl (RetD.mk _ _ _ _ rfl ⟨Dsk.none, HF.out, by simp [Dsk.size, Dsk.none], HE.out⟩)
                · have e0' : (q19 == 0) = false := by simpa using e0
                  have e1' : (q19 == 1) = false := by simpa using e1
                  have e2' : (q19 == 2) = false := by simpa using e2
                  have b_0 := KD.out.cell 0
                  have b_1 := KD.out.cell 1
                  have b_2 := KD.out.cell 2
                  have b_3 := KD.out.cell 3
                  have f_0 := KD.out.free 0
                  have f_1 := KD.out.free 1
                  have f_2 := KD.out.free 2
                  have f_3 := KD.out.free 3
                  go_upto_region 27 with (at_builtin; refine wpList_app_lit2 w22 rfl _ _ _ (by rfl) 39 (.agg #[.int .i64 0, .bool false, .int .i64 0]) 3 24 Tryz.underlying29 info_mv rfl (by decide) (by decide) (by rfl) P3.out 1 (encMv (⟨-1, false, 0⟩ : Mv)) (by rfl) rfl (encMv_one (⟨-1, false, 0⟩ : Mv)) rfl (by omega) (by omega) ?_; intro v23 w23 lo23 hi23 hown23 hrange23 hout23; obtain ⟨a23, c23, rfl⟩ := Own.shape hown23; (have kd23 := Blk.outside KD.out hout23 (by omega)); (have d_3 := kd23.cell 2); (have e_3 := kd23.free 2); (have H23 := Lib.hid (And.intro kd23 (And.intro hown23 (And.intro hrange23 hout23)))); clear kd23 hown23 hrange23 hout23)
                  clear d_3 e_3
                  obtain ⟨_, hown23, hrange23, hout23⟩ := H23.out
                  clear H23
                  have hs_23 := hout23.size
                  replace KD := Lib.hid (KD.out.outside hout23 (by omega))
                  replace KT := Lib.hid (KT.out.outside hout23 (.inl (by omega)))
                  replace HO := Lib.hid (HO.out.fresh hout23 (by omega))
                  replace HR := Lib.hid (HR.out.outside hout23 (by omega))
                  replace W1 := Lib.hid (W1.out.outside hout23 (by omega))
                  replace W2 := Lib.hid (W2.out.outside hout23 (by omega))
                  replace W4 := Lib.hid (W4.out.outside hout23 (by omega))
                  replace W3 := Lib.hid (show SlM lo23 hi23 w23 _ (D.made ++ [⟨-1, false, 0⟩]) from by have h_ := hown23.sl; simpa [SlM, mvs] using h_)
                  have hlo23 : w.heap.size + 1 ≤ lo23 := by omega
                  have hhi23 : hi23 ≤ w23.heap.size := by omega
                  have hgd23 : w5.heap.size < lo23 ∨ hi23 ≤ w5.heap.size := by omega
                  clear hown23 hrange23 hout23 b_0 b_1 b_2 b_3 f_0 f_1 f_2 f_3 P3 P4
                  obtain ⟨wq, hwq⟩ : ∃ wq, wq = w23.setCell ⟨w5.heap.size, 2, none⟩ (.slice a23 (D.made.length + 1) c23) := ⟨_, rfl⟩
                  have OQ := Outside.pute w5.heap.size 2 w23 (.slice a23 (D.made.length + 1) c23)
                  have KQ := Blk.fld2 KD.out (.slice a23 (D.made.length + 1) c23)
                  rw [← hwq] at OQ KQ
                  have hs_q := OQ.size
                  replace KD := Lib.hid KQ
                  replace HO := Lib.hid (HO.out.fresh OQ (by omega))
                  replace HR := Lib.hid (HR.out.outside OQ (by omega))
                  replace KT := Lib.hid (KT.out.outside OQ (.inl (by omega)))
                  replace W1 := Lib.hid (W1.out.outside OQ (by omega))
                  replace W2 := Lib.hid (W2.out.outside OQ (by omega))
                  replace W3 := Lib.hid (W3.out.outside OQ (by omega))
                  replace W4 := Lib.hid (W4.out.outside OQ (by omega))
                  simp only [← hwq]
                  clear hwq OQ KQ
                  have b_0 := KD.out.cell 0
                  have b_1 := KD.out.cell 1
                  have b_2 := KD.out.cell 2
                  have b_3 := KD.out.cell 3
                  have t_0 := KT.out.cell 0
                  have t_1 := KT.out.cell 1
                  have t_2 := KT.out.cell 2
                  have t_3 := KT.out.cell 3
                  have g_0 := KT.out.free 0
                  have g_1 := KT.out.free 1
                  have g_2 := KT.out.free 2
                  have g_3 := KT.out.free 3
                  obtain ⟨wz, hwz⟩ : ∃ wz, wz = ((((wq.setCell ⟨w.heap.size, 0, none⟩ (.slice p0 D.first.length r0)).setCell ⟨w.heap.size, 1, none⟩ (.slice p1 D.goal.length r1)).setCell ⟨w.heap.size, 2, none⟩ (.slice a23 (D.made.length + 1) c23)).setCell ⟨w.heap.size, 3, none⟩ (.slice p3 D.now.length r3)) := ⟨_, rfl⟩
                  have OZ := Outside.set4 w.heap.size wq (.slice p0 D.first.length r0) (.slice p1 D.goal.length r1) (.slice a23 (D.made.length + 1) c23) (.slice p3 D.now.length r3)
                  have KZ := KT.out.set4 (.slice p0 D.first.length r0) (.slice p1 D.goal.length r1) (.slice a23 (D.made.length + 1) c23) (.slice p3 D.now.length r3)
                  rw [← hwz] at OZ KZ
                  have z0 := KZ.cell 0
                  have z1 := KZ.cell 1
                  have z2 := KZ.cell 2
                  have z3 := KZ.cell 3
                  have HE := Lib.hid (And.intro (HO.out.fresh OZ (by omega)) ((HR.out.outside OZ (by omega)).mono (show _ ≤ c + 10000 by omega)))
                  have HF := Lib.hid (((show DeskAt (w.heap.size + 1) wq.heap.size wq (.slice p0 D.first.length r0) (.slice p1 D.goal.length r1) (.slice a23 (D.made.length + 1) c23) (.slice p3 D.now.length r3) ⟨D.first, D.goal, D.made ++ [⟨-1, false, 0⟩], D.now⟩ from ⟨W1.out.wide (by omega) (by omega), W2.out.wide (by omega) (by omega), W3.out.wide (by omega) (by omega), W4.out.wide (by omega) (by omega)⟩)).outside OZ (.inr (by omega)))
                  have hs_z := OZ.size
                  clear KZ OZ
                  go_wp2_with fail
                  simp only [← hwz]
                  clear hwz
                  refine bodyPost_ret (v := .agg #[(.slice p0 D.first.length r0), (.slice p1 D.goal.length r1), (.slice a23 (D.made.length + 1) c23), (.slice p3 D.now.length r3)]) (by simp [results, Tryz.results24, go_sem, z0, z1, z2, z3]) rfl (RetD.mk _ _ _ _ rfl ⟨⟨D.first, D.goal, D.made ++ [⟨-1, false, 0⟩], D.now⟩, HF.out.wide (by omega) (by omega), by simp [Dsk.size]; omega, HE.out⟩)
end Go.Proofs.YtipbanhelhidnaaGreatDoor
