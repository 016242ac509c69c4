/-
  Texts of walks and plain lemmas for this seat; no condition.
-/
import Derived.Test.YtacgefknhncgfaaDoorGB
import Derived.Test.YtacgefknhncgfaaDoorGA
namespace Go.Proofs.YtacgefknhncgfaaDoor
open Go.RowKit

theorem eight_get (a b : Int) (ha : 0 ≤ a ∧ a ≤ 15) (hb : 0 ≤ b ∧ b ≤ 15) (z : Nat) (h : z < 8) :
    ∃ y : Int, (#[.int .i64 10, .int .i64 12, .int .i64 5, .int .i64 3, .int .i64 a, .int .i64 b, .int .i64 15, .int .i64 0] : Array Value)[z]? = some (.int .i64 y) ∧ 0 ≤ y ∧ y ≤ 15 := by
  match z, h with
  | 0, _ => exact ⟨_, rfl, by omega, by omega⟩
  | 1, _ => exact ⟨_, rfl, by omega, by omega⟩
  | 2, _ => exact ⟨_, rfl, by omega, by omega⟩
  | 3, _ => exact ⟨_, rfl, by omega, by omega⟩
  | 4, _ => exact ⟨_, rfl, by omega, by omega⟩
  | 5, _ => exact ⟨_, rfl, by omega, by omega⟩
  | 6, _ => exact ⟨_, rfl, by omega, by omega⟩
  | 7, _ => exact ⟨_, rfl, by omega, by omega⟩
theorem two_get (a b : Int) (z : Nat) (h : z < 2) : ∃ y : Int, (#[.int .i64 a, .int .i64 b] : Array Value)[z]? = some (.int .i64 y) ∧ (y = a ∨ y = b) := by
  match z, h with
  | 0, _ => exact ⟨_, rfl, .inl rfl⟩
  | 1, _ => exact ⟨_, rfl, .inr rfl⟩
theorem InR.lt {n x : Int} (h : InR n x) (hn : 0 < n) : 0 ≤ x ∧ x < n := by
  obtain ⟨h1, h2⟩ := h
  omega
theorem Outside.alloc {lo hi : Nat} {w w' : World} {o : Obj} (h : Outside lo hi (w.alloc o) w') : Outside lo hi w w' :=
  (Outside.of_below ((Below.refl w.heap.size w).alloc (Nat.le_refl _) o) (Nat.le_refl _)).trans h
theorem Rd.alloc {g c : Nat} {w : World} (h : Rd g w c) (o : Obj) : Rd g (w.alloc o) c := h.below ((Below.refl _ _).alloc (Nat.le_refl _) _) h.lt
theorem blk_hop {w w' : World} {o : Obj} {g : Nat} (ho : Outside g (g + 1) (w.alloc o) w') (hlt : g < w.heap.size) : Blk w.heap.size o w' :=
  Blk.outside (heap_alloc_new w o) ho (Or.inr hlt)

/-- A draw of a number: the reader has read on. -/
abbrev DrawnN (g c : Nat) (w : World) (P : Int → Prop) : Ending → World → Prop := RetI fun x w' => P x ∧ Outside g (g + 1) w w' ∧ Rd g w' c

set_option maxHeartbeats 1600000 in
theorem l20Test_any (g c : Nat) (n : Int) (w : World) (h : Rd g w c) (hc : c ≤ 100000000000) (hn : n ≤ 1000) :
    Calls Tryd.prog 38 #[.pointer (some ⟨g, 0, none⟩), .int .i64 n] w (DrawnN g (c + 4) w fun x => (n ≤ 0 → 0 ≤ x ∧ x ≤ 15) ∧ -1 ≤ x ∧ x ≤ 16) := by
  have rest : ∀ w1, Hid (Rd g w1 (c + 1)) → True := fun _ _ => trivial
  go_enter Tryd.func38, Tryd.ntmps38
  go_wp2_with fail
  refine (odd2_any g c n w h (by omega) (by omega)).mono ?_
  rintro e w1 ⟨b, rfl, hb0, ho1, hr1⟩
  have HO := Lib.hid ho1
  have HR := Lib.hid hr1
  clear ho1 hr1 h
  cases b
  · go_wp2_with fail
    refine (pick_any g _ _ _ HR.out (by omega)).mono ?_
    rintro e w2 ⟨x1, rfl, i1, ho, hr⟩
    obtain ⟨i1, i1'⟩ := i1.lt (by omega)
    replace HO := Lib.hid (HO.out.trans ho)
    replace HR := Lib.hid hr
    clear ho hr
    go_wp2_with fail
    refine (pick_any g _ _ _ HR.out (by omega)).mono ?_
    rintro e w3 ⟨x2, rfl, i2, ho, hr⟩
    obtain ⟨i2, i2'⟩ := i2.lt (by omega)
    replace HO := Lib.hid (HO.out.trans ho)
    replace HR := Lib.hid hr
    clear ho hr
    have hlt := HR.out.lt
    go_wp2_with fail
    refine (pick_any g _ _ _ (HR.out.alloc _) (by omega)).mono ?_
    rintro e w4 ⟨x3, rfl, i3, ho, hr⟩
    obtain ⟨i3, i3'⟩ := i3.lt (by omega)
    have K := blk_hop ho hlt
    replace HO := Lib.hid (HO.out.trans (Outside.alloc ho))
    replace HR := Lib.hid hr
    clear ho hr
    obtain ⟨z, rfl⟩ : ∃ z : Nat, x3 = z := ⟨x3.toNat, by omega⟩
    obtain ⟨y, hy, y1, y2⟩ := eight_get x1 x2 ⟨i1, by omega⟩ ⟨i2, by omega⟩ z (by omega)
    have hcell := (K.cell z).trans hy
    clear K hy
    go_wp2
    go_ret
    exact RetI.mk y rfl ⟨⟨fun _ => ⟨y1, y2⟩, by omega, by omega⟩, HO.out, HR.out⟩
  · have hlt := HR.out.lt
    have hb1 : 0 < n := hb0 rfl
    clear hb0
    go_wp2_with fail
    refine (pick_any g _ _ _ (HR.out.alloc _) (by omega)).mono ?_
    rintro e w4 ⟨x3, rfl, i3, ho, hr⟩
    obtain ⟨i3, i3'⟩ := i3.lt (by omega)
    have K := blk_hop ho hlt
    replace HO := Lib.hid (HO.out.trans (Outside.alloc ho))
    replace HR := Lib.hid (hr.mono (by omega : _ ≤ c + 4))
    clear ho hr
    obtain ⟨z, rfl⟩ : ∃ z : Nat, x3 = z := ⟨x3.toNat, by omega⟩
    obtain ⟨y, hy, y1⟩ := two_get (-1) 16 z (by omega)
    have hcell := (K.cell z).trans hy
    clear K hy
    go_wp2
    go_ret
    exact RetI.mk y rfl ⟨⟨fun hn0 => absurd hb1 (by omega), by omega, by omega⟩, HO.out, HR.out⟩

set_option maxHeartbeats 1600000 in
theorem l20Leaf_any (g c : Nat) (w : World) (h : Rd g w c) (hc : c ≤ 10000000000) :
    Calls Tryd.prog 24 #[.pointer (some ⟨g, 0, none⟩)] w (RetV fun v w' => DrawnI g (c + 5) w v w' 1) := by
  go_enter Tryd.func24, Tryd.ntmps24
  go_wp2_with fail
  refine (pick_any g c _ _ h (by omega)).mono ?_
  rintro e w1 ⟨x1, rfl, i1, ho, hr⟩
  obtain ⟨i1, i1'⟩ := i1.lt (by omega)
  have HO := Lib.hid ho
  have HR := Lib.hid hr
  clear ho hr h
  cases hx : x1 == 0
  · go_wp2_with fail
    refine (pick_any g _ _ _ HR.out (by omega)).mono ?_
    rintro e w2 ⟨x2, rfl, i2, ho, hr⟩
    obtain ⟨i2, i2'⟩ := i2.lt (by omega)
    replace HO := Lib.hid (HO.out.trans ho)
    replace HR := Lib.hid hr
    clear ho hr
    have hsz := HO.out.size
    go_wp2
    go_ret
    exact RetV.mk _ rfl ⟨[16 + x2], (one_own (16 + x2) w2).lower hsz (Nat.le_refl _), by simp, HO.out.below ((Below.refl _ _).alloc (Nat.le_refl _) _) hsz, (HR.out.alloc _).mono (by omega)⟩
  · go_wp2_with fail
    refine (l20Test_any g _ 0 _ HR.out (by omega) (by omega)).mono ?_
    rintro e w2 ⟨x2, rfl, i2, ho, hr⟩
    replace HO := Lib.hid (HO.out.trans ho)
    replace HR := Lib.hid hr
    clear ho hr
    have hsz := HO.out.size
    go_wp2
    go_ret
    exact RetV.mk _ rfl ⟨[x2], (one_own x2 w2).lower hsz (Nat.le_refl _), by simp, HO.out.below ((Below.refl _ _).alloc (Nat.le_refl _) _) hsz, (HR.out.alloc _).mono (by omega)⟩

set_option maxRecDepth 100000 in
set_option maxHeartbeats 3200000 in
theorem l20Kat_any (g c : Nat) (parts n : Int) (w : World) (h : Rd g w c) (hc : c ≤ 1000000000) (hp0 : 0 ≤ parts) (hp : parts ≤ 20) (hn : n ≤ 1000) :
    Calls Tryd.prog 13 #[.pointer (some ⟨g, 0, none⟩), .int .i64 parts, .int .i64 n] w (RetV fun v w' => DrawnI g (c + 400) w v w' 44) := by
  have hg := h.lt
  go_enter Tryd.func13, Tryd.ntmps13
  go_wp2_with fail
  refine (l20Leaf_any g c _ h (by omega)).mono ?_
  rintro e w1 ⟨v1, rfl, xs1, hown, hl1, ho, hr⟩
  have hs1 := ho.size
  have HW := Lib.hid (And.intro hown (And.intro ho hr))
  clear hown ho hr h
  go_wp2_with fail
  refine (pick_any g _ _ _ HW.out.2.2 (by omega)).mono ?_
  rintro e w2 ⟨x2, rfl, i2, ho, hr⟩
  obtain ⟨i2, i2'⟩ := i2.lt (by omega)
  replace HW := Lib.hid (And.intro ((HW.out.1.outside ho (.inr (by omega))).lower (Nat.le_refl _) ho.size) (And.intro (HW.out.2.1.trans ho) hr))
  clear ho hr
  obtain ⟨y, rfl⟩ : ∃ y : Nat, x2 = y := ⟨x2.toNat, by omega⟩
  go_wp2
  go_loopw [7, 8] (fun v i wr => ∃ (j : Nat) (a : Option Addr) (cap : Nat) (xs : List Int), v = .slice a xs.length cap ∧ j ≤ y ∧ i = .int .i64 j ∧ xs.length ≤ 39 ∧ Hid (OwnI w.heap.size wr.heap.size 3 wr (.slice a xs.length cap) xs ∧ Outside g (g + 1) w wr ∧ Rd g wr (c + 10 + 10 * (y - j)))) (fun _ i _ => (intOf i).toNat)
  case atStart =>
    obtain ⟨h1, h2, h3⟩ := HW.out
    obtain ⟨a, cap, he, _⟩ := Own.open h1
    exact ⟨y, a, cap, xs1, he, Nat.le_refl _, rfl, by omega, Lib.hid ⟨by rw [← he]; exact h1, h2, h3.mono (by omega)⟩⟩
  case round =>
    obtain ⟨j, a, cap, xs, rfl, hj, rfl, hlen, HR⟩ := hrel
    by_cases hj0 : 0 < j
    · by_cases h38 : xs.length < 38
      · go_wp2_with fail
        refine (pick_any g _ _ _ HR.out.2.2 (by omega)).mono ?_
        rintro e w3 ⟨x3, rfl, i3, ho, hr⟩
        obtain ⟨i3, i3'⟩ := i3.lt (by omega)
        replace HR := Lib.hid (And.intro ((HR.out.1.outside ho (.inr (by omega))).lower (Nat.le_refl _) ho.size) (And.intro (HR.out.2.1.trans ho) hr))
        clear ho hr HW
        have hx3 : x3 = 0 ∨ x3 = 1 ∨ x3 = 2 ∨ x3 = 3 ∨ x3 = 4 ∨ x3 = 5 := by omega
        clear i3 i3'
        rcases hx3 with rfl | rfl | rfl | rfl | rfl | rfl
        · skip
          have hown := HR.out.1
          have hsz := HR.out.2.1.size
          go_wp2_with (at_builtin; refine wpList_app_lit _ rfl _ _ 24 rfl 3 (.int .i64 0) 1 8 Tryd.underlying24 info_int rfl (by decide) (by decide) rfl hown 1 (ints [21]) rfl rfl (ints_one _) rfl ?c1 ?c2 ?_)
          case c1 => omega
          case c2 => omega
          intro v' w5 hown5 hout5 _
          obtain ⟨a', cap', rfl, _⟩ := Own.open hown5
          have H3 := Lib.hid (And.intro hown5 hout5)
          clear hown hown5 hout5
          go_wp2
          go_roundw
          case rel =>
            exact ⟨j - 1, a', cap', xs ++ [21], by simp, by omega, by go_num, by simp; omega, Lib.hid ⟨OwnI.app H3.out.1 rfl, HR.out.2.1.fresh H3.out.2 (Nat.le_refl _), (HR.out.2.2.outside H3.out.2 hg).mono (by omega)⟩⟩
          case measure => simp [intOf]; omega
        · go_wp2_with fail
          refine (l20Leaf_any g _ _ HR.out.2.2 (by omega)).mono ?_
          rintro e w4 ⟨v4, rfl, ls, hown, hl1, ho, hr⟩
          replace HR := Lib.hid (And.intro ((HR.out.1.outside ho (.inr (by omega))).lower (Nat.le_refl _) ho.size) (And.intro (HR.out.2.1.trans ho) hr))
          have HL := Lib.hid hown
          clear hown ho hr
          have hs4 := HR.out.2.1.size
          go_wp2_with fail
          refine (l2Join_any _ _ _ _ _ _ ls xs 19 _ HL.out.sl HR.out.1.sl (Nat.le_refl _) (Nat.le_refl _) (by omega)).mono ?_
          rintro e w5 ⟨v5, rfl, hb, hown5⟩
          obtain ⟨a', cap', rfl, _⟩ := Own.open hown5
          have H3 := Lib.hid (And.intro hown5 hb)
          clear hown5 hb
          go_wp2
          go_roundw
          case rel =>
            exact ⟨j - 1, a', cap', ls ++ xs ++ [19], by first | (simp; done) | (simp; omega), by omega, by go_num, by simp; omega, Lib.hid ⟨H3.out.1.lower hs4 (Nat.le_refl _), HR.out.2.1.below H3.out.2 hs4, (HR.out.2.2.below H3.out.2 HR.out.2.2.lt).mono (by omega)⟩⟩
          case measure => simp [intOf]; omega
        · go_wp2_with fail
          refine (l20Leaf_any g _ _ HR.out.2.2 (by omega)).mono ?_
          rintro e w4 ⟨v4, rfl, ls, hown, hl1, ho, hr⟩
          replace HR := Lib.hid (And.intro ((HR.out.1.outside ho (.inr (by omega))).lower (Nat.le_refl _) ho.size) (And.intro (HR.out.2.1.trans ho) hr))
          have HL := Lib.hid hown
          clear hown ho hr
          have hs4 := HR.out.2.1.size
          go_wp2_with fail
          refine (l2Join_any _ _ _ _ _ _ ls xs 20 _ HL.out.sl HR.out.1.sl (Nat.le_refl _) (Nat.le_refl _) (by omega)).mono ?_
          rintro e w5 ⟨v5, rfl, hb, hown5⟩
          obtain ⟨a', cap', rfl, _⟩ := Own.open hown5
          have H3 := Lib.hid (And.intro hown5 hb)
          clear hown5 hb
          go_wp2
          go_roundw
          case rel =>
            exact ⟨j - 1, a', cap', ls ++ xs ++ [20], by first | (simp; done) | (simp; omega), by omega, by go_num, by simp; omega, Lib.hid ⟨H3.out.1.lower hs4 (Nat.le_refl _), HR.out.2.1.below H3.out.2 hs4, (HR.out.2.2.below H3.out.2 HR.out.2.2.lt).mono (by omega)⟩⟩
          case measure => simp [intOf]; omega
        · go_wp2_with fail
          refine (l20Leaf_any g _ _ HR.out.2.2 (by omega)).mono ?_
          rintro e w4 ⟨v4, rfl, ls, hown, hl1, ho, hr⟩
          replace HR := Lib.hid (And.intro ((HR.out.1.outside ho (.inr (by omega))).lower (Nat.le_refl _) ho.size) (And.intro (HR.out.2.1.trans ho) hr))
          have HL := Lib.hid hown
          clear hown ho hr
          have hs4 := HR.out.2.1.size
          go_wp2_with fail
          refine (l2Join_any _ _ _ _ _ _ xs ls 20 _ HR.out.1.sl HL.out.sl (Nat.le_refl _) (Nat.le_refl _) (by omega)).mono ?_
          rintro e w5 ⟨v5, rfl, hb, hown5⟩
          obtain ⟨a', cap', rfl, _⟩ := Own.open hown5
          have H3 := Lib.hid (And.intro hown5 hb)
          clear hown5 hb
          go_wp2
          go_roundw
          case rel =>
            exact ⟨j - 1, a', cap', xs ++ ls ++ [20], by first | (simp; done) | (simp; omega), by omega, by go_num, by simp; omega, Lib.hid ⟨H3.out.1.lower hs4 (Nat.le_refl _), HR.out.2.1.below H3.out.2 hs4, (HR.out.2.2.below H3.out.2 HR.out.2.2.lt).mono (by omega)⟩⟩
          case measure => simp [intOf]; omega
        · go_wp2_with fail
          refine (l20Leaf_any g _ _ HR.out.2.2 (by omega)).mono ?_
          rintro e w4 ⟨v4, rfl, ls, hown, hl1, ho, hr⟩
          replace HR := Lib.hid (And.intro ((HR.out.1.outside ho (.inr (by omega))).lower (Nat.le_refl _) ho.size) (And.intro (HR.out.2.1.trans ho) hr))
          have HL := Lib.hid hown
          clear hown ho hr
          have hs4 := HR.out.2.1.size
          go_wp2_with fail
          refine (l2Join_any _ _ _ _ _ _ xs ls 19 _ HR.out.1.sl HL.out.sl (Nat.le_refl _) (Nat.le_refl _) (by omega)).mono ?_
          rintro e w5 ⟨v5, rfl, hb, hown5⟩
          obtain ⟨a', cap', rfl, _⟩ := Own.open hown5
          have H3 := Lib.hid (And.intro hown5 hb)
          clear hown5 hb
          go_wp2
          go_roundw
          case rel =>
            exact ⟨j - 1, a', cap', xs ++ ls ++ [19], by first | (simp; done) | (simp; omega), by omega, by go_num, by simp; omega, Lib.hid ⟨H3.out.1.lower hs4 (Nat.le_refl _), HR.out.2.1.below H3.out.2 hs4, (HR.out.2.2.below H3.out.2 HR.out.2.2.lt).mono (by omega)⟩⟩
          case measure => simp [intOf]; omega
        · go_wp2_with fail
          refine (l20Leaf_any g _ _ HR.out.2.2 (by omega)).mono ?_
          rintro e w4 ⟨v4, rfl, ls, hown, hl1, ho, hr⟩
          replace HR := Lib.hid (And.intro ((HR.out.1.outside ho (.inr (by omega))).lower (Nat.le_refl _) ho.size) (And.intro (HR.out.2.1.trans ho) hr))
          have HL := Lib.hid hown
          clear hown ho hr
          have hs4 := HR.out.2.1.size
          go_wp2_with fail
          refine (l2Join_any _ _ _ _ _ _ xs ls 19 _ HR.out.1.sl HL.out.sl (Nat.le_refl _) (Nat.le_refl _) (by omega)).mono ?_
          rintro e w5 ⟨v5, rfl, hb, hown5⟩
          obtain ⟨a', cap', rfl, _⟩ := Own.open hown5
          have H3 := Lib.hid (And.intro hown5 hb)
          clear hown5 hb
          go_wp2
          go_roundw
          case rel =>
            exact ⟨j - 1, a', cap', xs ++ ls ++ [19], by first | (simp; done) | (simp; omega), by omega, by go_num, by simp; omega, Lib.hid ⟨H3.out.1.lower hs4 (Nat.le_refl _), HR.out.2.1.below H3.out.2 hs4, (HR.out.2.2.below H3.out.2 HR.out.2.2.lt).mono (by omega)⟩⟩
          case measure => simp [intOf]; omega
      · have hl44 : xs.length ≤ 39 := hlen
        clear HW
        have hjy : 10 + 10 * (y - j) ≤ 220 := by omega
        replace HR := Lib.hid (And.intro HR.out.1 (And.intro HR.out.2.1 (HR.out.2.2.mono (show c + 10 + 10 * (y - j) ≤ c + 220 by omega))))
        clear hjy
        go_wp2_with fail
        refine (odd_any g _ _ _ HR.out.2.2 (by omega) (by omega)).mono ?_
        rintro e w3 ⟨b, rfl, ho, hr⟩
        replace HR := Lib.hid (And.intro ((HR.out.1.outside ho (.inr (by omega))).lower (Nat.le_refl _) ho.size) (And.intro (HR.out.2.1.trans ho) hr))
        clear ho hr
        cases b
        · go_wp2
          go_ret
          exact RetV.mk _ rfl ⟨xs, HR.out.1, by omega, HR.out.2.1, HR.out.2.2.mono (by omega)⟩
        · go_wp2_with fail
          refine (pick_any g _ _ _ HR.out.2.2 (by omega)).mono ?_
          rintro e w4 ⟨x4, rfl, i4, ho, hr⟩
          obtain ⟨i4, i4'⟩ := i4.lt (by omega)
          replace HR := Lib.hid (And.intro ((HR.out.1.outside ho (.inr (by omega))).lower (Nat.le_refl _) ho.size) (And.intro (HR.out.2.1.trans ho) hr))
          clear ho hr
          have hx4 : x4 = 0 ∨ x4 = 1 ∨ x4 = 2 ∨ x4 = 3 ∨ x4 = 4 := by omega
          clear i4 i4'
          have hsz := HR.out.2.1.size
          rcases hx4 with rfl | rfl | rfl | rfl | rfl
          · go_wp2
            go_ret
            exact RetV.mk _ rfl ⟨[], OwnI.len (n := 0) (Own.wide2 (Own.lit 1 3 w4 [] 0 (by omega) rfl) hsz (by simp)) rfl, by simp, HR.out.2.1.below ((Below.refl _ _).alloc (Nat.le_refl _) _) hsz, (HR.out.2.2.alloc _).mono (by omega)⟩
          · skip
            have hown := HR.out.1
            have hsz := HR.out.2.1.size
            go_wp2_with (at_builtin; refine wpList_app_lit _ rfl _ _ 24 rfl 3 (.int .i64 0) 1 8 Tryd.underlying24 info_int rfl (by decide) (by decide) rfl hown 1 (ints [16]) rfl rfl (ints_one _) rfl ?c1 ?c2 ?_)
            case c1 => omega
            case c2 => omega
            intro v' w5 hown5 hout5 _
            obtain ⟨a', cap', rfl, _⟩ := Own.open hown5
            have H3 := Lib.hid (And.intro hown5 hout5)
            clear hown hown5 hout5
            go_wp2
            go_ret
            exact RetV.mk _ rfl ⟨xs ++ [16], OwnI.len (n := xs.length + 1) (by rw [ints_append]; exact H3.out.1) (by simp), by simp; omega, HR.out.2.1.fresh H3.out.2 (Nat.le_refl _), (HR.out.2.2.outside H3.out.2 hg).mono (by omega)⟩
          · have hl0 := Own.lit 1 3 w4 (ints [20]) 1 (by omega) rfl
            have HL := Lib.hid ((HR.out.1.below ((Below.refl w4.heap.size w4).alloc (Nat.le_refl _) (.cells (ints [20]).toArray 3)) (Nat.le_refl _)).sl)
            go_wp2_with (at_builtin; go_loud (refine wpList_app_sl rfl _ _ 24 rfl 3 (.int .i64 0) 1 8 Tryd.underlying24 info_int rfl (by decide) (by decide) rfl hl0 rfl HL.out (ints_one _) ?c1 ?c2 ?_))
            case c1 => omega
            case c2 => simp
            intro v' w5 hown5 _ hout5 _
            have H3 := Lib.hid (And.intro hown5 (Outside.alloc hout5))
            clear hown5 hout5 hl0
            go_wp2
            go_ret
            exact RetV.mk _ rfl ⟨20 :: xs, OwnI.len (n := 1 + xs.length) (Own.wide2 H3.out.1 hsz (Nat.le_refl _)) (by simp; omega), by simp; omega, HR.out.2.1.fresh H3.out.2 hsz, (HR.out.2.2.outside H3.out.2 HR.out.2.2.lt).mono (by omega)⟩
          · have hlt := HR.out.2.2.lt
            go_wp2_with fail
            refine (pick_any g _ _ _ (HR.out.2.2.alloc _) (by omega)).mono ?_
            rintro e w6 ⟨x6, rfl, i6, ho, hr⟩
            obtain ⟨i6, i6'⟩ := i6.lt (by omega)
            have K := blk_hop ho hlt
            have hsz6 : w4.heap.size ≤ w6.heap.size := (Outside.alloc ho).size
            replace HR := Lib.hid (And.intro ((HR.out.1.outside (Outside.alloc ho) (.inr (by omega))).lower (Nat.le_refl _) hsz6) (And.intro (HR.out.2.1.trans (Outside.alloc ho)) hr))
            clear ho hr
            obtain ⟨z, rfl⟩ : ∃ z : Nat, x6 = z := ⟨x6.toNat, by omega⟩
            obtain ⟨q, hq, _⟩ := two_get (-1) 22 z (by omega)
            have hcell := (K.cell z).trans hq
            clear K hq
            have hown := HR.out.1
            have hsz := HR.out.2.1.size
            go_wp2_with (at_builtin; refine wpList_app_lit _ rfl _ _ 24 rfl 3 (.int .i64 0) 1 8 Tryd.underlying24 info_int rfl (by decide) (by decide) rfl hown 1 (ints [q]) rfl rfl (ints_one _) rfl ?c1 ?c2 ?_)
            case c1 => omega
            case c2 => omega
            intro v' w5 hown5 hout5 _
            obtain ⟨a', cap', rfl, _⟩ := Own.open hown5
            have H3 := Lib.hid (And.intro hown5 hout5)
            clear hown hown5 hout5
            go_wp2
            go_ret
            exact RetV.mk _ rfl ⟨xs ++ [q], OwnI.len (n := xs.length + 1) (by rw [ints_append]; exact H3.out.1) (by simp), by simp; omega, HR.out.2.1.fresh H3.out.2 (Nat.le_refl _), (HR.out.2.2.outside H3.out.2 hg).mono (by omega)⟩
          · go_wp2
            have HS := HR
            go_loopw [7] (fun v wr => ∃ (a : Option Addr) (cap : Nat) (zs : List Int), v = .slice a zs.length cap ∧ zs.length ≤ 41 ∧ Hid (OwnI w.heap.size wr.heap.size 3 wr (.slice a zs.length cap) zs ∧ Outside g (g + 1) w wr ∧ Rd g wr (c + 400))) (fun v _ => 42 - slLen v)
            case atStart => exact ⟨a, cap, xs, rfl, by omega, Lib.hid ⟨HS.out.1, HS.out.2.1, HS.out.2.2.mono (by omega)⟩⟩
            case round =>
              obtain ⟨a2, cap2, zs, rfl, hz, HR⟩ := hrel
              by_cases hz2 : zs.length ≤ 40
              · skip
                have hown := HR.out.1
                have hsz := HR.out.2.1.size
                go_wp2_with (at_builtin; refine wpList_app_lit _ rfl _ _ 24 rfl 3 (.int .i64 0) 1 8 Tryd.underlying24 info_int rfl (by decide) (by decide) rfl hown 1 (ints [21]) rfl rfl (ints_one _) rfl ?c1 ?c2 ?_)
                case c1 => omega
                case c2 => omega
                intro v' w5 hown5 hout5 _
                obtain ⟨a', cap', rfl, _⟩ := Own.open hown5
                have H3 := Lib.hid (And.intro hown5 hout5)
                clear hown hown5 hout5
                go_wp2
                go_roundw
                case rel =>
                  exact ⟨a', cap', zs ++ [21], by simp, by simp; omega, Lib.hid ⟨OwnI.app H3.out.1 rfl, HR.out.2.1.fresh H3.out.2 (Nat.le_refl _), HR.out.2.2.outside H3.out.2 hg⟩⟩
                case measure => simp [slLen]; omega
              · go_wp2
                go_ret
                exact RetV.mk _ rfl ⟨zs, HR.out.1, by omega, HR.out.2.1, HR.out.2.2⟩
    · have hl44 : xs.length ≤ 39 := hlen
      clear HW
      have hjy : 10 + 10 * (y - j) ≤ 220 := by omega
      replace HR := Lib.hid (And.intro HR.out.1 (And.intro HR.out.2.1 (HR.out.2.2.mono (show c + 10 + 10 * (y - j) ≤ c + 220 by omega))))
      clear hjy
      go_wp2_with fail
      refine (odd_any g _ _ _ HR.out.2.2 (by omega) (by omega)).mono ?_
      rintro e w3 ⟨b, rfl, ho, hr⟩
      replace HR := Lib.hid (And.intro ((HR.out.1.outside ho (.inr (by omega))).lower (Nat.le_refl _) ho.size) (And.intro (HR.out.2.1.trans ho) hr))
      clear ho hr
      cases b
      · go_wp2
        go_ret
        exact RetV.mk _ rfl ⟨xs, HR.out.1, by omega, HR.out.2.1, HR.out.2.2.mono (by omega)⟩
      · go_wp2_with fail
        refine (pick_any g _ _ _ HR.out.2.2 (by omega)).mono ?_
        rintro e w4 ⟨x4, rfl, i4, ho, hr⟩
        obtain ⟨i4, i4'⟩ := i4.lt (by omega)
        replace HR := Lib.hid (And.intro ((HR.out.1.outside ho (.inr (by omega))).lower (Nat.le_refl _) ho.size) (And.intro (HR.out.2.1.trans ho) hr))
        clear ho hr
        have hx4 : x4 = 0 ∨ x4 = 1 ∨ x4 = 2 ∨ x4 = 3 ∨ x4 = 4 := by omega
        clear i4 i4'
        have hsz := HR.out.2.1.size
        rcases hx4 with rfl | rfl | rfl | rfl | rfl
        · go_wp2
          go_ret
          exact RetV.mk _ rfl ⟨[], OwnI.len (n := 0) (Own.wide2 (Own.lit 1 3 w4 [] 0 (by omega) rfl) hsz (by simp)) rfl, by simp, HR.out.2.1.below ((Below.refl _ _).alloc (Nat.le_refl _) _) hsz, (HR.out.2.2.alloc _).mono (by omega)⟩
        · skip
          have hown := HR.out.1
          have hsz := HR.out.2.1.size
          go_wp2_with (at_builtin; refine wpList_app_lit _ rfl _ _ 24 rfl 3 (.int .i64 0) 1 8 Tryd.underlying24 info_int rfl (by decide) (by decide) rfl hown 1 (ints [16]) rfl rfl (ints_one _) rfl ?c1 ?c2 ?_)
          case c1 => omega
          case c2 => omega
          intro v' w5 hown5 hout5 _
          obtain ⟨a', cap', rfl, _⟩ := Own.open hown5
          have H3 := Lib.hid (And.intro hown5 hout5)
          clear hown hown5 hout5
          go_wp2
          go_ret
          exact RetV.mk _ rfl ⟨xs ++ [16], OwnI.len (n := xs.length + 1) (by rw [ints_append]; exact H3.out.1) (by simp), by simp; omega, HR.out.2.1.fresh H3.out.2 (Nat.le_refl _), (HR.out.2.2.outside H3.out.2 hg).mono (by omega)⟩
        · have hl0 := Own.lit 1 3 w4 (ints [20]) 1 (by omega) rfl
          have HL := Lib.hid ((HR.out.1.below ((Below.refl w4.heap.size w4).alloc (Nat.le_refl _) (.cells (ints [20]).toArray 3)) (Nat.le_refl _)).sl)
          go_wp2_with (at_builtin; go_loud (refine wpList_app_sl rfl _ _ 24 rfl 3 (.int .i64 0) 1 8 Tryd.underlying24 info_int rfl (by decide) (by decide) rfl hl0 rfl HL.out (ints_one _) ?c1 ?c2 ?_))
          case c1 => omega
          case c2 => simp
          intro v' w5 hown5 _ hout5 _
          have H3 := Lib.hid (And.intro hown5 (Outside.alloc hout5))
          clear hown5 hout5 hl0
          go_wp2
          go_ret
          exact RetV.mk _ rfl ⟨20 :: xs, OwnI.len (n := 1 + xs.length) (Own.wide2 H3.out.1 hsz (Nat.le_refl _)) (by simp; omega), by simp; omega, HR.out.2.1.fresh H3.out.2 hsz, (HR.out.2.2.outside H3.out.2 HR.out.2.2.lt).mono (by omega)⟩
        · have hlt := HR.out.2.2.lt
          go_wp2_with fail
          refine (pick_any g _ _ _ (HR.out.2.2.alloc _) (by omega)).mono ?_
          rintro e w6 ⟨x6, rfl, i6, ho, hr⟩
          obtain ⟨i6, i6'⟩ := i6.lt (by omega)
          have K := blk_hop ho hlt
          have hsz6 : w4.heap.size ≤ w6.heap.size := (Outside.alloc ho).size
          replace HR := Lib.hid (And.intro ((HR.out.1.outside (Outside.alloc ho) (.inr (by omega))).lower (Nat.le_refl _) hsz6) (And.intro (HR.out.2.1.trans (Outside.alloc ho)) hr))
          clear ho hr
          obtain ⟨z, rfl⟩ : ∃ z : Nat, x6 = z := ⟨x6.toNat, by omega⟩
          obtain ⟨q, hq, _⟩ := two_get (-1) 22 z (by omega)
          have hcell := (K.cell z).trans hq
          clear K hq
          have hown := HR.out.1
          have hsz := HR.out.2.1.size
          go_wp2_with (at_builtin; refine wpList_app_lit _ rfl _ _ 24 rfl 3 (.int .i64 0) 1 8 Tryd.underlying24 info_int rfl (by decide) (by decide) rfl hown 1 (ints [q]) rfl rfl (ints_one _) rfl ?c1 ?c2 ?_)
          case c1 => omega
          case c2 => omega
          intro v' w5 hown5 hout5 _
          obtain ⟨a', cap', rfl, _⟩ := Own.open hown5
          have H3 := Lib.hid (And.intro hown5 hout5)
          clear hown hown5 hout5
          go_wp2
          go_ret
          exact RetV.mk _ rfl ⟨xs ++ [q], OwnI.len (n := xs.length + 1) (by rw [ints_append]; exact H3.out.1) (by simp), by simp; omega, HR.out.2.1.fresh H3.out.2 (Nat.le_refl _), (HR.out.2.2.outside H3.out.2 hg).mono (by omega)⟩
        · go_wp2
          have HS := HR
          go_loopw [7] (fun v wr => ∃ (a : Option Addr) (cap : Nat) (zs : List Int), v = .slice a zs.length cap ∧ zs.length ≤ 41 ∧ Hid (OwnI w.heap.size wr.heap.size 3 wr (.slice a zs.length cap) zs ∧ Outside g (g + 1) w wr ∧ Rd g wr (c + 400))) (fun v _ => 42 - slLen v)
          case atStart => exact ⟨a, cap, xs, rfl, by omega, Lib.hid ⟨HS.out.1, HS.out.2.1, HS.out.2.2.mono (by omega)⟩⟩
          case round =>
            obtain ⟨a2, cap2, zs, rfl, hz, HR⟩ := hrel
            by_cases hz2 : zs.length ≤ 40
            · skip
              have hown := HR.out.1
              have hsz := HR.out.2.1.size
              go_wp2_with (at_builtin; refine wpList_app_lit _ rfl _ _ 24 rfl 3 (.int .i64 0) 1 8 Tryd.underlying24 info_int rfl (by decide) (by decide) rfl hown 1 (ints [21]) rfl rfl (ints_one _) rfl ?c1 ?c2 ?_)
              case c1 => omega
              case c2 => omega
              intro v' w5 hown5 hout5 _
              obtain ⟨a', cap', rfl, _⟩ := Own.open hown5
              have H3 := Lib.hid (And.intro hown5 hout5)
              clear hown hown5 hout5
              go_wp2
              go_roundw
              case rel =>
                exact ⟨a', cap', zs ++ [21], by simp, by simp; omega, Lib.hid ⟨OwnI.app H3.out.1 rfl, HR.out.2.1.fresh H3.out.2 (Nat.le_refl _), HR.out.2.2.outside H3.out.2 hg⟩⟩
              case measure => simp [slLen]; omega
            · go_wp2
              go_ret
              exact RetV.mk _ rfl ⟨zs, HR.out.1, by omega, HR.out.2.1, HR.out.2.2⟩
end Go.Proofs.YtacgefknhncgfaaDoor
