/-
  Texts of walks and plain lemmas for this seat; no condition.
-/
import Derived.Test.YtoondakdjhhehaaDoorCShI
import Derived.Test.YtoondakdjhhehaaDoorCShR
import Derived.Laws.OwnMore
namespace Go.Proofs.YtoondakdjhhehaaDoor
open Go.RowKit
set_option linter.unusedVariables false

/-- A row of numbers that lies in block b. -/
def RowN (b : Nat) (w : World) (cap : Nat) (xs : List Int) : Prop := w.ownsRow b 3 1 (.slice (some ⟨b, 0, none⟩) xs.length cap) xs.length (ints xs)
theorem RowN.cell {b cap : Nat} {w : World} {xs : List Int} (h : RowN b w cap xs) (i : Nat) (hi : i < xs.length) : w.cell? ⟨b, i, none⟩ = some (.int .i64 xs[i]) := by
  have := h.cells (g := b) rfl i _ (ints_get xs i hi)
  rwa [Addr.add_lit, Nat.zero_add] at this
theorem RowN.free {b cap : Nat} {w : World} {xs : List Int} (h : RowN b w cap xs) (j : Nat) : w.frozen? ⟨b, j, none⟩ = false := by
  obtain ⟨_, h1⟩ := h
  rcases h1 with ⟨h1, _⟩ | ⟨g', cap', cur, e1, _, hg', _⟩
  · cases h1
  · simp only [Value.slice.injEq, Option.some.injEq, Addr.mk.injEq, and_true] at e1
    obtain ⟨rfl, _⟩ := e1
    simp [World.frozen?, hg']
theorem RowN.lt {b cap : Nat} {w : World} {xs : List Int} (h : RowN b w cap xs) : b < w.heap.size := by
  obtain ⟨_, h1⟩ := h
  rcases h1 with ⟨h1, _⟩ | ⟨g', cap', cur, e1, _, hg', _⟩
  · cases h1
  · simp only [Value.slice.injEq, Option.some.injEq, Addr.mk.injEq, and_true] at e1
    obtain ⟨rfl, _⟩ := e1
    exact (Array.getElem?_eq_some_iff.1 hg').1
theorem RowN.own {b cap : Nat} {w : World} {xs : List Int} (h : RowN b w cap xs) : Own 1 b (b + 1) 3 w (.slice (some ⟨b, 0, none⟩) xs.length cap) xs.length (ints xs) :=
  ⟨h, fun g hg => by simp [Value.ownBlock] at hg; omega⟩
theorem RowN.outside {b cap lo hi : Nat} {w w' : World} {xs : List Int} (h : RowN b w cap xs) (ho : Outside lo hi w w') (hd : b < lo ∨ hi ≤ b) : RowN b w' cap xs := (h.own.outside ho (by omega)).1
theorem RowN.below {b cap B : Nat} {w w' : World} {xs : List Int} (h : RowN b w cap xs) (hb : Below B w w') (hB : b < B) : RowN b w' cap xs := (h.own.below hb (by omega)).1
theorem RowN.put {b cap : Nat} {w : World} {xs : List Int} (h : RowN b w cap xs) (i : Nat) (x : Int) : RowN b (w.setCell ⟨b, i, none⟩ (.int .i64 x)) cap (xs.set i x) ∧ Outside b (b + 1) w (w.setCell ⟨b, i, none⟩ (.int .i64 x)) := by
  refine ⟨?_, (Outside.refl _ _ _).setCell (p := ⟨b, i, none⟩) (Nat.le_refl _) (Nat.lt_succ_self _) _⟩
  have h1 := (World.ownsRow.stored h i (.int .i64 x)).1
  unfold RowN
  rw [List.length_set, show ints (xs.set i x) = (ints xs).set i (.int .i64 x) by simp [ints, List.map_set]]
  exact h1
/-- The first k places are told. -/
def PlS (r : Nat → Bool) (n : Nat) (xs : List Int) (k : Nat) : Prop := xs.length = n ∧ ∀ j, j < k → j < n → xs[j]? = some ((plcN r j : Nat) : Int)
theorem PlS.set {r : Nat → Bool} {n k : Nat} {xs : List Int} (h : PlS r n xs k) (hk : k < n) : PlS r n (xs.set k ((plcN r k : Nat) : Int)) (k + 1) := by
  refine ⟨by rw [List.length_set]; exact h.1, fun j hj hn => ?_⟩
  by_cases e : j = k
  · subst e
    rw [List.getElem?_set_self (by rw [h.1]; exact hk)]
  · rw [List.getElem?_set_ne (fun h => e h.symm)]
    exact h.2 j (by omega) hn
def cutK (r : Nat → Bool) (c : List In3) (k : Nat) : List In3 := (keepL r k).map fun i => relI r (insAt c i)
theorem cutK_yes {r : Nat → Bool} {c : List In3} {k : Nat} (h : r k = true) : cutK r c (k + 1) = cutK r c k ++ [relI r (insAt c k)] := by
  unfold cutK
  rw [keepL_succ, if_pos h, List.map_append]
  rfl
theorem cutK_no {r : Nat → Bool} {c : List In3} {k : Nat} (h : r k = false) : cutK r c (k + 1) = cutK r c k := by
  unfold cutK
  rw [keepL_succ, h]
  simp
theorem cutK_len (r : Nat → Bool) (c : List In3) (k : Nat) : (cutK r c k).length ≤ k := by
  have h := plcN_le r k
  unfold cutK
  rw [List.length_map]
  exact h
theorem plcN_yes {r : Nat → Bool} {k : Nat} (h : r k = true) : plcN r (k + 1) = plcN r k + 1 := by rw [plcN_succ, h]; rfl
theorem plcN_no {r : Nat → Bool} {k : Nat} (h : r k = false) : plcN r (k + 1) = plcN r k := by rw [plcN_succ, h]; rfl

noncomputable def shortV (c : List In3) : List In3 := if codeV c then shortC c else []
theorem rchL_get {c : List In3} {j : Nat} (h : j < c.length) (h2 : j < (rchL c).length) : (rchL c)[j] = rchB c j := by simp [rchL]

set_option maxRecDepth 100000 in
set_option maxHeartbeats 3200000 in
theorem impl_CodeReached (lo hi : Nat) (v : Value) (c : List In3) (w : World) (hx : SlC lo hi w v c) (hhi : hi ≤ w.heap.size) (hm : c.length ≤ 1048576) (hc : codeV c = true) :
    Calls Tryd.prog 17 #[v] w (RetV fun u w' => ∃ bo oc bs, bs = rchL c ∧ u = .slice (some ⟨bo, 0, none⟩) bs.length oc ∧ RowB bo w' oc bs ∧ w.heap.size ≤ bo ∧ Below w.heap.size w w') := by
  have HV := Lib.hid (impl_CodeValid lo hi v c w hx hhi hm)
  rw [hc] at HV
  have HC := Lib.hid (codeV_iff.1 hc)
  have HX := Lib.hid hx
  obtain ⟨ca, cc, rfl, _, _⟩ := hx.shape
  clear hx hc
  go_enter Tryd.func17, Tryd.ntmps17
  go_wp2_with fail
  refine HV.out.mono ?_
  rintro e w1 ⟨rfl, hb⟩
  have hs1 := hb.size
  have HB := Lib.hid hb
  clear hb
  go_wp2_with fail
  refine (reachedIn_any lo hi _ c w1 (HX.out.below HB.out hhi) (by omega) HC.out).mono ?_
  rintro e w2 ⟨u, rfl, bo, oc, bs, h1, rfl, h3, h4, h5⟩
  have HR := Lib.hid (And.intro h1 (And.intro h3 h5))
  clear h1 h3 h5
  go_wp2
  go_ret
  exact RetV.mk _ rfl ⟨bo, oc, bs, HR.out.1, rfl, HR.out.2.1, by omega, HB.out.trans (HR.out.2.2.mono hs1)⟩

set_option maxRecDepth 100000 in
set_option maxHeartbeats 6400000 in
theorem impl_CodeShort (lo hi : Nat) (v : Value) (c : List In3) (w : World) (hx : SlC lo hi w v c) (hhi : hi ≤ w.heap.size) (hm : c.length ≤ 1048576) :
    Calls Tryd.prog 13 #[v] w (RetV fun u w' => ∃ zs, zs = shortV c ∧ OwnC w.heap.size w'.heap.size 33 w' u zs ∧ Below w.heap.size w w') := by
  have HV := Lib.hid (impl_CodeValid lo hi v c w hx hhi hm)
  have HX := Lib.hid hx
  obtain ⟨ca, cc, rfl, _, _⟩ := hx.shape
  clear hx
  cases hv : codeV c with
  | false =>
    rw [hv] at HV
    have HE : Hid (([] : List In3) = shortV c) := Lib.hid (by simp [shortV, hv])
    clear hv
    go_enter Tryd.func13, Tryd.ntmps13
    go_wp2_with fail
    refine HV.out.mono ?_
    rintro e w1 ⟨rfl, hb⟩
    have HB := Lib.hid hb
    clear hb
    go_wp2
    go_ret
    exact RetV.mk _ rfl ⟨[], HE.out, Own.nil _ _ _ _ _, HB.out⟩
  | true =>
    rw [hv] at HV
    have HC := Lib.hid (codeV_iff.1 hv)
    have hcl := HC.out.most
    have hcp := HC.out.pos
    have HE : Hid (cutK (rchB (thrC c)) (thrC c) c.length = shortV c) := Lib.hid (by
      rw [shortV, if_pos hv, shortC, cutC, cutK, thrC_length])
    clear hv
    obtain ⟨i0, hi0, hz0, hz1, hz2⟩ := info_parts info_int
    have hn0 : (0 : Int) ≤ (c.length : Int) := by omega
    go_enter Tryd.func13, Tryd.ntmps13
    go_wp2_with fail
    refine HV.out.mono ?_
    rintro e w1 ⟨rfl, hb⟩
    have hs1 := hb.size
    have HB := Lib.hid hb
    clear hb HV
    go_wp2_with fail
    refine (thread_any lo hi _ c w1 (HX.out.below HB.out hhi) (by omega) HC.out).mono ?_
    rintro e w2 ⟨_, rfl, ts, hts, hot, hb⟩
    obtain ⟨ta, tc, rfl, _, _⟩ := Sl.shape hot.sl
    have hs2 := hb.size
    replace HB := Lib.hid (HB.out.trans (hb.mono hs1))
    have HOT := Lib.hid hot.sl
    have htl : ts.length = c.length := by rw [hts, thrC_length]
    have HTS := Lib.hid hts
    have HCT : Hid (Code0 ts) := Lib.hid (by rw [hts]; exact thrC_code HC.out)
    rw [← hts] at HE
    rw [htl]
    have HTL := Lib.hid htl
    clear hts hot hb htl HX
    go_wp2_with fail
    refine (reachedIn_any w1.heap.size w2.heap.size _ ts w2 (by have h := HOT.out; rw [HTL.out] at h; exact h) (Nat.le_refl _) HCT.out).mono ?_
    rintro e w3 ⟨_, rfl, bo, oc, bs, hbs, rfl, hrb, hbo, hb⟩
    have hs3 := hb.size
    replace HB := Lib.hid (HB.out.trans (hb.mono (by omega)))
    have hbl : bs.length = c.length := by rw [hbs, rchL_length]; exact HTL.out
    have HBG : Hid (∀ j (h : j < bs.length), bs[j] = rchB ts j) := Lib.hid fun j h => by subst hbs; exact rchL_get (by rw [rchL_length] at h; exact h) h
    obtain ⟨r, hr⟩ : ∃ r, r = rchB ts := ⟨_, rfl⟩
    rw [← hr] at HE HBG
    have HRB := Lib.hid hrb
    have HBL := Lib.hid hbl
    have hblt := hrb.lt
    replace HOT := Lib.hid (HOT.out.below hb (Nat.le_refl _))
    rw [hbl]
    clear hbs hrb hb hbl hr
    go_wp2_with ((at_make; refine wpList_make_full _ rfl _ _ 43 rfl w3.heap.size 3 i0 (.int .i64 0) 1 Tryd.underlying43 hi0 hz0 hz1 .i64 .i64 c.length c.length c.length rfl rfl rfl rfl ?c1 ?c2 ?c3 ?c4))
    case c1 => rw [hz2]; omega
    case c2 => simp [maxLen]; omega
    case c3 => exact Nat.le_refl _
    case c4 =>
      intro w4 hown hg
      have hb4 : Below w3.heap.size w3 w4 := (Below.refl _ _).grown hg (Nat.le_refl _) (by simp)
      have hs4 := hb4.size
      have hrl : (List.replicate c.length (0 : Int)).length = c.length := by simp
      have hR4 : RowN w3.heap.size w4 c.length (List.replicate c.length (0 : Int)) := by
        unfold RowN
        rw [toList_madeCells_one] at hown
        rw [hrl, show ints (List.replicate c.length (0 : Int)) = List.replicate c.length (.int .i64 0) by simp [ints]]
        exact hown
      have hlt4 := hR4.lt
      have HR4 := Lib.hid hR4
      have HP4 : Hid (PlS r c.length (List.replicate c.length (0 : Int)) 0) := Lib.hid ⟨hrl, fun j hj => by omega⟩
      replace HB := Lib.hid (HB.out.trans (hb4.mono (by omega)))
      replace HOT := Lib.hid (HOT.out.below hb4 (by omega))
      replace HRB := Lib.hid (HRB.out.below hb4 hblt)
      obtain ⟨bp, hbp⟩ : ∃ bp, bp = w3.heap.size := ⟨_, rfl⟩
      rw [← hbp] at HR4 hlt4 ⊢
      have hbp1 : bo < bp := by omega
      have hbp2 : w3.heap.size ≤ bp := by omega
      clear hown hg hb4 hrl hR4 hi0 hz0 hz1 hz2 hbp
      have hp0 : plcN r 0 = 0 := rfl
      have HP0 := Lib.hid hp0
      clear hp0
      go_upto_region 7 with fail
      go_upto_region 8 with fail
      go_loopw [6, 24] (fun nv iv wr => ∃ (k p : Nat) (xs : List Int), iv = .int .i64 k ∧ nv = .int .i64 p ∧ k ≤ c.length ∧ p ≤ k ∧ Hid (p = plcN r k) ∧ Hid (PlS r c.length xs k) ∧ Hid (RowN bp wr c.length xs) ∧ Hid (Outside bp (bp + 1) w4 wr)) (fun _ iv _ => c.length - (intOf iv).toNat)
      case atStart => exact ⟨0, 0, _, rfl, rfl, by omega, Nat.le_refl _, HP0, HP4, HR4, Lib.hid (Outside.refl _ _ _)⟩
      case round =>
        obtain ⟨k, p, xs, rfl, rfl, hk, hpk, HPl, HPS, HRN, HO⟩ := hrel
        clear HP4 HR4 HP0
        have hso := HO.out.size
        have hrnl := HRN.out.lt
        have HXL := Lib.hid HPS.out.1
        by_cases hlt : k < c.length
        · have i1 : (k : Int) < c.length := by omega
          have hkb : k < bs.length := by rw [HBL.out]; exact hlt
          have b1 := (HRB.out.outside HO.out (.inl hbp1)).cell k hkb
          rw [HBG.out k hkb] at b1
          have hkx : k < xs.length := by rw [HXL.out]; exact hlt
          have n1 := HRN.out.cell k hkx
          have n2 := HRN.out.free k
          obtain ⟨h1, h2⟩ := HRN.out.put k (p : Int)
          have HN1 := Lib.hid h1
          have HN2 := Lib.hid (HO.out.trans (h2.wide (Nat.le_refl _) (Nat.le_refl _)))
          have HS2 : Hid (PlS r c.length (xs.set k (p : Int)) (k + 1)) := Lib.hid (by rw [HPl.out]; exact HPS.out.set hlt)
          clear h1 h2
          cases hrk : r k
          · rw [hrk] at b1
            have HPn : Hid (p = plcN r (k + 1)) := Lib.hid (by rw [plcN_no hrk]; exact HPl.out)
            clear hrk
            go_wp2
            go_roundw
            case rel => exact ⟨k + 1, p, _, by go_num, rfl, by omega, by omega, HPn, HS2, HN1, HN2⟩
            case measure => simp [intOf]; omega
          · rw [hrk] at b1
            have HPn : Hid (p + 1 = plcN r (k + 1)) := Lib.hid (by rw [plcN_yes hrk, ← HPl.out])
            clear hrk
            go_wp2
            go_roundw
            case rel => exact ⟨k + 1, p + 1, _, by go_num, by go_num, by omega, by omega, HPn, HS2, HN1, HN2⟩
            case measure => simp [intOf]; omega
        · obtain rfl : k = c.length := by omega
          obtain ⟨w5, rfl⟩ : ∃ x_, x_ = wr := ⟨_, rfl⟩
          have HRB5 := Lib.hid (HRB.out.outside HO.out (.inl hbp1))
          have HOT5 := Lib.hid (HOT.out.outside HO.out (.inl (by omega)))
          have HB5 := Lib.hid (Below.outside HB.out HO.out (by omega) HB.out.size)
          have HRN5 := HRN
          have hs5 : w4.heap.size ≤ w5.heap.size := hso
          clear HRB HOT HB HRN HO HPl
          go_upto_region 15 with fail
          go_upto_region 16 with fail
          go_loopw [9, 39] (fun v iv wr => ∃ (k : Nat) (os : List In3) (a : Option Addr) (cap : Nat), v = .slice a os.length cap ∧ iv = .int .i64 k ∧ k ≤ c.length ∧ os.length ≤ k ∧ Hid (os = cutK r ts k) ∧ Hid (OwnC w5.heap.size wr.heap.size 33 wr (.slice a os.length cap) os) ∧ Hid (Below w5.heap.size w5 wr)) (fun _ iv _ => c.length - (intOf iv).toNat)
          case atStart => exact ⟨0, [], none, 0, rfl, rfl, by omega, by simp, Lib.hid rfl, Lib.hid (Own.nil _ _ _ _ _), Lib.hid (Below.refl _ _)⟩
          case round =>
            obtain ⟨k, os, a, cap, rfl, rfl, hk, hol, HOS, HOC, HBe⟩ := hrel
            obtain ⟨wo, rfl⟩ : ∃ x_, x_ = wr := ⟨_, rfl⟩
            have hsr := HBe.out.size
            by_cases hlt : k < c.length
            · have i1 : (k : Int) < c.length := by omega
              have hkt : k < ts.length := by rw [HTL.out]; exact hlt
              obtain ⟨b, off, rfl, _, hbh, hbs2, q0, q1, q2⟩ := (HOT5.out.below HBe.out (by omega)).get k hkt
              have hkb : k < bs.length := by rw [HBL.out]; exact hlt
              have b1 := (HRB5.out.below HBe.out (by omega)).cell k hkb
              rw [HBG.out k hkb] at b1
              have hins := HCT.out.ins k hkt
              have hto := fun h => HCT.out.to_lt hkt h
              have hxe : insAt ts k = ts[k] := insAt_get hkt
              have HYe : Hid (r k = true → cutK r ts (k + 1) = cutK r ts k ++ [relI r (ts[k])]) := Lib.hid fun h => by rw [cutK_yes h, hxe]
              have HNo : Hid (r k = false → cutK r ts (k + 1) = cutK r ts k) := Lib.hid cutK_no
              rw [hxe] at hins hto
              rw [HTL.out] at hto
              obtain ⟨x, hx⟩ : ∃ x, x = ts[k] := ⟨_, rfl⟩
              rw [← hx] at q0 q1 q2 hins hto HYe
              clear hx hxe
              obtain ⟨kd, ar, tt⟩ := x
              simp only at q0 q1 q2 hto
              have hki := insB_kind hins
              simp only at hki
              obtain ⟨wx, hwx⟩ : ∃ wx, wx = wo.alloc (.cells #[.int .i64 kd, .int .i64 ar, .int .i64 tt] 33) := ⟨_, rfl⟩
              obtain ⟨hbx, KX_, hsx⟩ := box_facts3 hwx
              have KX := Lib.hid KX_
              have HWX := Lib.hid hwx
              have HBX := Lib.hid (HBe.out.trans (hbx.mono hsr))
              have HQX := Lib.hid (HOC.out.below hbx (Nat.le_refl _))
              have x0 := KX_.cell 0
              have x1 := KX_.cell 1
              have x2 := KX_.cell 2
              have f2 := KX_.free 2
              have hgx := KX_.lt
              have b2 := (hbx.cell (p := ⟨bo, k, none⟩) (by have h := (HRB5.out.below HBe.out (by omega)).lt; exact h)).trans b1
              have hszX := HBX.out.size
              obtain ⟨gx, hgxe⟩ : ∃ gx, gx = wo.heap.size := ⟨_, rfl⟩
              rw [← hgxe] at KX x0 x1 x2 f2 hgx
              have hgx2 : w5.heap.size ≤ gx := by omega
              have hgx3 : wo.heap.size ≤ gx := by omega
              have HGX := Lib.hid hgxe
              clear KX_ hbx HOC hwx hgxe b1
              go_upto_region 18 with (rw [← HWX.out])
              try rw [← HWX.out]
              rw [← HGX.out]
              cases hrk : r k
              · rw [hrk] at b2
                have HO8 : Hid (os = cutK r ts (k + 1)) := Lib.hid (by rw [HNo.out hrk]; exact HOS.out)
                clear hrk HYe HNo x0 x1 x2 f2
                go_wp2
                go_roundw
                case rel => exact ⟨k + 1, os, _, _, rfl, by go_num, by omega, by omega, HO8, Lib.hid (Own.wide2 HQX.out (Nat.le_refl _) (by omega)), HBX⟩
                case measure => simp [intOf]; omega
              · rw [hrk] at b2
                replace HYe := Lib.hid (HYe.out hrk)
                clear hrk HNo
                by_cases hgo : kd = 1 ∨ kd = 2
                · have ht := hto hgo
                  have ht0 := (insB_to hins hgo).1
                  simp only at ht0
                  obtain ⟨t0, rfl⟩ : ∃ t0 : Nat, tt = t0 := ⟨tt.toNat, by omega⟩
                  rw [Int.toNat_natCast] at ht
                  have htx : t0 < xs.length := by rw [HXL.out]; exact ht
                  have p1 := (HRN5.out.below HBX.out hrnl).cell t0 htx
                  have hpv := HPS.out.2 t0 ht ht
                  rw [List.getElem?_eq_getElem htx] at hpv
                  injection hpv with hpv
                  rw [hpv] at p1
                  have i2 : (t0 : Int) < c.length := by omega
                  obtain ⟨pv, hpve⟩ : ∃ pv, pv = plcN r t0 := ⟨_, rfl⟩
                  rw [← hpve] at p1
                  have HYes : Hid (cutK r ts (k + 1) = cutK r ts k ++ [⟨kd, ar, (pv : Int)⟩]) := Lib.hid (by rw [HYe.out, hpve, relI, if_pos (goesB_iff.2 hgo)]; rfl)
                  have KYp := KX.out.put 2 (.int .i64 (pv : Int))
                  have OYp := Outside.put gx 2 wx (.int .i64 (pv : Int))
                  obtain ⟨wy, hwy⟩ : ∃ wy, wy = wx.setCell ⟨gx, 2, none⟩ (.int .i64 (pv : Int)) := ⟨_, rfl⟩
                  rw [← hwy] at KYp OYp
                  have KY : Hid (Blk gx (.cells #[.int .i64 kd, .int .i64 ar, .int .i64 (pv : Int)] 33) wy) := Lib.hid (by simpa using KYp)
                  have hsY := OYp.size
                  have HSY : Hid (OwnC w5.heap.size wo.heap.size 33 wy (.slice a os.length cap) os) := Lib.hid (HQX.out.outside OYp (.inl hgx3))
                  have HBY := Lib.hid (Below.outside HBX.out OYp hgx2 hszX)
                  have hszY : w5.heap.size ≤ wy.heap.size := by omega
                  have HWY := Lib.hid hwy
                  clear KYp OYp hwy hpve hpv HYe hto hins
                  have hgg : ((kd == 1) = true ∨ ((kd == 1) = false ∧ (kd == 2) = true)) := by
                    rcases hgo with h | h
                    · subst h
                      exact .inl rfl
                    · subst h
                      exact .inr ⟨rfl, rfl⟩
                  clear hgo hki
                  rcases hgg with g1 | ⟨g1, g2⟩
                  all_goals
                    go_upto_region 21 with (rw [← HWY.out])
                    try rw [← HWY.out]
                    clear x0 x1 x2 f2
                    have k0 := KY.out.cell 0
                    have k1 := KY.out.cell 1
                    have k2 := KY.out.cell 2
                    have hownA := HSY.out
                    go_wp2_with (at_builtin; go_loud (refine wpList_app_lit _ rfl _ _ 26 rfl 33 (.agg #[.int .i64 0, .int .i64 0, .int .i64 0]) 3 24 Tryd.underlying26 info_ins rfl (by decide) (by decide) rfl hownA 1 (inss [⟨kd, ar, (pv : Int)⟩]) rfl rfl (inss_one _) rfl (by omega) hszY ?_))
                    intro v' w8 h5 h6 _
                    obtain ⟨a8, cap8, rfl, _⟩ := Own.open h5
                    have HR8 : Hid (OwnC w5.heap.size w8.heap.size 33 w8 (.slice a8 (os.length + 1) cap8) (os ++ [⟨kd, ar, (pv : Int)⟩])) := Lib.hid (OwnC.len (n := os.length + 1) (by rw [inss_append]; exact h5) (by simp))
                    have HB8 := Lib.hid (Below.outside HBY.out h6 (Nat.le_refl _) hszY)
                    have HL8 : Hid (os.length + 1 = (os ++ ([⟨kd, ar, (pv : Int)⟩] : List In3)).length) := Lib.hid (by simp)
                    clear h5 h6 hownA
                    obtain ⟨os8, hos8⟩ : ∃ os8 : List In3, os8 = os ++ ([⟨kd, ar, (pv : Int)⟩] : List In3) := ⟨_, rfl⟩
                    rw [← hos8] at HR8 HL8
                    have HO8 : Hid (os8 = cutK r ts (k + 1)) := Lib.hid (by rw [hos8, HYes.out, HOS.out])
                    clear hos8 k0 k1 k2
                    have hl8 : os8.length ≤ k + 1 := by rw [← HL8.out]; omega
                    rw [HL8.out]
                    rw [HL8.out] at HR8
                    go_wp2
                    go_roundw
                    case rel => exact ⟨k + 1, os8, _, _, rfl, by go_num, by omega, hl8, HO8, HR8, HB8⟩
                    case measure => simp [intOf]; omega
                · have h1 : (kd == 1) = false := by simp; omega
                  have h2 : (kd == 2) = false := by simp; omega
                  have HYes : Hid (cutK r ts (k + 1) = cutK r ts k ++ [⟨kd, ar, tt⟩]) := Lib.hid (by rw [HYe.out, relI, if_neg (fun h => hgo (goesB_iff.1 h))])
                  have KY := KX
                  have HSY : Hid (OwnC w5.heap.size wo.heap.size 33 wx (.slice a os.length cap) os) := HQX
                  have HBY := HBX
                  have hszY : w5.heap.size ≤ wx.heap.size := by omega
                  clear HYe hto hins hgo x0 x1 x2 f2
                  have k0 := KY.out.cell 0
                  have k1 := KY.out.cell 1
                  have k2 := KY.out.cell 2
                  have hownB := HSY.out
                  go_wp2_with (at_builtin; go_loud (refine wpList_app_lit _ rfl _ _ 26 rfl 33 (.agg #[.int .i64 0, .int .i64 0, .int .i64 0]) 3 24 Tryd.underlying26 info_ins rfl (by decide) (by decide) rfl hownB 1 (inss [⟨kd, ar, tt⟩]) rfl rfl (inss_one _) rfl (by omega) hszY ?_))
                  intro v' w8 h5 h6 _
                  obtain ⟨a8, cap8, rfl, _⟩ := Own.open h5
                  have HR8 : Hid (OwnC w5.heap.size w8.heap.size 33 w8 (.slice a8 (os.length + 1) cap8) (os ++ [⟨kd, ar, tt⟩])) := Lib.hid (OwnC.len (n := os.length + 1) (by rw [inss_append]; exact h5) (by simp))
                  have HB8 := Lib.hid (Below.outside HBY.out h6 (Nat.le_refl _) hszY)
                  have HL8 : Hid (os.length + 1 = (os ++ ([⟨kd, ar, tt⟩] : List In3)).length) := Lib.hid (by simp)
                  clear h5 h6 hownB
                  obtain ⟨os8, hos8⟩ : ∃ os8 : List In3, os8 = os ++ ([⟨kd, ar, tt⟩] : List In3) := ⟨_, rfl⟩
                  rw [← hos8] at HR8 HL8
                  have HO8 : Hid (os8 = cutK r ts (k + 1)) := Lib.hid (by rw [hos8, HYes.out, HOS.out])
                  clear hos8 k0 k1 k2
                  have hl8 : os8.length ≤ k + 1 := by rw [← HL8.out]; omega
                  rw [HL8.out]
                  rw [HL8.out] at HR8
                  go_wp2
                  go_roundw
                  case rel => exact ⟨k + 1, os8, _, _, rfl, by go_num, by omega, hl8, HO8, HR8, HB8⟩
                  case measure => simp [intOf]; omega
            · obtain rfl : k = c.length := by omega
              have HF : Hid (OwnC w.heap.size wo.heap.size 33 wo (.slice a os.length cap) os ∧ Below w.heap.size w wo) := Lib.hid ⟨Own.wide2 HOC.out (by have := HB5.out.size; omega) (Nat.le_refl _), HB5.out.trans (HBe.out.mono HB5.out.size)⟩
              have HEq : Hid (os = shortV c) := Lib.hid (by rw [HOS.out]; exact HE.out)
              clear HOC HBe HOS
              go_wp2
              go_ret
              exact RetV.mk _ rfl ⟨os, HEq.out, HF.out.1, HF.out.2⟩
end Go.Proofs.YtoondakdjhhehaaDoor
