/-
  Texts of walks and plain lemmas for this seat; no condition.
-/
import Derived.Test.YtplofpdjhelabaaGreatDoorDKat
import Derived.Test.YtplofpdjhelabaaGreatDoorDTrace
import Derived.Test.YtplofpdjhelabaaGreatDoorGD
import Derived.Test.YtplofpdjhelabaaGreatDoorGA
import Derived.Test.YtplofpdjhelabaaGreatDoorGE
import Derived.Test.YtplofpdjhelabaaGreatDoorGG
import Derived.Laws.OwnMore
import Derived.Deep.RegionHeldLaw
import Derived.Deep.RegionHeld3
import Derived.Deep.DeepCutAuto
import Derived.Deep.DrawnRows
namespace Go.Proofs.YtplofpdjhelabaaGreatDoor
open Go.RowKit
set_option linter.unusedVariables false

theorem ints_put (xs : List Int) (j : Nat) (x : Int) : (ints xs).set j (.int .i64 x) = ints (xs.set j x) := by simp [ints, List.map_set]
/-- A store into a row of numbers. -/
theorem OwnI.put {lo hi n cap g : Nat} {w : World} {xs : List Int} (h : OwnI lo hi 3 w (.slice (some ⟨g, 0, none⟩) n cap) xs) (hn : n = xs.length) (hg : lo ≤ g ∧ g < hi) (j : Nat) (x : Int) :
    OwnI lo hi 3 (w.setCell ⟨g, j, none⟩ (.int .i64 x)) (.slice (some ⟨g, 0, none⟩) n cap) (xs.set j x) ∧ Outside lo hi w (w.setCell ⟨g, j, none⟩ (.int .i64 x)) := by
  subst hn
  refine ⟨?_, (Outside.refl _ _ _).setCell (p := ⟨g, j, none⟩) hg.1 hg.2 _⟩
  unfold OwnI
  rw [List.length_set, ← ints_put]
  exact ⟨(World.ownsRow.stored h.1 j (.int .i64 x)).1, h.2⟩
/-- A beginning of a row of numbers. -/
theorem OwnI.front {lo hi n cap g m : Nat} {w : World} {xs : List Int} (h : OwnI lo hi 3 w (.slice (some ⟨g, 0, none⟩) n cap) xs) (hn : n = xs.length) (hm : m ≤ xs.length) : OwnI lo hi 3 w (.slice (some ⟨g, 0, none⟩) m cap) (xs.take m) := by
  subst hn
  have hl : (xs.take m).length = m := by simp; omega
  have h1 : Own 1 lo hi 3 w (.slice (some ⟨g, 0, none⟩) xs.length cap) xs.length (ints (xs.take m) ++ ints (xs.drop m)) := by rw [← ints_append, List.take_append_drop]; exact h
  have h2 := Own.front (m := m) h1 (by rw [ints_length, hl]) (by simp)
  unfold OwnI
  rw [hl]
  exact h2

/-- How far a drawn trace of an expression goes, and how many reads it takes. -/
def bdT : KT → Nat → Nat
  | .leaf _, _ => 3
  | .bin _ x y, d => bdT x d + bdT y d + 3
  | .star x, 0 => 5
  | .star x, d + 1 => 2 * bdT x d + 8
theorem bdT_0 : ∀ t : KT, bdT t 0 + 3 ≤ 6 * t.size
  | .leaf _ => by simp [bdT, KT.size]
  | .bin _ x y => by have := bdT_0 x; have := bdT_0 y; simp only [bdT, KT.size]; omega
  | .star x => by have := x.size_pos; simp only [bdT, KT.size]; omega
theorem bdT_1 : ∀ t : KT, bdT t 1 + 3 ≤ 18 * t.size
  | .leaf _ => by simp [bdT, KT.size]
  | .bin _ x y => by have := bdT_1 x; have := bdT_1 y; simp only [bdT, KT.size]; omega
  | .star x => by have := bdT_0 x; simp only [bdT, KT.size]; omega
theorem bdT_2 : ∀ t : KT, bdT t 2 + 3 ≤ 54 * t.size
  | .leaf _ => by simp [bdT, KT.size]
  | .bin _ x y => by have := bdT_2 x; have := bdT_2 y; simp only [bdT, KT.size]; omega
  | .star x => by have := bdT_1 x; simp only [bdT, KT.size]; omega
theorem bdT_all (t : KT) (d : Nat) (hd : d ≤ 2) : bdT t d ≤ 54 * t.size := by
  have := bdT_0 t; have := bdT_1 t; have := bdT_2 t
  match d, hd with
  | 0, _ => omega
  | 1, _ => omega
  | 2, _ => omega

set_option maxHeartbeats 1600000 in
theorem l20Glue_any (g c la ha lb hb : Nat) (va vb : Value) (xs ys : List Int) (w : World) (h : Rd g w c) (hc : c ≤ 100000000000) (hx : OwnI la ha 3 w va xs) (hy : SlI lb hb w vb ys) (h0 : 0 < xs.length) (hxl : xs.length ≤ 1000000) (hyl : ys.length ≤ 1000000)
    (hg : g < la) (hg2 : g < lb) (hla : la ≤ w.heap.size) (hha : ha ≤ w.heap.size) (hhb : hb ≤ w.heap.size) :
    Calls Tryz.prog 103 #[.pointer (some ⟨g, 0, none⟩), va, vb] w (RetV fun v w' => ∃ zs, OwnI la w'.heap.size 3 w' v zs ∧ zs.length + 1 = xs.length + ys.length ∧ Outside g (g + 1) w w' ∧ Rd g w' (c + 1)) := by
  obtain ⟨xa, xc, rfl, hnc, hcm, _, hxa⟩ := Own.open hx
  obtain ⟨gx, rfl, _, _⟩ := hxa h0
  obtain ⟨ya, yc, rfl, _, _⟩ := Sl.shape hy
  unfold maxLen at hcm
  have hgw := h.lt
  have HR := Lib.hid h
  have HX := Lib.hid hx
  have HY := Lib.hid hy
  have HF := Lib.hid (OwnI.front (m := xs.length - 1) hx rfl (by omega)).sl
  have hfl : (xs.take (xs.length - 1)).length = xs.length - 1 := by simp
  have e1 : ((xs.length : Int) - 1).toNat = xs.length - 1 := by omega
  have e2 : (0 : Int) ≤ (xs.length : Int) - 1 := by omega
  have e3 : (xs.length : Int) - 1 ≤ xc := by omega
  clear hx hy h hxa
  have h0_ := Own.lit 1 3 w (ints []) 0 (by omega) rfl
  have HL := Lib.hid (HF.out.below ((Below.refl w.heap.size w).alloc (Nat.le_refl _) (.cells (ints []).toArray 3)) (by omega))
  go_enter Tryz.func103, Tryz.ntmps103
  go_wp2_with (at_builtin; go_loud (refine wpList_app_sl rfl _ _ 23 rfl 3 (.int .i64 0) 1 8 Tryz.underlying23 info_int rfl (by decide) (by decide) rfl h0_ rfl HL.out (ints_one _) ?c1 ?c2 ?_))
  case c1 => omega
  case c2 => simp
  intro v5 w5 hown5 _ hout5 _
  have hz5 := hout5.size
  have ho5 := Outside.alloc hout5
  replace HX := Lib.hid (HX.out.outside ho5 (.inl hha))
  replace HY := Lib.hid (HY.out.outside ho5 (.inl hhb))
  replace HR := Lib.hid (HR.out.outside ho5 hgw)
  have HB := Lib.hid ((Outside.refl g (g + 1) w).fresh ho5 (Nat.le_refl _))
  have hz5' : w.heap.size ≤ w5.heap.size := ho5.size
  have HO : Hid (Own 1 w.heap.size w5.heap.size 3 w5 v5 (xs.length - 1) (ints (xs.take (xs.length - 1)))) := Lib.hid hown5
  obtain ⟨va5, vc5, rfl⟩ := Own.shape HO.out
  clear hown5 hout5 ho5 h0_ HL e1 e2 e3
  by_cases hy1 : ys.length = 1
  · obtain ⟨y, rfl⟩ := List.length_eq_one_iff.1 hy1
    clear hy1
    replace HY : Hid (SlI lb hb w5 (.slice ya 1 yc) [y]) := HY
    simp only [List.length_singleton] at hyl ⊢
    go_wp2_with fail
    refine (pick_any g _ _ _ HR.out (by omega)).mono ?_
    rintro e w6 ⟨x6, rfl, _, ho, hr⟩
    replace HX := Lib.hid (HX.out.outside ho (.inr (by omega)))
    replace HY := Lib.hid (HY.out.outside ho (.inr (by omega)))
    replace HO := Lib.hid (Own.outside HO.out ho (.inr (by omega)))
    replace HB := Lib.hid (HB.out.trans ho)
    have hs6 := ho.size
    replace HR := Lib.hid hr
    clear ho hr
    cases hx6 : x6 == 0
    · go_wp2_with (at_builtin; go_loud (refine wpList_app_sl rfl _ _ 23 rfl 3 (.int .i64 0) 1 8 Tryz.underlying23 info_int rfl (by decide) (by decide) rfl HO.out rfl HY.out (ints_one _) ?c1 ?c2 ?_))
      case c1 => simp; omega
      case c2 => omega
      intro v7 w7 hown7 _ hout7 _
      have HO7 : Hid (OwnI w.heap.size w7.heap.size 3 w7 v7 (xs.take (xs.length - 1) ++ [y])) := Lib.hid (OwnI.len (by rw [ints_append]; exact hown7) (by simp))
      have H7 := Lib.hid hout7
      clear hown7 hout7
      go_wp2
      go_ret
      have hl7 : (xs.take (xs.length - 1) ++ [y]).length = xs.length - 1 + [y].length := by simp
      have hs7 := H7.out.size
      have hfin : OwnI la w7.heap.size 3 w7 v7 (xs.take (xs.length - 1) ++ [y]) := HO7.out.lower (by omega) (Nat.le_refl _)
      exact RetV.mk v7 rfl ⟨xs.take (xs.length - 1) ++ [y], hfin, by omega, HB.out.fresh H7.out (by omega), HR.out.outside H7.out (by omega)⟩
    · go_wp2
      go_ret
      exact RetV.mk _ rfl ⟨xs, HX.out.lower (Nat.le_refl _) (by omega), by simp, HB.out, HR.out⟩
  · have hy1' : ((ys.length : Int) == 1) = false := by simp; omega
    go_wp2_with (at_builtin; go_loud (refine wpList_app_sl rfl _ _ 23 rfl 3 (.int .i64 0) 1 8 Tryz.underlying23 info_int rfl (by decide) (by decide) rfl HO.out rfl HY.out (ints_one _) ?c1 ?c2 ?_))
    case c1 => omega
    case c2 => omega
    intro v7 w7 hown7 _ hout7 _
    have HO7 : Hid (OwnI w.heap.size w7.heap.size 3 w7 v7 (xs.take (xs.length - 1) ++ ys)) := Lib.hid (OwnI.len (by rw [ints_append]; exact hown7) (by simp))
    have H7 := Lib.hid hout7
    clear hown7 hout7
    go_wp2
    go_ret
    have hl7 : (xs.take (xs.length - 1) ++ ys).length = xs.length - 1 + ys.length := by simp
    have hs7 := H7.out.size
    have hfin : OwnI la w7.heap.size 3 w7 v7 (xs.take (xs.length - 1) ++ ys) := HO7.out.lower (by omega) (Nat.le_refl _)
    exact RetV.mk v7 rfl ⟨xs.take (xs.length - 1) ++ ys, hfin, by omega, HB.out.fresh H7.out (by omega), (HR.out.outside H7.out (by omega)).mono (by omega)⟩

theorem SlI.cell1 {lo hi n cap b off : Nat} {w : World} {xs : List Int} (h : SlI lo hi w (.slice (some ⟨b, off, none⟩) n cap) xs) (i : Nat) (hi' : i < xs.length) : w.cell? ⟨b, off + i, none⟩ = some (.int .i64 xs[i]) := by
  obtain ⟨b', off', e, _, _, _, hc⟩ := h.get i hi'
  injection e with e
  injection e with e1 e2
  subst e1 e2
  exact hc
theorem pickI {n x : Int} (h : InR n x) (hn : 0 < n) : ∃ y : Nat, x = y ∧ (y : Int) < n := by
  obtain ⟨h1, h2⟩ := h.lt hn
  exact ⟨x.toNat, by omega, by omega⟩
/-- What l20Of leaves: a row of an odd length, in new memory; the reader has read on. -/
def OfR (g c b : Nat) (w : World) (v : Value) (w' : World) : Prop := ∃ zs : List Int, OwnI w.heap.size w'.heap.size 3 w' v zs ∧ zs.length ≤ b ∧ zs.length % 2 = 1 ∧ Outside g (g + 1) w w' ∧ Rd g w' (c + b)
theorem OfR.one (g c b : Nat) {w w1 : World} (x : Int) (ho : Outside g (g + 1) w w1) (hr : Rd g w1 (c + 1)) (hb : 1 ≤ b) : OfR g c b w (.slice (some ⟨w1.heap.size, 0, none⟩) 1 1) (w1.alloc (.cells #[.int .i64 x] 3)) :=
  ⟨[x], (one_own x w1).lower ho.size (Nat.le_refl _), by simpa using hb, rfl, ho.below ((Below.refl _ _).alloc (Nat.le_refl _) _) ho.size, (hr.alloc _).mono (by omega)⟩

theorem OfR.from {g c b c1 b1 : Nat} {w w1 w2 : World} {v : Value} (h : OfR g c1 b1 w1 v w2) (ho : Outside g (g + 1) w w1) (hc : c1 + b1 ≤ c + b) (hb : b1 ≤ b) : OfR g c b w v w2 := by
  obtain ⟨zs, h1, h2, h3, h4, h5⟩ := h
  exact ⟨zs, h1.lower ho.size (Nat.le_refl _), by omega, h3, ho.trans h4, h5.mono (by omega)⟩
set_option maxRecDepth 100000 in
set_option maxHeartbeats 3200000 in
theorem l20Of_any (g : Nat) : ∀ (t : KT) (d c lo hi : Nat) (v : Value) (w : World), Rd g w c → c + bdT t d ≤ 10000000000 → bdT t d ≤ 100000 → SlI lo hi w v t.post → t.ok 0 = true → t.size ≤ 40 → d ≤ 2 → g < lo → hi ≤ w.heap.size →
    Calls Tryz.prog 62 #[.pointer (some ⟨g, 0, none⟩), v, .int .i64 d] w (RetV (OfR g c (bdT t d) w)) := by
  intro t
  induction t with
  | leaf n =>
    intro d c lo hi v w h hc hbd hx hok hs hd hg hh
    have hgw := h.lt
    simp only [KT.ok, Bool.and_eq_true, decide_eq_true_eq] at hok
    obtain ⟨hn0, hn18⟩ := hok
    obtain ⟨a, cap, rfl, _, _⟩ := Sl.shape hx
    have HX := Lib.hid hx
    have hlen : (KT.leaf n).post.length = 1 := rfl
    rw [hlen] at HX ⊢
    clear hx hlen
    go_enter Tryz.func62, Tryz.ntmps62
    go_wp2_with fail
    refine (pick_any g _ _ _ h (by omega)).mono ?_
    rintro e w1 ⟨x1, rfl, i1, ho, hr⟩
    obtain ⟨x, rfl, hx4⟩ := pickI i1 (by omega)
    have hx1 := HX.out.outside ho (.inr (by omega))
    obtain ⟨b, off, rfl, hb1, hb2, hb3, hcell⟩ := hx1.get 0 (by simp [KT.post])
    have hc1 : w1.cell? ⟨b, off, none⟩ = some (.int .i64 n) := hcell
    have HO := Lib.hid ho
    have HR := Lib.hid hr
    have HX1 := Lib.hid hx1
    clear ho hr i1 h hx1 hcell HX
    by_cases h15 : n ≤ 15
    · obtain ⟨nn, rfl⟩ : ∃ nn : Nat, n = nn := ⟨n.toNat, by omega⟩
      go_wp2
      go_loopw [8, 9] (fun a i wr => ∃ (k y : Nat), k ≤ 4 ∧ y < 4 ∧ i = .int .i64 k ∧ a = .int .i64 y ∧ wr = w1) (fun _ i _ => 4 - (intOf i).toNat)
      case atStart => exact ⟨0, x, by omega, by omega, rfl, rfl, rfl⟩
      case round =>
        obtain ⟨k, y, hk, hy, rfl, rfl, rfl⟩ := hrel
        by_cases hk4 : k < 4
        · go_wp2_with fail
          refine (l1Bit_any nn y (by omega) hy _).mono ?_
          rintro e w2 ⟨rfl, rfl⟩
          cases hbit : hb nn y
          · go_wp2
            go_roundw
            case rel => exact ⟨k + 1, (y + 1) % 4, by omega, by omega, by go_num, by go_num, trivial⟩
            case measure => simp [intOf]; omega
          · go_wp2
            go_ret
            exact RetV.mk _ rfl (OfR.one g c _ _ HO.out HR.out (by simp [bdT]))
        · go_wp2
          go_ret
          exact RetV.mk _ rfl (OfR.one g c _ _ HO.out HR.out (by simp [bdT]))
    · have hlt1 := HR.out.lt
      have HXD := Lib.hid (show SlI lo hi w1.drew (.slice (some ⟨b, off, none⟩) 1 cap) (KT.leaf n).post from HX1.out)
      have HRD := Lib.hid (show Rd g w1.drew (c + 1) from HR.out)
      have HOD := Lib.hid (show Outside g (g + 1) w w1.drew from ⟨HO.out.os, HO.out.tape, HO.out.output, HO.out.size, HO.out.block⟩)
      go_upto_region 10 with fail
      go_region_held3 (fun w' => w'.cell? ⟨b, off, none⟩ = some (.int .i64 n)) (first | with_reducible assumption | go_keep) (first
        | (go_at_call 23; refine (pick_any g _ 4 w1.drew HRD.out (by omega)).mono ?_; rintro e5 w5 ⟨x5, rfl, i5, ho5, hr5⟩; (have hc5 : w5.cell? ⟨b, off, none⟩ = some (.int .i64 n) := (HXD.out.outside ho5 (.inr (by omega))).cell1 0 (by simp [KT.post])); (have HO5 := Lib.hid (HOD.out.trans ho5)); (have HR5 := Lib.hid hr5); clear ho5 hr5 i5))
      go_wp2
      go_ret
      have hs5 := HO5.out.size
      exact RetV.mk _ rfl ⟨[(x : Int), n, x5], Own.wide2 (Own.lit 1 3 w5 (ints [(x : Int), n, x5]) 3 (by omega) rfl) hs5 (by simp), by simp [bdT], by simp, HO5.out.below ((Below.refl _ _).alloc (Nat.le_refl _) _) hs5, (HR5.out.alloc _).mono (by simp [bdT])⟩
  | star x ih =>
    intro d c lo hi v w h hc hbd hx hok hs hd hg hh
    have hgw := h.lt
    have hokx : x.ok 0 = true := hok
    simp only [KT.size] at hs
    have hlen : (KT.star x).post.length = x.size + 1 := by rw [KT.post_length]; rfl
    obtain ⟨a, cap, rfl, _, hcm⟩ := Sl.shape hx
    unfold maxLen at hcm
    obtain ⟨b, off, rfl⟩ := hx.notNil (by omega)
    have HX := Lib.hid hx
    rw [hlen] at HX ⊢
    clear hx hok
    have IH := Lib.hid ih
    clear ih
    go_enter Tryz.func62, Tryz.ntmps62
    go_wp2_with fail
    refine (pick_any g _ _ _ h (by omega)).mono ?_
    rintro e w1 ⟨x1, rfl, i1, ho, hr⟩
    obtain ⟨y, rfl, hy4⟩ := pickI i1 (by omega)
    replace HX := Lib.hid (HX.out.outside ho (.inr (by omega)))
    have hc1 : w1.cell? ⟨b, off + x.size, none⟩ = some (.int .i64 21) := by
      have := HX.out.cell1 x.size (by omega)
      rw [this]
      simp [KT.post, ← KT.post_length]
    have HO := Lib.hid ho
    have hs1 := ho.size
    have HR := Lib.hid hr
    clear ho hr i1 h
    go_wp2_with fail
    refine (pick_any g _ _ _ (HR.out.alloc _) (by omega)).mono ?_
    rintro e w2 ⟨k, rfl, i2, ho, hr⟩
    obtain ⟨k, rfl, hk3⟩ := pickI i2 (by omega)
    have hz1 : (w1.alloc (.cells #[.int .i64 (y : Int)] 3)).heap.size = w1.heap.size + 1 := alloc_size _ _
    have hs2 := ho.size
    have HV : Hid (OwnI w1.heap.size w2.heap.size 3 w2 (.slice (some ⟨w1.heap.size, 0, none⟩) 1 1) [(y : Int)]) := Lib.hid (((one_own (y : Int) w1).outside ho (.inr (by omega))).lower (Nat.le_refl _) (by omega))
    replace HO := Lib.hid ((HO.out.below (al_below w1 (.cells #[.int .i64 (y : Int)] 3)) HO.out.size).trans ho)
    replace HX := Lib.hid ((HX.out.below (al_below w1 _) (by omega)).outside ho (.inr (by omega)))
    replace HR := Lib.hid hr
    clear ho hr i2 hc1
    cases d with
    | zero =>
      have hd0 : decide (((0 : Nat) : Int) > 0) = false := by decide
      go_wp2
      go_loopw [14, 15] (fun ov kv wr => ov = .slice (some ⟨w1.heap.size, 0, none⟩) 1 1 ∧ kv = .int .i64 (k : Int) ∧ wr = w2) (fun _ _ _ => 0)
      case atStart => exact ⟨rfl, rfl, rfl⟩
      case round =>
        obtain ⟨rfl, rfl, rfl⟩ := hrel
        by_cases hk0 : 0 < k
        · have hkd : decide ((k : Int) > 0) = true := decide_eq_true (by omega)
          go_wp2
          go_ret
          exact RetV.mk _ rfl ⟨[(y : Int)], HV.out.lower (by omega) (Nat.le_refl _), by simp [bdT], rfl, HO.out, HR.out.mono (by simp [bdT])⟩
        · have hkd : decide ((k : Int) > 0) = false := decide_eq_false (by omega)
          go_wp2
          go_ret
          exact RetV.mk _ rfl ⟨[(y : Int)], HV.out.lower (by omega) (Nat.le_refl _), by simp [bdT], rfl, HO.out, HR.out.mono (by simp [bdT])⟩
    | succ d =>
      have hd1 : decide (((d + 1 : Nat) : Int) > 0) = true := decide_eq_true (by omega)
      have hbd2 : bdT (KT.star x) (d + 1) = 2 * bdT x d + 8 := by simp [bdT]
      rw [hbd2] at hbd hc
      obtain ⟨B, hB⟩ : ∃ B, B = bdT x d := ⟨_, rfl⟩
      have HBB := Lib.hid hB
      rw [← hB] at hbd hbd2 hc
      have HBD := Lib.hid hbd2
      clear hB hbd2
      have HSUB := Lib.hid (fun (wr : World) (h : SlI lo hi wr (.slice (some ⟨b, off, none⟩) (x.size + 1) cap) (KT.star x).post) => show SlI lo hi wr (.slice (some ⟨b, off, none⟩) x.size cap) x.post by
        have h2 := h.sub 0 x.size (Nat.zero_le _) (by omega)
        simpa [KT.post, ← KT.post_length] using h2)
      have e4 : x.size ≤ cap := by omega
      go_wp2
      go_loopw [14, 15] (fun ov kv wr => ∃ (j r : Nat) (zs : List Int), j ≤ k ∧ kv = .int .i64 j ∧ Hid (zs.length + j * B ≤ 1 + k * B ∧ zs.length % 2 = 1 ∧ r + j * (B + 1) ≤ c + 2 + k * (B + 1)) ∧ Hid (OwnI w.heap.size wr.heap.size 3 wr ov zs ∧ Outside g (g + 1) w wr ∧ Rd g wr r ∧ SlI lo hi wr (.slice (some ⟨b, off, none⟩) (x.size + 1) cap) (KT.star x).post)) (fun _ j _ => (intOf j).toNat)
      case atStart => exact ⟨k, c + 2, [(y : Int)], Nat.le_refl _, rfl, Lib.hid ⟨by simp, rfl, by omega⟩, Lib.hid ⟨HV.out.lower (by omega) (Nat.le_refl _), HO.out, HR.out, HX.out⟩⟩
      case round =>
        rename World => wr
        clear HV HO HR HX
        obtain ⟨j, r, zs, hj, rfl, HN, HQ⟩ := hrel
        obtain ⟨oa, oc, rfl⟩ := Own.shape HQ.out.1
        have hzr := HQ.out.2.1.size
        have HR := Lib.hid HQ.out.2.2.1
        by_cases hj0 : 0 < j
        · obtain ⟨j, rfl⟩ : ∃ i, j = i + 1 := ⟨j - 1, by omega⟩
          have hjd : decide (((j + 1 : Nat) : Int) > 0) = true := decide_eq_true (by omega)
          have HSX := Lib.hid (HSUB.out wr HQ.out.2.2.2)
          have hzB : r + B ≤ c + 2 * B + 6 ∧ zs.length ≤ 1 + 2 * B := by
            have hkB : k * B ≤ 2 * B := Nat.mul_le_mul_right B (by omega)
            have hkB2 : k * (B + 1) ≤ 2 * (B + 1) := Nat.mul_le_mul_right (B + 1) (by omega)
            have h1 := HN.out.1
            have h2 := HN.out.2.2
            rw [Nat.succ_mul] at h1 h2
            generalize k * B = P at h1 hkB
            generalize k * (B + 1) = P2 at h2 hkB2
            generalize j * B = P3 at h1
            generalize j * (B + 1) = P4 at h2
            omega
          have HP := Lib.hid HN.out.2.1
          go_wp2_with fail
          refine (IH.out d r lo hi _ wr HR.out (by have := HBB.out; omega) (by have := HBB.out; omega) HSX.out hokx (by omega) (by omega) hg (by omega)).mono ?_
          rintro e w3 ⟨v3, rfl, us, o_, hl3, hodd3, h_, r_⟩
          rw [← HBB.out] at hl3 r_
          have hz3 := h_.size
          obtain ⟨ua, uc, rfl⟩ := Own.shape o_
          have HU := Lib.hid o_.sl
          have HZ := Lib.hid (HQ.out.1.outside h_ (.inr (by omega)))
          have HX3 := Lib.hid (HQ.out.2.2.2.outside h_ (.inr (by omega)))
          have HO3 := Lib.hid (HQ.out.2.1.trans h_)
          have HR3 := Lib.hid r_
          clear o_ h_ r_ HQ
          have hp := HP.out
          go_wp2_with fail
          refine (l20Glue_any g _ w.heap.size wr.heap.size wr.heap.size w3.heap.size _ _ zs us w3 HR3.out (by omega) HZ.out HU.out (by omega) (by omega) (by omega) hgw (by omega) (by omega) hz3 (Nat.le_refl _)).mono ?_
          rintro e w4 ⟨v4, rfl, xs4, o4, hl4, h4, r4⟩
          have HO4 := Lib.hid o4
          have HX4 := Lib.hid (HX3.out.outside h4 (.inr (by omega)))
          have HT4 := Lib.hid (HO3.out.trans h4)
          have HR4 := Lib.hid r4
          have HN4 : Hid (xs4.length + j * B ≤ 1 + k * B ∧ xs4.length % 2 = 1 ∧ (r + B + 1) + j * (B + 1) ≤ c + 2 + k * (B + 1)) := Lib.hid (by
            have h1 := HN.out.1
            have h2 := HN.out.2.2
            rw [Nat.succ_mul] at h1 h2
            generalize k * B = P at h1 ⊢
            generalize k * (B + 1) = P2 at h2 ⊢
            generalize j * B = P3 at h1 ⊢
            generalize j * (B + 1) = P4 at h2 ⊢
            omega)
          clear o4 h4 r4 hl4 hp hzB hl3 hodd3
          go_wp2
          go_roundw
          case rel => exact ⟨j, _, xs4, by omega, by go_num, HN4, Lib.hid ⟨HO4.out, HT4.out, HR4.out, HX4.out⟩⟩
          case measure => simp [intOf]
        · obtain rfl : j = 0 := by omega
          go_wp2
          go_ret
          have hkB : k * B ≤ 2 * B := Nat.mul_le_mul_right B (by omega)
          have hkB2 : k * (B + 1) ≤ 2 * (B + 1) := Nat.mul_le_mul_right (B + 1) (by omega)
          have h1 := HN.out.1
          have h2 := HN.out.2.2
          simp only [Nat.zero_mul, Nat.add_zero] at h1 h2
          generalize k * B = P at h1 hkB
          generalize k * (B + 1) = P2 at h2 hkB2
          exact RetV.mk _ rfl ⟨zs, HQ.out.1, by rw [HBD.out]; omega, HN.out.2.1, HQ.out.2.1, HQ.out.2.2.1.mono (by rw [HBD.out]; omega)⟩
  | bin p x y ihx ihy =>
    intro d c lo hi v w h hc hbd hx hok hs hd hg hh
    have hgw := h.lt
    simp only [KT.ok, Bool.and_eq_true] at hok
    obtain ⟨hokx, hoky⟩ := hok
    simp only [KT.size] at hs
    have hlen : (KT.bin p x y).post.length = x.size + y.size + 1 := by rw [KT.post_length]; rfl
    have hb2 : bdT (KT.bin p x y) d = bdT x d + bdT y d + 3 := by simp [bdT]
    have HALF := Lib.hid (fun (w' : World) (h' : SlI lo hi w' v (KT.bin p x y).post) => show Calls Tryz.prog 90 #[v] w' (RetH fun a b w2 => Below w'.heap.size w' w2 ∧ SlI lo hi w2 a x.post ∧ SlI lo hi w2 b y.post) from
      (l2Halves_any lo hi v 0 p x y w' h' (by omega) hoky).mono (by rintro e w2 ⟨va, vb, rfl, ⟨m, rfl⟩, ha, hb⟩; exact ⟨va, vb, rfl, below_drewN (Below.refl _ _) m, ha, hb⟩))
    have HX0 := Lib.hid hx
    obtain ⟨a, cap, rfl, _, hcm⟩ := Sl.shape hx
    unfold maxLen at hcm
    obtain ⟨b, off, rfl⟩ := hx.notNil (by omega)
    have HX := Lib.hid hx
    clear hx
    have IHX := Lib.hid ihx
    have IHY := Lib.hid ihy
    clear ihx ihy
    rw [hlen] at HX HX0 HALF ⊢
    go_enter Tryz.func62, Tryz.ntmps62
    go_wp2_with fail
    refine (pick_any g _ _ _ h (by omega)).mono ?_
    rintro e w1 ⟨x1, rfl, i1, ho, hr⟩
    obtain ⟨x1, rfl, hy4⟩ := pickI i1 (by omega)
    replace HX := Lib.hid (HX.out.outside ho (.inr (by omega)))
    have hc1 : w1.cell? ⟨b, off + (x.size + y.size), none⟩ = some (.int .i64 (KT.op p)) := by
      have := HX.out.cell1 (x.size + y.size) (by omega)
      rw [this]
      simp [KT.post, ← KT.post_length]
    have HO := Lib.hid ho
    have hs1 := ho.size
    have HR := Lib.hid hr
    clear ho hr i1 h HX0
    cases p
    · have hop : KT.op false = 19 := rfl
      rw [hop] at hc1
      go_wp2_with fail
      refine (HALF.out w1 HX.out).mono ?_
      rintro e w2 ⟨va, vb, rfl, h_, ha, hb⟩
      have hs2 := h_.size
      have HA := Lib.hid ha
      have HY := Lib.hid hb
      replace HO := Lib.hid (HO.out.below h_ HO.out.size)
      replace HR := Lib.hid (HR.out.below h_ (by omega))
      have hal := KT.post_length x
      have hbl := KT.post_length y
      obtain ⟨aa, ac, rfl, _, _⟩ := Sl.shape ha
      obtain ⟨ba, bc, rfl, _, _⟩ := Sl.shape hb
      rw [hal] at HA
      rw [hbl] at HY
      rw [hal, hbl]
      clear h_ ha hb HALF HX hc1 hal hbl
      go_wp2_with fail
      refine (IHX.out d _ lo hi _ w2 HR.out (by omega) (by omega) HA.out hokx (by omega) hd hg (by omega)).mono ?_
      rintro e w3 ⟨v3, rfl, us, o3, l3, odd3, h_, r_⟩
      have hs3 := h_.size
      obtain ⟨ua, uc, rfl⟩ := Own.shape o3
      have HU := Lib.hid o3
      replace HY := Lib.hid (HY.out.outside h_ (.inr (by omega)))
      replace HO := Lib.hid (HO.out.trans h_)
      replace HR := Lib.hid r_
      clear o3 h_ r_ HA
      go_wp2_with fail
      refine (IHY.out d _ lo hi _ w3 HR.out (by omega) (by omega) HY.out hoky (by omega) hd hg (by omega)).mono ?_
      rintro e w4 ⟨v4, rfl, ts, o4, l4, odd4, h_, r_⟩
      have hs4 := h_.size
      obtain ⟨ta, tc, rfl⟩ := Own.shape o4
      have HT := Lib.hid o4.sl
      replace HU := Lib.hid (HU.out.outside h_ (.inr (by omega)))
      replace HO := Lib.hid (HO.out.trans h_)
      replace HR := Lib.hid r_
      clear o4 h_ r_ HY
      go_wp2_with fail
      refine (l20Glue_any g _ w2.heap.size w3.heap.size w3.heap.size w4.heap.size _ _ us ts w4 HR.out (by omega) HU.out HT.out (by omega) (by omega) (by omega) (by omega) (by omega) (by omega) (by omega) (Nat.le_refl _)).mono ?_
      rintro e w5 ⟨v5, rfl, zs, o5, l5, h_, r_⟩
      have HZ := Lib.hid (o5.lower (lo' := w.heap.size) (by omega) (Nat.le_refl _))
      replace HO := Lib.hid (HO.out.trans h_)
      replace HR := Lib.hid r_
      obtain ⟨za, zc, rfl⟩ := Own.shape o5
      clear o5 h_ r_
      go_wp2
      go_ret
      exact RetV.mk _ rfl ⟨zs, HZ.out, by omega, by omega, HO.out, HR.out.mono (by omega)⟩
    · have hop : KT.op true = 20 := rfl
      rw [hop] at hc1
      go_wp2_with fail
      refine (HALF.out w1 HX.out).mono ?_
      rintro e w2 ⟨va, vb, rfl, h_, ha, hb⟩
      have hs2 := h_.size
      have HA := Lib.hid ha
      have HY := Lib.hid hb
      replace HO := Lib.hid (HO.out.below h_ HO.out.size)
      replace HR := Lib.hid (HR.out.below h_ (by omega))
      have hal := KT.post_length x
      have hbl := KT.post_length y
      obtain ⟨aa, ac, rfl, _, _⟩ := Sl.shape ha
      obtain ⟨ba, bc, rfl, _, _⟩ := Sl.shape hb
      rw [hal] at HA
      rw [hbl] at HY
      rw [hal, hbl]
      clear h_ ha hb HALF HX hc1 hal hbl
      go_wp2_with fail
      refine (pick_any g _ _ _ HR.out (by omega)).mono ?_
      rintro e w3 ⟨q, rfl, i3, h_, r_⟩
      clear i3
      have hs3 := h_.size
      replace HA := Lib.hid (HA.out.outside h_ (.inr (by omega)))
      replace HY := Lib.hid (HY.out.outside h_ (.inr (by omega)))
      replace HO := Lib.hid (HO.out.trans h_)
      replace HR := Lib.hid r_
      clear h_ r_
      cases hq : q == 0
      · go_wp2_with fail
        refine (IHY.out d _ lo hi _ w3 HR.out (by omega) (by omega) HY.out hoky (by omega) hd hg (by omega)).mono ?_
        rintro e w4 ⟨v4, rfl, h4⟩
        have H4 := Lib.hid (h4.from HO.out (b := bdT x d + bdT y d + 3) (c := c) (by omega) (by omega))
        obtain ⟨_, o4, _⟩ := h4
        obtain ⟨ta, tc, rfl⟩ := Own.shape o4
        clear o4
        go_wp2
        go_ret
        exact RetV.mk _ rfl H4.out
      · go_wp2_with fail
        refine (IHX.out d _ lo hi _ w3 HR.out (by omega) (by omega) HA.out hokx (by omega) hd hg (by omega)).mono ?_
        rintro e w4 ⟨v4, rfl, h4⟩
        have H4 := Lib.hid (h4.from HO.out (b := bdT x d + bdT y d + 3) (c := c) (by omega) (by omega))
        obtain ⟨_, o4, _⟩ := h4
        obtain ⟨ta, tc, rfl⟩ := Own.shape o4
        clear o4
        go_wp2
        go_ret
        exact RetV.mk _ rfl H4.out
end Go.Proofs.YtplofpdjhelabaaGreatDoor
