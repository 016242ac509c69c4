/-
  Texts of walks and plain lemmas for this seat; no condition.
-/
import Derived.Test.YtoondakdjhhehaaDoorGZA
import Derived.Test.YtoondakdjhhehaaDoorCIns
import Derived.Test.YtoondakdjhhehaaDoorCVal
import Derived.Test.YtoondakdjhhehaaDoorGA
import Derived.Test.YtoondakdjhhehaaDoorGB
import Derived.Test.YtoondakdjhhehaaDoorSCode
import Derived.Laws.OwnMore
import Derived.Deep.LoopGhost
import Derived.IntWalk
namespace Go.Proofs.YtoondakdjhhehaaDoor
open Go.RowKit
set_option linter.unusedVariables false

def bools (bs : List Bool) : List Value := bs.map Value.bool
theorem info_bool : (Tryd.prog.info? 4).map (fun i => (i.zero, i.size, i.bytes)) = some (some (.bool false), 1, 1) := by kernel_rfl
/-- A row of bools that lies in block b. -/
def RowB (b : Nat) (w : World) (cap : Nat) (bs : List Bool) : Prop := w.ownsRow b 4 1 (.slice (some ⟨b, 0, none⟩) bs.length cap) bs.length (bools bs)
theorem bools_get (bs : List Bool) (i : Nat) (h : i < bs.length) : (bools bs)[i]? = some (.bool bs[i]) := by simp [bools, h]
theorem RowB.cell {b cap : Nat} {w : World} {bs : List Bool} (h : RowB b w cap bs) (i : Nat) (hi : i < bs.length) : w.cell? ⟨b, i, none⟩ = some (.bool bs[i]) := by
  have := h.cells (g := b) rfl i _ (bools_get bs i hi)
  rwa [Addr.add_lit, Nat.zero_add] at this
theorem RowB.free {b cap : Nat} {w : World} {bs : List Bool} (h : RowB b w cap bs) (j : Nat) : w.frozen? ⟨b, j, none⟩ = false := by
  obtain ⟨_, h1⟩ := h
  rcases h1 with ⟨h1, _⟩ | ⟨g', cap', cur, e1, _, hg', _⟩
  · cases h1
  · simp only [Value.slice.injEq, Option.some.injEq, Addr.mk.injEq, and_true] at e1
    obtain ⟨rfl, _⟩ := e1
    simp [World.frozen?, hg']
theorem RowB.lt {b cap : Nat} {w : World} {bs : List Bool} (h : RowB b w cap bs) : b < w.heap.size := by
  obtain ⟨_, h1⟩ := h
  rcases h1 with ⟨h1, _⟩ | ⟨g', cap', cur, e1, _, hg', _⟩
  · cases h1
  · simp only [Value.slice.injEq, Option.some.injEq, Addr.mk.injEq, and_true] at e1
    obtain ⟨rfl, _⟩ := e1
    exact (Array.getElem?_eq_some_iff.1 hg').1
theorem RowB.own {b cap : Nat} {w : World} {bs : List Bool} (h : RowB b w cap bs) : Own 1 b (b + 1) 4 w (.slice (some ⟨b, 0, none⟩) bs.length cap) bs.length (bools bs) :=
  ⟨h, fun g hg => by simp [Value.ownBlock] at hg; omega⟩
theorem RowB.of {b cap n : Nat} {w : World} {bs : List Bool} (h : Own 1 b (b + 1) 4 w (.slice (some ⟨b, 0, none⟩) n cap) n (bools bs)) (hn : n = bs.length) : RowB b w cap bs := by
  subst hn
  exact h.1
theorem RowB.outside {b cap lo hi : Nat} {w w' : World} {bs : List Bool} (h : RowB b w cap bs) (ho : Outside lo hi w w') (hd : b < lo ∨ hi ≤ b) : RowB b w' cap bs :=
  RowB.of (h.own.outside ho (by omega)) rfl
theorem RowB.below {b cap B : Nat} {w w' : World} {bs : List Bool} (h : RowB b w cap bs) (hb : Below B w w') (hB : b < B) : RowB b w' cap bs :=
  RowB.of (h.own.below hb (by omega)) rfl
theorem RowB.put {b cap : Nat} {w : World} {bs : List Bool} (h : RowB b w cap bs) (i : Nat) (x : Bool) : RowB b (w.setCell ⟨b, i, none⟩ (.bool x)) cap (bs.set i x) ∧ Outside b (b + 1) w (w.setCell ⟨b, i, none⟩ (.bool x)) := by
  refine ⟨?_, (Outside.refl _ _ _).setCell (p := ⟨b, i, none⟩) (Nat.le_refl _) (Nat.lt_succ_self _) _⟩
  have h1 := (World.ownsRow.stored h i (.bool x)).1
  unfold RowB
  rw [List.length_set, show bools (bs.set i x) = (bools bs).set i (.bool x) by simp [bools, List.map_set]]
  exact h1
theorem count_set {bs : List Bool} {i : Nat} (h : bs[i]? = some false) : (bs.set i true).count false + 1 = bs.count false := by
  induction bs generalizing i with
  | nil => simp at h
  | cons b r ih =>
    cases i with
    | zero =>
      have e : b = false := by simpa using h
      subst e
      simp
    | succ i =>
      have := ih (i := i) (by simpa using h)
      simp only [List.set_cons_succ, List.count_cons]
      omega
theorem OwnI.frontR {lo hi n cap g m : Nat} {w : World} {xs : List Int} (h : OwnI lo hi 3 w (.slice (some ⟨g, 0, none⟩) n cap) xs) (hn : n = xs.length) (hm : m ≤ xs.length) : OwnI lo hi 3 w (.slice (some ⟨g, 0, none⟩) m cap) (xs.take m) := by
  subst hn
  have hl : (xs.take m).length = m := by simp; omega
  have h1 : Own 1 lo hi 3 w (.slice (some ⟨g, 0, none⟩) xs.length cap) xs.length (ints (xs.take m) ++ ints (xs.drop m)) := by rw [← ints_append, List.take_append_drop]; exact h
  have h2 := Own.front (m := m) h1 (by rw [ints_length, hl]) (by simp)
  unfold OwnI
  rw [hl]
  exact h2
/-- Both rows of the walk. -/
def RSt (w w1 : World) (bo oc : Nat) (bs : List Bool) (td : List Int) (wr : World) (v : Value) : Prop := RowB bo wr oc bs ∧ OwnI w1.heap.size wr.heap.size 3 wr v td ∧ Below w.heap.size w wr ∧ w.heap.size ≤ bo ∧ bo < w1.heap.size ∧ w1.heap.size ≤ wr.heap.size
theorem RSt.app {w w1 wr wy : World} {bo oc n : Nat} {bs : List Bool} {td ys : List Int} {v v' : Value} (h : RSt w w1 bo oc bs td wr v) (h5 : Own 1 w1.heap.size wy.heap.size 3 wy v' n (ints td ++ ints ys)) {mid : Nat} (h6 : Outside w1.heap.size mid wr wy) (hn : n = td.length + ys.length) (hy : 0 < ys.length) :
    ∃ g cap zs, zs = td ++ ys ∧ v' = .slice (some ⟨g, 0, none⟩) zs.length cap ∧ RSt w w1 bo oc bs zs wy (.slice (some ⟨g, 0, none⟩) zs.length cap) := by
  obtain ⟨a, cap, rfl, _, _, _, hg⟩ := Own.open h5
  obtain ⟨g, rfl, _, _⟩ := hg (by omega)
  have hl : n = (td ++ ys).length := by simp [hn]
  refine ⟨g, cap, td ++ ys, rfl, by rw [hl], ?_⟩
  rw [← hl]
  obtain ⟨k1, k2, k3, k4, k5, k6⟩ := h
  exact ⟨k1.outside h6 (.inl k5), OwnI.len (n := n) (by rw [ints_append]; exact h5) hl, Below.outside k3 h6 (by omega) k3.size, k4, k5, Nat.le_trans k6 h6.size⟩
theorem RSt.al {w w1 wr : World} {bo oc : Nat} {bs : List Bool} {td : List Int} {v : Value} (h : RSt w w1 bo oc bs td wr v) (o : Obj) : RSt w w1 bo oc bs td (wr.alloc o) v := by
  obtain ⟨k1, k2, k3, k4, k5, k6⟩ := h
  have hb := al_below wr o
  exact ⟨k1.below hb (by omega), (k2.below hb (Nat.le_refl _)).lower (Nat.le_refl _) hb.size, k3.trans (hb.mono k3.size), k4, k5, Nat.le_trans k6 hb.size⟩
theorem RSt.mark {w w1 wr : World} {bo oc : Nat} {bs : List Bool} {td : List Int} {v : Value} (h : RSt w w1 bo oc bs td wr v) (i : Nat) : RSt w w1 bo oc (bs.set i true) td (wr.setCell ⟨bo, i, none⟩ (.bool true)) v := by
  obtain ⟨k1, k2, k3, k4, k5, k6⟩ := h
  obtain ⟨h1, h2⟩ := k1.put i true
  exact ⟨h1, (k2.outside h2 (.inr (by omega))).lower (Nat.le_refl _) h2.size, Below.outside k3 h2 k4 k3.size, k4, k5, Nat.le_trans k6 h2.size⟩

set_option maxRecDepth 100000 in
set_option maxHeartbeats 3200000 in
theorem reachedIn_any (lo hi : Nat) (v : Value) (c : List In3) (w : World) (hx : SlC lo hi w v c) (hhi : hi ≤ w.heap.size) (hc : Code0 c) :
    Calls Tryd.prog 49 #[v] w (RetV fun u w' => ∃ bo oc bs, bs = rchL c ∧ u = .slice (some ⟨bo, 0, none⟩) bs.length oc ∧ RowB bo w' oc bs ∧ w.heap.size ≤ bo ∧ Below w.heap.size w w') := by
  have hcl := hc.most
  have hcp := hc.pos
  obtain ⟨ca, cc, rfl, _, _⟩ := hx.shape
  have HX := Lib.hid hx
  have HC := Lib.hid hc
  clear hx hc
  obtain ⟨i0, hi0, hz0, hz1, hz2⟩ := info_parts info_bool
  have hn0 : (0 : Int) ≤ (c.length : Int) := by omega
  go_enter Tryd.func49, Tryd.ntmps49
  go_wp2_with ((at_make; refine wpList_make_full _ rfl _ _ 39 rfl w.heap.size 4 i0 (.bool false) 1 Tryd.underlying39 hi0 hz0 hz1 .i64 .i64 c.length c.length c.length rfl rfl rfl rfl ?c1 ?c2 ?c3 ?c4))
  case c1 => rw [hz2]; omega
  case c2 => simp [maxLen]; omega
  case c3 => exact Nat.le_refl _
  case c4 =>
    intro w1 hown hg
    have hb1 : Below w.heap.size w w1 := (Below.refl _ _).grown hg (Nat.le_refl _) (by simp)
    have hs1 := hb1.size
    have hrl : (List.replicate c.length false).length = c.length := by simp
    have hR1 : RowB w.heap.size w1 c.length (List.replicate c.length false) := by
      unfold RowB
      rw [toList_madeCells_one] at hown
      rw [hrl, show bools (List.replicate c.length false) = List.replicate c.length (.bool false) by simp [bools]]
      exact hown
    have hlt1 := hR1.lt
    have hO0 := Own.lit 1 3 w1 (ints [0]) 1 (by omega) rfl
    have HS0 : Hid (RSt w w1 w.heap.size c.length (List.replicate c.length false) [0] (w1.alloc (.cells (ints [0]).toArray 3)) (.slice (some ⟨w1.heap.size, 0, none⟩) 1 1)) :=
      Lib.hid ⟨hR1.below (al_below _ _) hlt1, OwnI.lower (OwnI.len hO0 rfl) (Nat.le_refl _) (by simp), hb1.trans ((al_below _ _).mono hs1), Nat.le_refl _, hlt1, by simp⟩
    have HW0 := Lib.hid (Wk.start HC.out)
    have hcnt : (List.replicate c.length false).count false = c.length := by simp
    clear hown hg hb1 hrl hR1 hO0 hi0 hz0 hz1 hz2
    go_wp2
    go_loopg [4] (3 * c.length + 1) (fun g v wr => ∃ (gt cap : Nat) (td : List Int) (L : Nat) (bs : List Bool), v = .slice (some ⟨gt, 0, none⟩) L cap ∧ td.length = L ∧ 3 * bs.count false + L ≤ g ∧ g ≤ 3 * c.length + 1 ∧ Hid (Wk c bs td) ∧ Hid (RSt w w1 w.heap.size c.length bs td wr (.slice (some ⟨gt, 0, none⟩) L cap)))
    case atStart => exact ⟨_, _, [0], 1, List.replicate c.length false, rfl, rfl, by omega, by omega, HW0, HS0⟩
    case round =>
      obtain ⟨gt, cap, td, L, bs, rfl, hL, hme, hgk, HWk, HS⟩ := hrel
      clear HS0 HW0 hcnt
      have HLL := Lib.hid hL
      clear hL
      have hbl : Hid (bs.length = c.length) := Lib.hid HWk.out.len
      by_cases h0 : 0 < L
      · obtain ⟨m, rfl⟩ : ∃ m, L = m + 1 := ⟨L - 1, by omega⟩
        have HTD : ∃ t x, td = t ++ [x] := ⟨td.dropLast, td.getLast (by intro e; have := HLL.out; rw [e] at this; simp at this), (List.dropLast_concat_getLast _).symm⟩
        obtain ⟨td', x, htd⟩ := HTD
        have hml : td'.length = m := by have := HLL.out; rw [htd, List.length_append] at this; simp at this; omega
        have HML := Lib.hid hml
        have hcap : m + 1 ≤ cap := by
          obtain ⟨_, _, e1, hc1, _⟩ := Own.open HS.out.2.1
          injection e1 with _ e2 e3
          have := HLL.out
          omega
        have hcap2 : (m : Int) ≤ cap := by omega
        obtain ⟨_, _, e, _, _, _, hck⟩ := SlI.get (OwnI.sl HS.out.2.1) m (by have := HLL.out; omega)
        injection e with e
        injection e with e1 e2
        subst e1 e2
        have hxm : td[m]'(by have := HLL.out; omega) = x := by
          simp only [htd, ← hml]
          simp
        rw [hxm] at hck
        have HFr := OwnI.frontR (m := m) HS.out.2.1 HLL.out.symm (by have := HLL.out; omega)
        have htk : td.take m = td' := by rw [htd, ← hml]; simp
        rw [htk] at HFr
        obtain ⟨k1, _, k3, k4, k5, k6⟩ := HS.out
        have HS' : Hid (RSt w w1 w.heap.size c.length bs td' wr (.slice (some ⟨gt, 0, none⟩) m cap)) := Lib.hid ⟨k1, HFr, k3, k4, k5, k6⟩
        rw [htd] at HWk
        obtain ⟨hx0, hx1, _⟩ := HWk.out.lst x (by simp)
        obtain ⟨xn, rfl⟩ : ∃ xn : Nat, x = xn := ⟨x.toNat, by omega⟩
        have hxn : xn < c.length := by omega
        have hxb : xn < bs.length := by rw [hbl.out]; exact hxn
        have o1 := k1.cell xn hxb
        have o2 := k1.free xn
        simp only [Nat.zero_add] at hck
        clear HS HFr htk hxm k1 k3 k4 k5 k6 htd hml hx0
        have HS := HS'
        clear HS'
        cases hbx : bs[xn]
        · skip
          have hbx2 : bs[xn]? = some false := by rw [List.getElem?_eq_getElem hxb, hbx]
          have hcs := count_set hbx2
          rw [hbx] at o1
          have HXr := Lib.hid (HX.out.below HS.out.2.2.1 hhi)
          have hO := HS.out.1.put xn true
          have HS2 := Lib.hid (HS.out.mark xn)
          obtain ⟨wm, hwm⟩ : ∃ wm, wm = wr.setCell ⟨w.heap.size, xn, none⟩ (.bool true) := ⟨_, rfl⟩
          rw [← hwm] at HS2
          have HWM := Lib.hid hwm
          have hsm := HS2.out.2.2.2.2.2
          obtain ⟨b, off, rfl, _, hbh, hbs, q0, q1, q2⟩ := (HX.out.below HS2.out.2.2.1 hhi).get xn hxn
          have hins := HC.out.ins xn hxn
          have hto := fun h => HC.out.to_lt hxn h
          have HMk := Lib.hid (fun ys hy hs => HWk.out.mark HC.out (ys := ys) hy hs)
          simp only [Int.toNat_natCast] at HMk
          have hxe : insAt c xn = c[xn] := insAt_get hxn
          have HSu : Hid (∀ b, Suc c xn b ↔ ((c[xn].kind < 2 ∧ b = xn + 1) ∨ ((c[xn].kind = 1 ∨ c[xn].kind = 2) ∧ b = c[xn].to.toNat))) := Lib.hid fun b => by unfold Suc; rw [hxe]
          rw [hxe] at hins hto
          obtain ⟨y, hy⟩ : ∃ y, y = c[xn] := ⟨_, rfl⟩
          rw [← hy] at q0 q1 q2 hins hto HSu
          clear hy hxe hO hwm hbx hbx2 HWk HS
          obtain ⟨kd, ar, tt⟩ := y
          simp only at q0 q1 q2 hto HSu
          have hki := insB_kind hins
          simp only at hki
          obtain ⟨wx, hwx⟩ : ∃ wx, wx = wm.alloc (.cells #[.int .i64 kd, .int .i64 ar, .int .i64 tt] 33) := ⟨_, rfl⟩
          have KX_ : Blk wm.heap.size (.cells #[.int .i64 kd, .int .i64 ar, .int .i64 tt] 33) wx := by rw [hwx]; exact Blk.new _ _
          have HS := Lib.hid (HS2.out.al (.cells #[.int .i64 kd, .int .i64 ar, .int .i64 tt] 33))
          have HOx : Hid (OwnI w1.heap.size wm.heap.size 3 wx (.slice (some ⟨gt, 0, none⟩) m cap) td') := Lib.hid (HS2.out.2.1.below (by rw [hwx]; exact al_below _ _) (Nat.le_refl _))
          rw [← hwx] at HS
          have HWX := Lib.hid hwx
          have KX := Lib.hid KX_
          have x0 := KX_.cell 0
          have x1 := KX_.cell 1
          have x2 := KX_.cell 2
          have hwx1 : wm.heap.size < wx.heap.size := KX_.lt
          have hw1m := HS2.out.2.2.2.2.2
          clear hwx KX_ HS2 hsm
          go_upto_region 8 with (rw [← HWM.out])
          try rw [← HWM.out]
          go_upto_region 9 with (rw [← HWX.out])
          try rw [← HWX.out]
          clear o1 o2 hck q0 q1 q2
          rcases hki with rfl | rfl | rfl | rfl
          · skip
            have HMk2 := Lib.hid (HMk.out [((xn + 1 : Nat) : Int)] (by intro y hy; simp only [List.mem_singleton] at hy; exact ⟨xn + 1, hy, (HSu.out _).2 (.inl ⟨by decide, rfl⟩)⟩) (by intro b hb; rcases (HSu.out b).1 hb with ⟨_, rfl⟩ | ⟨h, _⟩; simp; omega))
            clear HMk HSu
            have e1 : IntKind.i64.wrap ((xn : Int) + 1) = ((xn + 1 : Nat) : Int) := by rw [IntWalk.i64_in _ (by omega)]; omega
            have HWL6 := Lib.hid (rfl : (0 : Nat) = 0)
            have hown6 := HOx.out
            have hsz6 := HS.out.2.2.2.2.2
            have hL6 := HML.out
            go_wp2_with (at_builtin; refine wpList_app_lit _ rfl _ _ 43 rfl 3 (.int .i64 0) 1 8 Tryd.underlying43 info_int rfl (by decide) (by decide) rfl hown6 1 (ints [(xn : Int) + 1]) rfl rfl (ints_one _) rfl (by omega) hsz6 ?_)
            intro v' w6 h5 h6 _
            obtain ⟨g6, cap6, zs6, hz6, rfl, HS6⟩ := HS.out.app h5 h6 (by rw [hL6]; rfl) (by simp)
            have HZ6 := Lib.hid hz6
            have HL6 : Hid (zs6.length = m + 1) := Lib.hid (by rw [hz6, List.length_append, HML.out]; rfl)
            have k6_ := KX.out.outside h6 (.inr (Nat.le_refl _))
            have y0 := k6_.cell 0
            clear h5 h6 HS hown6 hz6 hL6
            have HS := Lib.hid HS6
            clear HS6
            clear HWL6 x0 x1 x2 k6_
            have HWk2 : Hid (Wk c (bs.set xn true) zs6) := Lib.hid (by rw [HZ6.out]; exact HMk2.out)
            have HLz := HL6
            clear HMk2 hto hins
            clear e1
            go_wp2
            go_roundg (3 * (bs.set xn true).count false + (m + 1))
            case measure => omega
            case rel => exact ⟨_, _, zs6, zs6.length, bs.set xn true, rfl, rfl, by have := HLz.out; omega, by omega, HWk2, HS⟩
          · skip
            have ht := hto (by simp)
            have ht0 := (insB_to hins (by simp)).1
            simp only at ht0
            obtain ⟨t0, rfl⟩ : ∃ t0 : Nat, tt = t0 := ⟨tt.toNat, by omega⟩
            rw [Int.toNat_natCast] at ht
            have HMk2 := Lib.hid (HMk.out [((xn + 1 : Nat) : Int), (t0 : Int)] (by intro y hy; simp only [List.mem_cons, List.not_mem_nil, or_false] at hy; rcases hy with hy | hy; exact ⟨xn + 1, hy, (HSu.out _).2 (.inl ⟨by decide, rfl⟩)⟩; exact ⟨t0, hy, (HSu.out _).2 (.inr ⟨.inl rfl, by simp⟩)⟩) (by intro b hb; rcases (HSu.out b).1 hb with ⟨_, rfl⟩ | ⟨_, rfl⟩; simp; simp))
            clear HMk HSu
            have e1 : IntKind.i64.wrap ((xn : Int) + 1) = ((xn + 1 : Nat) : Int) := by rw [IntWalk.i64_in _ (by omega)]; omega
            have HWL6 := Lib.hid (rfl : (0 : Nat) = 0)
            have hown6 := HOx.out
            have hsz6 := HS.out.2.2.2.2.2
            have hL6 := HML.out
            go_wp2_with (at_builtin; refine wpList_app_lit _ rfl _ _ 43 rfl 3 (.int .i64 0) 1 8 Tryd.underlying43 info_int rfl (by decide) (by decide) rfl hown6 1 (ints [(xn : Int) + 1]) rfl rfl (ints_one _) rfl (by omega) hsz6 ?_)
            intro v' w6 h5 h6 _
            obtain ⟨g6, cap6, zs6, hz6, rfl, HS6⟩ := HS.out.app h5 h6 (by rw [hL6]; rfl) (by simp)
            have HZ6 := Lib.hid hz6
            have HL6 : Hid (zs6.length = m + 1) := Lib.hid (by rw [hz6, List.length_append, HML.out]; rfl)
            have k6_ := KX.out.outside h6 (.inr (Nat.le_refl _))
            have y0 := k6_.cell 0
            have y2 := k6_.cell 2
            clear h5 h6 HS hown6 hz6 hL6
            have HS := Lib.hid HS6
            clear HS6
            clear HWL6 x0 x1 x2 k6_
            have hown7 := HS.out.2.1
            have hsz7 := HS.out.2.2.2.2.2
            have hL7 := HL6.out
            go_wp2_with (at_builtin; refine wpList_app_lit _ rfl _ _ 43 rfl 3 (.int .i64 0) 1 8 Tryd.underlying43 info_int rfl (by decide) (by decide) rfl hown7 1 (ints [(t0 : Int)]) rfl rfl (ints_one _) rfl (by omega) hsz7 ?_)
            intro v' w7 h5 h6 _
            obtain ⟨g7, cap7, zs7, hz7, rfl, HS7⟩ := HS.out.app h5 h6 (by rw [hL7]; rfl) (by simp)
            have HZ7 := Lib.hid hz7
            have HL7 : Hid (zs7.length = m + 1 + 1) := Lib.hid (by rw [hz7, List.length_append, HL6.out]; rfl)
            skip
            clear h5 h6 HS hown7 hz7 hL7
            have HS := Lib.hid HS7
            clear HS7
            have HWk2 : Hid (Wk c (bs.set xn true) zs7) := Lib.hid (by rw [HZ7.out, HZ6.out]; rw [List.append_assoc]; exact HMk2.out)
            have HLz := HL7
            clear HMk2 hto hins
            clear e1
            go_wp2
            go_roundg (3 * (bs.set xn true).count false + (m + 1 + 1))
            case measure => omega
            case rel => exact ⟨_, _, zs7, zs7.length, bs.set xn true, rfl, rfl, by have := HLz.out; omega, by omega, HWk2, HS⟩
          · skip
            have ht := hto (by simp)
            have ht0 := (insB_to hins (by simp)).1
            simp only at ht0
            obtain ⟨t0, rfl⟩ : ∃ t0 : Nat, tt = t0 := ⟨tt.toNat, by omega⟩
            rw [Int.toNat_natCast] at ht
            have HMk2 := Lib.hid (HMk.out [(t0 : Int)] (by intro y hy; simp only [List.mem_singleton] at hy; exact ⟨t0, hy, (HSu.out _).2 (.inr ⟨.inr rfl, by simp⟩)⟩) (by intro b hb; rcases (HSu.out b).1 hb with ⟨h, _⟩ | ⟨_, rfl⟩; omega; simp))
            clear HMk HSu
            have hown7 := HOx.out
            have hsz7 := HS.out.2.2.2.2.2
            have hL7 := HML.out
            go_wp2_with (at_builtin; refine wpList_app_lit _ rfl _ _ 43 rfl 3 (.int .i64 0) 1 8 Tryd.underlying43 info_int rfl (by decide) (by decide) rfl hown7 1 (ints [(t0 : Int)]) rfl rfl (ints_one _) rfl (by omega) hsz7 ?_)
            intro v' w7 h5 h6 _
            obtain ⟨g7, cap7, zs7, hz7, rfl, HS7⟩ := HS.out.app h5 h6 (by rw [hL7]; rfl) (by simp)
            have HZ7 := Lib.hid hz7
            have HL7 : Hid (zs7.length = m + 1) := Lib.hid (by rw [hz7, List.length_append, HML.out]; rfl)
            skip
            clear h5 h6 HS hown7 hz7 hL7
            have HS := Lib.hid HS7
            clear HS7
            have HWk2 : Hid (Wk c (bs.set xn true) zs7) := Lib.hid (by rw [HZ7.out]; exact HMk2.out)
            have HLz := HL7
            clear HMk2 hto hins
            go_wp2
            go_roundg (3 * (bs.set xn true).count false + (m + 1))
            case measure => omega
            case rel => exact ⟨_, _, zs7, zs7.length, bs.set xn true, rfl, rfl, by have := HLz.out; omega, by omega, HWk2, HS⟩
          · skip
            have HMk2 := Lib.hid (HMk.out [] (by intro y hy; simp at hy) (by intro b hb; rcases (HSu.out b).1 hb with ⟨h, _⟩ | ⟨h, _⟩ <;> omega))
            clear HMk HSu
            have HL9 := HML
            have HWk2 : Hid (Wk c (bs.set xn true) td') := Lib.hid (by simpa using HMk2.out)
            have HLz := HML
            clear HMk2 hto hins
            go_wp2
            go_roundg (3 * (bs.set xn true).count false + (m))
            case measure => omega
            case rel => exact ⟨_, _, td', m, bs.set xn true, rfl, HLz.out, by have := HLz.out; omega, by omega, HWk2, HS⟩
        · skip
          have HP := Lib.hid (HWk.out.pop (by rw [Int.toNat_natCast, List.getElem?_eq_getElem hxb, hbx]))
          rw [hbx] at o1
          clear hbx
          go_wp2
          go_roundg (3 * bs.count false + m)
          case measure => omega
          case rel => exact ⟨gt, cap, td', m, bs, rfl, HML.out, Nat.le_refl _, by omega, HP, HS⟩
      · obtain rfl : L = 0 := by omega
        have htd : td = [] := List.eq_nil_of_length_eq_zero HLL.out
        have HE := Lib.hid ((show Wk c bs [] by rw [← htd]; exact HWk.out).done HC.out)
        have HR : Hid (RowB w.heap.size wr c.length bs ∧ Below w.heap.size w wr) := Lib.hid ⟨HS.out.1, HS.out.2.2.1⟩
        have HLn := Lib.hid (show c.length = bs.length from hbl.out.symm)
        clear HWk HS htd hme
        go_wp2
        go_ret
        exact RetV.mk _ rfl ⟨w.heap.size, c.length, bs, HE.out, by rw [← HLn.out]; rfl, HR.out.1, Nat.le_refl _, HR.out.2⟩
end Go.Proofs.YtoondakdjhhehaaDoor
